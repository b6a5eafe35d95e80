/- Proved on the way: The document's One: a line's triple; The texts of a store's terms may be a di; Package box: Pack; Package lines: Print; package store: Exp. Each theorem states its own conditions. -/
import Derived.Test.YtaeiifngjglchaaGreatDoorM20
import Derived.Test.YtaeiifngjglchaaGreatDoorM21
import Derived.Lib.SmallJoins
import Derived.Test.YtaeiifngjglchaaGreatDoorM18
set_option maxHeartbeats 16000000
set_option maxRecDepth 1000000
set_option linter.unusedSimpArgs false
section
namespace Go.Proofs.YtaeiifngjglchaaGreatDoor
open Go.Proofs.Tryz
open Go.RowKit Go.Lib Tv
def TmU (l:Bs) (b:Bool) (g:Nat) (v:Ending) (w':World):Prop:=
 ∃t l' b',v=.returned (.agg (encT t).toArray)/\Rd5 w' g l' b'/\((b'=false/\b=false/\∃r,termW l=some (t,r)/\l'=blk r)\/(b'=true/\l'=[]/\(b=true\/termW l=none)))
theorem zgZ (g:Nat) (l:Bs) (b:Bool) (w:World) (h:Rd5 w g l b) (hb:b=true->l=[]) (ht:Lay w) (hl:l.length<=50000) (h4:4<=g) :
    Calls prog 129 #[.pointer (some ⟨g,0,none⟩)] w fun v w'=>Fr w w' (fun k=>k=g)/\TmU l b g v w':=by
 cases b with
 | true=>
  refine (zjL g l w h ht (hb rfl)).mono ?_;rintro v w' ⟨hf,⟨t,r,e,_⟩ | ⟨_,⟨t,he⟩,hr⟩⟩
  · cases e
  · exact ⟨hf,t,[],true,he,hr,.inr ⟨rfl,rfl,.inl rfl⟩⟩
 | false=>
  refine (zg0 g l w h ht hl h4).mono ?_;rintro v w' ⟨hf,⟨t,r,e,he,hr⟩ | ⟨e,⟨t,he⟩,hr⟩⟩
  · exact ⟨hf,t,_,false,he,hr,.inl ⟨rfl,rfl,r,e,rfl⟩⟩
  · exact ⟨hf,t,[],true,he,hr,.inr ⟨rfl,rfl,.inr e⟩⟩
theorem zdi {l r:Bs} {t:Tm} (h:termW l=some (t,r)):Sml t:=by
 unfold termW at h;cases hx:termR l with
 | none=>rw[hx]at h;cases h
 | some p=>
  rw[hx,Option.bind_some]at h;split at h
  · cases h
    exact VTm.sml ⟨_,by assumption⟩
  · cases h
theorem zdj {l r:Bs} {t:Tm} (h:termW l=some (t,r)):r.length<=l.length:=by
 unfold termW at h;cases hx:termR l with
 | none=>rw[hx]at h;cases h
 | some p=>
  rw[hx,Option.bind_some]at h;split at h
  · cases h
    unfold termR at hx;split at hx
    · rename_i r';cases hy:upTo true 62 false r' with
      | none=>rw[hy]at hx;cases hx
      | some q=>
       rw[hy]at hx;have h2:=zaE hy;cases hx
       simp only[List.length_cons]at *;omega
    · rename_i r';cases hx
      have h4:=(List.dropWhile_sublist isAl (l:=r')).length_le;simp only[List.length_cons]at *;omega
    · rename_i r';unfold litR at hx;cases hy:upTo true 34 true r' with
      | none=>rw[hy]at hx;cases hx
      | some q=>
       rw[hy,Option.bind_some]at hx;have h2:=zaE hy;have h3:=zfQ hx;simp only[List.length_cons]at *;omega
    · cases hx
  · cases h
theorem znu {l l1 l2 l3:Bs} {b1 b2 b3:Bool} {s p o:Tm}
    (h1:(b1=false/\false=false/\∃r,termW l=some (s,r)/\l1=blk r)\/(b1=true/\l1=[]/\(false=true\/termW l=none)))
    (h2:(b2=false/\b1=false/\∃r,termW l1=some (p,r)/\l2=blk r)\/(b2=true/\l2=[]/\(b1=true\/termW l1=none)))
    (h3:(b3=false/\b2=false/\∃r,termW l2=some (o,r)/\l3=blk r)\/(b3=true/\l3=[]/\(b2=true\/termW l2=none))) :
    (b3=false/\threeW l=some (⟨s,p,o⟩,l3)/\SmlT ⟨s,p,o⟩)\/(b3=true/\threeW l=none):=by
 unfold threeW;rcases h3 with ⟨rfl,rfl,r3,e3,rfl⟩ | ⟨rfl,rfl,h3⟩
 · rcases h2 with ⟨_,rfl,r2,e2,rfl⟩ | ⟨h,_⟩
   · rcases h1 with ⟨_,_,r1,e1,rfl⟩ | ⟨h,_⟩
     · refine .inl ⟨rfl,?_,zdi e1,zdi e2,zdi e3⟩;rw[e1,Option.bind_some,e2,Option.bind_some,e3,Option.map_some]
     · cases h
   · cases h
 · refine .inr ⟨rfl,?_⟩;rcases h1 with ⟨rfl,_,r1,e1,rfl⟩ | ⟨rfl,rfl,h1⟩
   · rw[e1,Option.bind_some];rcases h2 with ⟨rfl,_,r2,e2,rfl⟩ | ⟨rfl,rfl,h2⟩
     · rw[e2,Option.bind_some];rcases h3 with h3 | h3
       · cases h3
       · rw[h3];rfl
     · rcases h2 with h2 | h2
       · cases h2
       · rw[h2];rfl
   · rcases h1 with h1 | h1
     · cases h1
     · rw[h1];rfl
theorem A9.all {W:World} {b ty:Nat} {v0 v1 v2 v3 v4 v5 v6 v7 v8:Value} (h:A9 W b ty v0 v1 v2 v3 v4 v5 v6 v7 v8) :
    W.cell? ⟨b,0,none⟩=some v0/\W.cell? ⟨b,1,none⟩=some v1/\W.cell? ⟨b,2,none⟩=some v2/\W.cell? ⟨b,3,none⟩=some v3/\W.cell? ⟨b,4,none⟩=some v4/\W.cell? ⟨b,5,none⟩=some v5/\W.cell? ⟨b,6,none⟩=some v6/\W.cell? ⟨b,7,none⟩=some v7/\W.cell? ⟨b,8,none⟩=some v8:=
 ⟨h.c0,h.c1,h.c2,h.c3,h.c4,h.c5,h.c6,h.c7,h.c8⟩
theorem A9.allf {W:World} {b ty:Nat} {v0 v1 v2 v3 v4 v5 v6 v7 v8:Value} (h:A9 W b ty v0 v1 v2 v3 v4 v5 v6 v7 v8) :
    W.frozen? ⟨b,0,none⟩=false/\W.frozen? ⟨b,1,none⟩=false/\W.frozen? ⟨b,2,none⟩=false/\W.frozen? ⟨b,3,none⟩=false/\W.frozen? ⟨b,4,none⟩=false/\W.frozen? ⟨b,5,none⟩=false/\W.frozen? ⟨b,6,none⟩=false/\W.frozen? ⟨b,7,none⟩=false/\W.frozen? ⟨b,8,none⟩=false:=
 ⟨h.f 0,h.f 1,h.f 2,h.f 3,h.f 4,h.f 5,h.f 6,h.f 7,h.f 8⟩
theorem take1 (l:Bs) (c:UInt8):decide (l.take 1=[c])=decide (l.head?=some c):=by
 cases l with
 | nil=>simp
 | cons a l=>simp
theorem zi5 (l:Bs) (w:World) (h4:4<=w.heap.size) (ht:Lay w) (hl:l.length<=40000) :
    Calls prog 65 #[.string (str l)] w fun v w'=>Below w.heap.size w w'/\OneOut (oneW l) v:=by
 obtain ⟨wa,hwa⟩:∃wa,w.alloc (.cells #[.int .i64 0,.string ⟨#[]⟩,.string ⟨#[]⟩,.int .i64 0,.string ⟨#[]⟩,.string ⟨#[]⟩,.int .i64 0,.string ⟨#[]⟩,.string ⟨#[]⟩] 110)=wa:=⟨_,rfl⟩;have hba:Below w.heap.size w wa:=(by rw[<-hwa];exact br.alloc nL _);have hna:wa.heap.size=w.heap.size+1:=(by rw[<-hwa];simp);have t2a:A9 wa w.heap.size 110 (.int .i64 0) (.string ⟨#[]⟩) (.string ⟨#[]⟩) (.int .i64 0) (.string ⟨#[]⟩) (.string ⟨#[]⟩) (.int .i64 0) (.string ⟨#[]⟩) (.string ⟨#[]⟩):=(by rw[<-hwa];exact A9.new _ _ _ _ _ _ _ _ _ _ _);have HVC:=hid (zat l wa (ht.below hba) (by omega));have HLY:Hid (∀W,Below w.heap.size w W->Lay W):=fun W hW=>ht.below hW;have HFA:=hid ((Fr.of_below hba (Nw w)));have HT2A:=hid t2a;clear ht hba t2a;obtain ⟨y,hy⟩:∃y,validD l=y:=⟨_,rfl⟩;rw[hy]at HVC;go_enter func65,ntmps65
 go_wp2_with fail
 refine HVC.out.mono ?_;rintro v w1 ⟨rfl,hb1⟩;have HF1:=hid (HFA.out.step hb1);have HT21:=hid (HT2A.out.fr (Fr.of_below hb1 fun _=>False) fun h=>h);have hn1:=hb1.size;clear hb1 HVC HFA HT2A;cases y with
 | false=>
  have HSP:Hid (oneW l=none):=(by show oneW l=none;unfold oneW;rw[hy];rfl);obtain ⟨c0,c1,c2,c3,c4,c5,c6,c7,c8⟩:=HT21.out.all;obtain ⟨f0,f1,f2,f3,f4,f5,f6,f7,f8⟩:=HT21.out.allf;clear hy;go_wp2
  (try simp only[Exit.inBlock,Exit.then])
  refine zaO rfl rfl rfl (HT21.out.put (.int .i64 0) (.string ⟨#[]⟩) (.string ⟨#[]⟩) (.int .i64 0) (.string ⟨#[]⟩) (.string ⟨#[]⟩) (.int .i64 0) (.string ⟨#[]⟩) (.string ⟨#[]⟩)) ?_;refine ⟨(HF1.out.nw (sets9 w1 w.heap.size (.int .i64 0) (.string ⟨#[]⟩) (.string ⟨#[]⟩) (.int .i64 0) (.string ⟨#[]⟩) (.string ⟨#[]⟩) (.int .i64 0) (.string ⟨#[]⟩) (.string ⟨#[]⟩)) fun k h=>by omega).nw_below,?_⟩;rw[HSP.out];rfl
 | true=>
  obtain ⟨wb,hwb⟩:∃wb,w1.alloc (.cells #[.string (str l),.bool false] 203)=wb:=⟨_,rfl⟩;have hbb:Below w1.heap.size w1 wb:=(by rw[<-hwb];exact br.alloc nL _);have hrb:Rd5 wb w1.heap.size l false:=(by rw[<-hwb];exact Rd5.new _ _ _);have HB:=hid (zal w1.heap.size l false wb hrb (by omega));have HFB:=hid (HF1.out.step hbb);have HT2B:=hid (HT21.out.fr (Fr.of_below hbb fun _=>False) fun h=>h);have HWB:=hid hwb;clear hbb hrb HF1 HT21 hwb;go_wp2_with fail
  rw[HWB.out];refine HB.out.mono ?_;rintro v w2 ⟨rfl,hr2,hf2⟩;have HF2:=hid (HFB.out.nw hf2 fun k h=>by omega);have HT2C:=hid (HT2B.out.fr hf2 (by omega));have HR2:=hid hr2;have hg2:=hr2.lt;clear hr2 hf2 HB HFB HT2B HWB;have k0:=HR2.out.c0;have hl1:(blk l).length<=40000:=(by have:=zb0 l;omega);have HHS:=hid (zah w1.heap.size (blk l) [35] false w2 HR2.out);have hov:oneW l=if ovr (blk l) then some none else (threeW (blk l)).bind fun q=>tailV q.1 q.2:=by unfold oneW;rw[hy,if_pos rfl]
  have HOV:=hid hov;clear hov hy;obtain ⟨l1,hl1e⟩:∃l1,blk l=l1:=⟨_,rfl⟩;rw[hl1e]at HOV HHS k0 hl1 HR2;have heq:=zbW l1;clear hl1e;by_cases he:l1=[]
  · have HSP:Hid (oneW l=some none):=(by show oneW l=some none;rw[HOV.out,he];rfl);rw[dT he]at heq;clear HHS HOV he;generalize str l1=sl at k0 heq;obtain ⟨c0,c1,c2,c3,c4,c5,c6,c7,c8⟩:=HT2C.out.all;obtain ⟨f0,f1,f2,f3,f4,f5,f6,f7,f8⟩:=HT2C.out.allf;go_wp2
    (try simp only[Exit.inBlock,Exit.then])
    refine zaO rfl rfl rfl (HT2C.out.put (.int .i64 0) (.string ⟨#[]⟩) (.string ⟨#[]⟩) (.int .i64 0) (.string ⟨#[]⟩) (.string ⟨#[]⟩) (.int .i64 0) (.string ⟨#[]⟩) (.string ⟨#[]⟩)) ?_;refine ⟨(HF2.out.nw (sets9 w2 w.heap.size (.int .i64 0) (.string ⟨#[]⟩) (.string ⟨#[]⟩) (.int .i64 0) (.string ⟨#[]⟩) (.string ⟨#[]⟩) (.int .i64 0) (.string ⟨#[]⟩) (.string ⟨#[]⟩)) fun k h=>by omega).nw_below,?_⟩;rw[HSP.out];rfl
  · rw[dF he]at heq;rw[show ([35]:Bs).length=1 from rfl,take1]at HHS;cases hh:decide (l1.head?=some 35) with
    | true=>
     have HSP:Hid (oneW l=some none):=(by show oneW l=some none;rw[HOV.out];unfold ovr;rw[hh];simp);rw[hh]at HHS;clear HOV he hh;generalize str l1=sl at k0 heq;go_wp2_with fail
     refine HHS.out.mono ?_;rintro v w3 ⟨rfl,rfl⟩;clear HHS k0 heq;obtain ⟨c0,c1,c2,c3,c4,c5,c6,c7,c8⟩:=HT2C.out.all;obtain ⟨f0,f1,f2,f3,f4,f5,f6,f7,f8⟩:=HT2C.out.allf;go_wp2
     (try simp only[Exit.inBlock,Exit.then])
     refine zaO rfl rfl rfl (HT2C.out.put (.int .i64 0) (.string ⟨#[]⟩) (.string ⟨#[]⟩) (.int .i64 0) (.string ⟨#[]⟩) (.string ⟨#[]⟩) (.int .i64 0) (.string ⟨#[]⟩) (.string ⟨#[]⟩)) ?_;refine ⟨(HF2.out.nw (sets9 w3 w.heap.size (.int .i64 0) (.string ⟨#[]⟩) (.string ⟨#[]⟩) (.int .i64 0) (.string ⟨#[]⟩) (.string ⟨#[]⟩) (.int .i64 0) (.string ⟨#[]⟩) (.string ⟨#[]⟩)) fun k h=>by omega).nw_below,?_⟩;rw[HSP.out];rfl
    | false=>
     have HOF:Hid (oneW l=(threeW l1).bind fun q=>tailV q.1 q.2):=by
      show _=_;rw[HOV.out];unfold ovr;rw[hh,dF he];rfl
     rw[hh]at HHS;have HTM:=hid (zgZ w1.heap.size l1 false w2 HR2.out (fun h=>by cases h) (HLY.out _ HF2.out.nw_below) (by omega) (by omega));clear HOV he hh;generalize str l1=sl at k0 heq;go_wp2_with fail
     refine HHS.out.mono ?_;rintro v w2' ⟨rfl,rfl⟩;clear HHS k0 heq;go_wp2_with fail
     refine HTM.out.mono ?_;rintro v w3 ⟨hf3,⟨k1,x1,e1⟩,l2,b1,rfl,hr3,hor1⟩;have HF3:=hid (HF2.out.nw hf3 fun k h=>by omega);have HT23:=hid (HT2C.out.fr hf3 (by omega));have HO1:=hid hor1;unfold encT;simp only;obtain ⟨wc,hwc⟩:∃wc,w3.alloc (.cells #[.int .i64 k1,.string (str x1),.string (str e1),.int .i64 0,.string ⟨#[]⟩,.string ⟨#[]⟩,.int .i64 0,.string ⟨#[]⟩,.string ⟨#[]⟩] 110)=wc:=⟨_,rfl⟩;have hbc:Below w3.heap.size w3 wc:=(by rw[<-hwc];exact br.alloc nL _);have h6:A9 wc w3.heap.size 110 (.int .i64 k1) (.string (str x1)) (.string (str e1)) (.int .i64 0) (.string ⟨#[]⟩) (.string ⟨#[]⟩) (.int .i64 0) (.string ⟨#[]⟩) (.string ⟨#[]⟩):=(by rw[<-hwc];exact A9.new _ _ _ _ _ _ _ _ _ _ _);have hn3:=hf3.size;have HFC:=hid (HF3.out.step hbc);have HT2D:=hid (HT23.out.fr (Fr.of_below hbc fun _=>False) fun h=>h);have HRC:=hid (hr3.below hbc);have H6:=hid h6;have hb1e:b1=true->l2=[]:=fun h=>by
      rcases HO1.out with ⟨h',_⟩ | ⟨_,h',_⟩
      · rw[h]at h';cases h'
      · exact h'
     have hl2:l2.length<=40000:=by
      rcases HO1.out with ⟨_,_,r,e,rfl⟩ | ⟨_,rfl,_⟩
      · have h1:=zdj e;have h2:=zb0 r;omega
      · simp
     have HTM2:=hid (zgZ w1.heap.size l2 b1 wc HRC.out hb1e (HLY.out _ HFC.out.nw_below) (by omega) (by omega));have HWC:=hid hwc;clear hf3 hr3 hor1 HTM HF2 HT2C HR2 HF3 HT23 hbc h6 hwc hb1e;go_wp2_with fail
     rw[HWC.out];refine HTM2.out.mono ?_;rintro v w2a ⟨hf,⟨k2,x2,e2⟩,l3,b2,rfl,hr,hor⟩;have H62:=hid (H6.out.fr hf (by omega));have HF2a:=hid (HFC.out.nw hf fun k h=>by omega);have HT22a:=hid (HT2D.out.fr hf (by omega));have HO2:=hid hor;have hn2:=hf.size;have hr':=hr.fr (zb9 w2a w3.heap.size (.int .i64 k2) (.string (str x2)) (.string (str e2))) (by omega);obtain ⟨w2b,hw2b⟩:∃W,((w2a.setCell ⟨w3.heap.size,3,none⟩ (.int .i64 k2)).setCell ⟨w3.heap.size,4,none⟩ (.string (str x2))).setCell ⟨w3.heap.size,5,none⟩ (.string (str e2))=W:=⟨_,rfl⟩;have hs2b:=zb9 w2a w3.heap.size (.int .i64 k2) (.string (str x2)) (.string (str e2));have h62:=H62.out.put1 (.int .i64 k2) (.string (str x2)) (.string (str e2));rw[hw2b]at hr' hs2b h62;have HF2b:=hid (HF2a.out.nw hs2b fun k h=>by omega);have HT22b:=hid (HT22a.out.fr hs2b (by omega));have H62b:=hid h62;have HR2b:=hid hr';have hm2:=hs2b.size;have c3:=H62.out.c3;have c4:=H62.out.c4;have c5:=H62.out.c5;have f3:=H62.out.f 3;have f4:=H62.out.f 4;have f5:=H62.out.f 5;have HW2b:=hid hw2b;clear hf hr hor hr' hs2b h62 hw2b HTM2 H6 HFC HT2D HRC HWC H62 HF2a HT22a;unfold encT;simp only;have hb2e:b2=true->l3=[]:=fun h=>by
      rcases HO2.out with ⟨h',_⟩ | ⟨_,h',_⟩
      · rw[h]at h';cases h'
      · exact h'
     have hl3:l3.length<=40000:=by
      rcases HO2.out with ⟨_,_,r,e,rfl⟩ | ⟨_,rfl,_⟩
      · have h1:=zdj e;have h2:=zb0 r;omega
      · simp
     have HTM3:=hid (zgZ w1.heap.size l3 b2 w2b HR2b.out hb2e (HLY.out _ HF2b.out.nw_below) (by omega) (by omega));clear hb2e;go_wp2_with fail
     rw[HW2b.out];refine HTM3.out.mono ?_;rintro v w3a ⟨hf,⟨k3,x3,e3⟩,l4,b3,rfl,hr,hor⟩;have H63:=hid (H62b.out.fr hf (by omega));have HF3a:=hid (HF2b.out.nw hf fun k h=>by omega);have HT23a:=hid (HT22b.out.fr hf (by omega));have HO3:=hid hor;have hn3:=hf.size;have hr':=hr.fr (zbB w3a w3.heap.size (.int .i64 k3) (.string (str x3)) (.string (str e3))) (by omega);obtain ⟨w3b,hw3b⟩:∃W,((w3a.setCell ⟨w3.heap.size,6,none⟩ (.int .i64 k3)).setCell ⟨w3.heap.size,7,none⟩ (.string (str x3))).setCell ⟨w3.heap.size,8,none⟩ (.string (str e3))=W:=⟨_,rfl⟩;have hs3b:=zbB w3a w3.heap.size (.int .i64 k3) (.string (str x3)) (.string (str e3));have h63:=H63.out.put2 (.int .i64 k3) (.string (str x3)) (.string (str e3));rw[hw3b]at hr' hs3b h63;have HF3b:=hid (HF3a.out.nw hs3b fun k h=>by omega);have HT23b:=hid (HT23a.out.fr hs3b (by omega));have H63b:=hid h63;have HR3b:=hid hr';have hm3:=hs3b.size;have c6:=H63.out.c6;have c7:=H63.out.c7;have c8:=H63.out.c8;have f6:=H63.out.f 6;have f7:=H63.out.f 7;have f8:=H63.out.f 8;have HW3b:=hid hw3b;clear hf hr hor hr' hs3b h63 hw3b HTM3 H62b HF2b HT22b HR2b HW2b H63 HF3a HT23a;unfold encT;simp only;have hb3e:b3=true->l4=[]:=fun h=>by
      rcases HO3.out with ⟨h',_⟩ | ⟨_,h',_⟩
      · rw[h]at h';cases h'
      · exact h'
     have hl4:l4.length<=40000:=by
      rcases HO3.out with ⟨_,_,r,e,rfl⟩ | ⟨_,rfl,_⟩
      · have h1:=zdj e;have h2:=zb0 r;omega
      · simp
     have H3:=znu (by rcases HO1.out with ⟨a,_,c⟩ | h;exact .inl ⟨a,rfl,c⟩;exact .inr h) HO2.out HO3.out;have r1:=HR3b.out.c1;rw[<-HW3b.out]at r1;clear HO1 HO2 HO3 hb3e c3 c4 c5 f3 f4 f5;rcases H3 with ⟨rfl,h3w,hsm⟩ | ⟨rfl,h3w⟩
     · have HOG:Hid (oneW l=tailV ⟨⟨k1,x1,e1⟩,⟨k2,x2,e2⟩,⟨k3,x3,e3⟩⟩ l4):=(by show _=_;rw[HOF.out,h3w];rfl);have HHS4:=hid (zah w1.heap.size l4 [46] false w3b HR3b.out);rw[show ([46]:Bs).length=1 from rfl,take1]at HHS4;have HLW:=hid (HLY.out _ HF3b.out.nw_below);have HSM:=hid hsm;clear h3w hsm HOF;by_cases hh:l4.head?=some 46
       · obtain ⟨q,rfl⟩:∃q,l4=46::q:=by
          cases l4 with
          | nil=>cases hh
          | cons a q=>simp at hh;exact ⟨q,by rw[hh]⟩
         rw[dT hh]at HHS4;have HIS:=hid (zjd ⟨⟨k1,x1,e1⟩,⟨k2,x2,e2⟩,⟨k3,x3,e3⟩⟩ HSM.out w3b HLW.out);have HOG2:Hid (oneW l=if ovr (blk q) && triT ⟨⟨k1,x1,e1⟩,⟨k2,x2,e2⟩,⟨k3,x3,e3⟩⟩ then some (some ⟨⟨k1,x1,e1⟩,⟨k2,x2,e2⟩,⟨k3,x3,e3⟩⟩) else none):=HOG.out;unfold encTri encT at HIS;simp only[List.cons_append,List.nil_append]at HIS;obtain ⟨u,hu⟩:∃u,triT ⟨⟨k1,x1,e1⟩,⟨k2,x2,e2⟩,⟨k3,x3,e3⟩⟩=u:=⟨_,rfl⟩;rw[hu]at HIS HOG2;clear hh HOG HSM HLW hu;obtain ⟨d0,d1,d2,d3,d4,d5,d6,d7,d8⟩:=H63b.out.all;go_wp2_with fail
         rw[HW3b.out];refine HHS4.out.mono ?_;rintro v w4 ⟨rfl,rfl⟩;go_wp2_with fail
         refine HIS.out.mono ?_;rintro v w5 ⟨rfl,hb5⟩;have HF5:=hid (HF3b.out.step hb5);have HT25:=hid (HT23b.out.fr (Fr.of_below hb5 fun _=>False) fun h=>h);have H65:=hid (H63b.out.fr (Fr.of_below hb5 fun _=>False) fun h=>h);have HR5:=hid (HR3b.out.below hb5);have hn5:=hb5.size;clear hb5 HF3b HT23b H63b HR3b HHS4 HIS HW3b d0 d1 d2 d3 d4 d5 d6 d7 d8 c6 c7 c8 f6 f7 f8 r1;cases u with
         | false=>
          have HSP:Hid (oneW l=none):=(by show _=_;rw[HOG2.out];simp);clear HOG2;obtain ⟨c0,c1,c2,c3,c4,c5,c6,c7,c8⟩:=HT25.out.all;obtain ⟨f0,f1,f2,f3,f4,f5,f6,f7,f8⟩:=HT25.out.allf;go_wp2
          (try simp only[Exit.inBlock,Exit.then])
          refine zaO rfl rfl rfl (HT25.out.put (.int .i64 0) (.string ⟨#[]⟩) (.string ⟨#[]⟩) (.int .i64 0) (.string ⟨#[]⟩) (.string ⟨#[]⟩) (.int .i64 0) (.string ⟨#[]⟩) (.string ⟨#[]⟩)) ?_;refine ⟨(HF5.out.nw (sets9 w5 w.heap.size (.int .i64 0) (.string ⟨#[]⟩) (.string ⟨#[]⟩) (.int .i64 0) (.string ⟨#[]⟩) (.string ⟨#[]⟩) (.int .i64 0) (.string ⟨#[]⟩) (.string ⟨#[]⟩)) fun k h=>by omega).nw_below,?_⟩;rw[HSP.out];rfl
         | true=>
          have hql:(46::q).length<=40000:=hl4;simp only[List.length_cons]at hql;have k0:=HR5.out.c0;have kf:=HR5.out.f 0;have hsd:(str (46::q)).extract 1 (str (46::q)).size=str q:=(by rw[zab];exact zaW (46::q) 1);have hsz:(1:Int)<=((str (46::q)).size:Int):=(by rw[zab];simp only[List.length_cons];omega);have hr6:=HR5.out.set0 q;generalize str (46::q)=S at k0 hsd hsz;have hs6:=Fr.set1 w5 w1.heap.size 0 (.string (str q));obtain ⟨w6,hw6⟩:∃W,w5.setCell ⟨w1.heap.size,0,none⟩ (.string (str q))=W:=⟨_,rfl⟩;rw[hw6]at hr6 hs6;have HBL:=hid (zal w1.heap.size q false w6 hr6 (by omega));have HF6:=hid (HF5.out.nw hs6 fun k h=>by omega);have HT26:=hid (HT25.out.fr hs6 (by omega));have H66:=hid (H65.out.fr hs6 (by omega));have hn6:=hs6.size;have HW6:=hid hw6;clear hr6 hs6 hw6;go_wp2_with fail
          rw[HW6.out];refine HBL.out.mono ?_;rintro v w7 ⟨rfl,hr7,hf7⟩;have HF7:=hid (HF6.out.nw hf7 fun k h=>by omega);have HT27:=hid (HT26.out.fr hf7 (by omega));have H67:=hid (H66.out.fr hf7 (by omega));have hn7:=hf7.size;have HHS7:=hid (zah w1.heap.size (blk q) [35] false w7 hr7);rw[show ([35]:Bs).length=1 from rfl,take1]at HHS7;have k0:=hr7.c0;have heq:=zbW (blk q);clear hr7 hf7 HBL HF6 HT26 H66 HF5 HT25 H65 HR5 HW6 hsd hsz kf;by_cases he:blk q=[]
          · have HSP:Hid (oneW l=some (some ⟨⟨k1,x1,e1⟩,⟨k2,x2,e2⟩,⟨k3,x3,e3⟩⟩)):=(by show _=_;rw[HOG2.out,he];rfl);rw[dT he]at heq;clear HHS7 HOG2 he;generalize str (blk q)=sl at k0 heq;obtain ⟨a0,a1,a2,a3,a4,a5,a6,a7,a8⟩:=H67.out.all;obtain ⟨c0,c1,c2,c3,c4,c5,c6,c7,c8⟩:=HT27.out.all;obtain ⟨f0,f1,f2,f3,f4,f5,f6,f7,f8⟩:=HT27.out.allf;go_wp2
            (try simp only[Exit.inBlock,Exit.then])
            refine zaO rfl rfl rfl (HT27.out.put (.int .i64 k1) (.string (str x1)) (.string (str e1)) (.int .i64 k2) (.string (str x2)) (.string (str e2)) (.int .i64 k3) (.string (str x3)) (.string (str e3))) ?_;refine ⟨(HF7.out.nw (sets9 w7 w.heap.size (.int .i64 k1) (.string (str x1)) (.string (str e1)) (.int .i64 k2) (.string (str x2)) (.string (str e2)) (.int .i64 k3) (.string (str x3)) (.string (str e3))) fun k h=>by omega).nw_below,?_⟩;rw[HSP.out];rfl
          · rw[dF he]at heq;cases hh:decide ((blk q).head?=some 35) with
            | true=>
             have HSP:Hid (oneW l=some (some ⟨⟨k1,x1,e1⟩,⟨k2,x2,e2⟩,⟨k3,x3,e3⟩⟩)):=(by show _=_;rw[HOG2.out];unfold ovr;rw[hh];simp);rw[hh]at HHS7;clear HOG2 he hh;generalize str (blk q)=sl at k0 heq;go_wp2_with fail
             refine HHS7.out.mono ?_;rintro v w8 ⟨rfl,rfl⟩;clear HHS7 k0 heq;obtain ⟨a0,a1,a2,a3,a4,a5,a6,a7,a8⟩:=H67.out.all;obtain ⟨c0,c1,c2,c3,c4,c5,c6,c7,c8⟩:=HT27.out.all;obtain ⟨f0,f1,f2,f3,f4,f5,f6,f7,f8⟩:=HT27.out.allf;go_wp2
             (try simp only[Exit.inBlock,Exit.then])
             refine zaO rfl rfl rfl (HT27.out.put (.int .i64 k1) (.string (str x1)) (.string (str e1)) (.int .i64 k2) (.string (str x2)) (.string (str e2)) (.int .i64 k3) (.string (str x3)) (.string (str e3))) ?_;refine ⟨(HF7.out.nw (sets9 w8 w.heap.size (.int .i64 k1) (.string (str x1)) (.string (str e1)) (.int .i64 k2) (.string (str x2)) (.string (str e2)) (.int .i64 k3) (.string (str x3)) (.string (str e3))) fun k h=>by omega).nw_below,?_⟩;rw[HSP.out];rfl
            | false=>
             have HSP:Hid (oneW l=none):=(by show _=_;rw[HOG2.out];unfold ovr;rw[hh,dF he];rfl);rw[hh]at HHS7;clear HOG2 he hh;generalize str (blk q)=sl at k0 heq;go_wp2_with fail
             refine HHS7.out.mono ?_;rintro v w8 ⟨rfl,rfl⟩;clear HHS7 k0 heq;obtain ⟨c0,c1,c2,c3,c4,c5,c6,c7,c8⟩:=HT27.out.all;obtain ⟨f0,f1,f2,f3,f4,f5,f6,f7,f8⟩:=HT27.out.allf;go_wp2
             (try simp only[Exit.inBlock,Exit.then])
             refine zaO rfl rfl rfl (HT27.out.put (.int .i64 0) (.string ⟨#[]⟩) (.string ⟨#[]⟩) (.int .i64 0) (.string ⟨#[]⟩) (.string ⟨#[]⟩) (.int .i64 0) (.string ⟨#[]⟩) (.string ⟨#[]⟩)) ?_;refine ⟨(HF7.out.nw (sets9 w8 w.heap.size (.int .i64 0) (.string ⟨#[]⟩) (.string ⟨#[]⟩) (.int .i64 0) (.string ⟨#[]⟩) (.string ⟨#[]⟩) (.int .i64 0) (.string ⟨#[]⟩) (.string ⟨#[]⟩)) fun k h=>by omega).nw_below,?_⟩;rw[HSP.out];rfl
       · have HSP:Hid (oneW l=none):=by
          show _=_;rw[HOG.out];unfold tailV;split
          · exact absurd rfl hh
          · rfl
         rw[dF hh]at HHS4;clear hh HOG HLW HSM;go_wp2_with fail
         rw[HW3b.out];refine HHS4.out.mono ?_;rintro v w4 ⟨rfl,rfl⟩;clear HHS4 HW3b c6 c7 c8 f6 f7 f8 r1;obtain ⟨c0,c1,c2,c3,c4,c5,c6,c7,c8⟩:=HT23b.out.all;obtain ⟨f0,f1,f2,f3,f4,f5,f6,f7,f8⟩:=HT23b.out.allf;go_wp2
         (try simp only[Exit.inBlock,Exit.then])
         refine zaO rfl rfl rfl (HT23b.out.put (.int .i64 0) (.string ⟨#[]⟩) (.string ⟨#[]⟩) (.int .i64 0) (.string ⟨#[]⟩) (.string ⟨#[]⟩) (.int .i64 0) (.string ⟨#[]⟩) (.string ⟨#[]⟩)) ?_;refine ⟨(HF3b.out.nw (sets9 w4 w.heap.size (.int .i64 0) (.string ⟨#[]⟩) (.string ⟨#[]⟩) (.int .i64 0) (.string ⟨#[]⟩) (.string ⟨#[]⟩) (.int .i64 0) (.string ⟨#[]⟩) (.string ⟨#[]⟩)) fun k h=>by omega).nw_below,?_⟩;rw[HSP.out];rfl
     · have HSP:Hid (oneW l=none):=(by show _=_;rw[HOF.out,h3w];rfl);clear h3w HOF;have hsx:=zbB w3a w3.heap.size (.int .i64 k3) (.string (str x3)) (.string (str e3));have hta:=HT23b.out;have hfa:=HF3b.out;rw[<-HW3b.out]at hta hfa;have HTA:=hid hta;have HFA:=hid hfa;clear hta hfa hsx;obtain ⟨c0,c1,c2,c3,c4,c5,c6,c7,c8⟩:=HTA.out.all;obtain ⟨f0,f1,f2,f3,f4,f5,f6,f7,f8⟩:=HTA.out.allf;go_wp2
       (try simp only[Exit.inBlock,Exit.then])
       refine zaO rfl rfl rfl (HTA.out.put (.int .i64 0) (.string ⟨#[]⟩) (.string ⟨#[]⟩) (.int .i64 0) (.string ⟨#[]⟩) (.string ⟨#[]⟩) (.int .i64 0) (.string ⟨#[]⟩) (.string ⟨#[]⟩)) ?_;refine ⟨(HFA.out.nw (sets9 _ w.heap.size (.int .i64 0) (.string ⟨#[]⟩) (.string ⟨#[]⟩) (.int .i64 0) (.string ⟨#[]⟩) (.string ⟨#[]⟩) (.int .i64 0) (.string ⟨#[]⟩) (.string ⟨#[]⟩)) fun k h=>by omega).nw_below,?_⟩;rw[HSP.out];rfl
end Go.Proofs.YtaeiifngjglchaaGreatDoor
end
section
namespace Go.Proofs.YtaeiifngjglchaaGreatDoor
open Go.Proofs.Tryz
open Go.RowKit Go.Lib Tv Go.Sort Go.Proofs.YtaeiifngjglchaaGreatDoorW.PrintWords
def tsS (ts:List VTm):List ByteArray:=ts.map fun t=>str (shw t.1)
theorem zaN (ts:List VTm):(tsS ts).length=ts.length:=by simp[tsS]
theorem zeY (ts:List VTm) (i:Nat) (h:i<ts.length):(tsS ts)[i]'(by rw[zaN];exact h)=str (shw ts[i].1):=by simp[tsS]
theorem zm4 (ts:List VTm):Fd.tx (tsS ts)=texts ts:=by
 unfold Fd.tx tsS texts;rw[List.map_map];apply List.map_congr_left;intro t _;exact zad _
theorem StP.mayS {L:List VTri} {ts:List VTm} (h:StP L ts):Fd.May (tsS ts):=by
 refine ⟨by rw[zaN];exact h.tlen,fun i hi=>?_⟩;rw[zaN]at hi;have hs:=za0 ts[i].1 ts[i].2;refine ⟨by rw[zaN];exact hi,?_,?_,fun h0=>?_⟩
 · rw[zeY ts i hi,zab];exact hs.1
 · rw[zeY ts i hi,zab];exact hs.2
 · rw[zeY ts i hi,zeY ts (i-1) (by omega),bytesLess_eq,Lib.toList_data,Lib.toList_data,zad,zad,decide_eq_true_eq];exact (zfb h.terms.1 (List.getElem?_eq_getElem (by omega)) (List.getElem?_eq_getElem hi)).2 (by omega)
theorem zlt (ts:List VTm) (k:Nat) (t:VTm) (h:ts[k]?=some t):Fd.sts ((tsS ts).take (k+1))=Fd.sts ((tsS ts).take k)++[.string (str (shw t.1))]:=by
 rw[List.take_add_one];unfold tsS Fd.sts;rw[List.getElem?_map,h,List.map_append];rfl
theorem znI (ts:List VTm) (L:List VTri):(L.map (idsOf ts)).flatMap encI=nums .i64 (Pk.ints (rowN ts L)):=by
 unfold rowN;induction L with
 | nil=>rfl
 | cons t L ih=>
  rw[List.map_cons,List.flatMap_cons,ih,List.flatMap_cons];unfold nums Pk.ints;rw[List.map_append,List.map_append];rfl
theorem zf8 (l:List Nat) (d:Nat):nums .u8 (Pk.ints (Pk.packB l d))=Fd.bys ((Pk.packB l d).map UInt8.ofNat):=by
 unfold nums Pk.ints Fd.bys;rw[List.map_map,List.map_map];apply List.map_congr_left;intro x hx;have:=Pk.pk_lt l d _ x hx;show Value.int .u8 (x:Int)=.int .u8 ((UInt8.ofNat x).toNat:Int);rw[UInt8.toNat_ofNat']
 congr 1
 omega
theorem zgL (ts:List VTm) (L:List VTri):(bodyN ts L).length=2+(Pk.packB (rowN ts L) (Lib.bitLen ts.length)).length:=by
 show (List.map UInt8.ofNat (Pk.packB (rowN ts L) (Lib.bitLen ts.length))).length+1+1=_;rw[List.length_map];omega
end Go.Proofs.YtaeiifngjglchaaGreatDoor
end
section
namespace Go.Proofs.YtaeiifngjglchaaGreatDoor
open Go.Proofs.Tryz
open Go.RowKit Go.Lib Go.Sort
open Bx (Sec MayB boxB hdsB bodB w24 crcN headB)
structure SecV where
 id:Nat
 A:Option Addr
 c:Nat
 body:List UInt8
instance:Inhabited SecV:=⟨⟨0,none,0,[]⟩⟩
def SecV.sec (x:SecV):Sec:=⟨x.id,x.body⟩
def encS (x:SecV):List Value:=[.int .i64 x.id,.slice x.A x.body.length x.c]
theorem zmO (x:SecV):(encS x).length=2:=rfl
def secs (xs:List SecV):List Sec:=xs.map SecV.sec
structure SecRow (w:World) (B:Nat) (v:Value) (xs:List SecV):Prop where
 own:w.ownsRow B 85 2 v xs.length (xs.flatMap encS)
 part:∀x∈xs,Fd.Seg w x.A x.body.length (Fd.bys x.body)/\x.body.length<=x.c
theorem SecRow.below {w w1:World} {B:Nat} {v:Value} {xs:List SecV} (h:SecRow w B v xs) (hb:Below w.heap.size w w1):SecRow w1 B v xs:=
 ⟨Fd.own_below h.own hb,fun x hx=>⟨(h.part x hx).1.below hb,(h.part x hx).2⟩⟩
theorem SecRow.at_ {w:World} {B n g cap:Nat} {xs:List SecV} (h:SecRow w B (.slice (some ⟨g,0,none⟩) n cap) xs) (i:Nat) (x:SecV) (hi:xs[i]?=some x) :
    w.cell? ⟨g,i*2,none⟩=some (.int .i64 x.id)/\w.cell? ⟨g,i*2+1,none⟩=some (.slice x.A x.body.length x.c):=by
 rcases zaf h.own with ⟨h,_⟩ | ⟨g',cap',hv,_,_,_,hc⟩
 · cases h
 · cases hv
   have hil:i<xs.length:=(List.getElem?_eq_some_iff.1 hi).1;have key:∀j,j<2->(xs.flatMap encS)[i*2+j]?=(encS x)[j]?:=by
    intro j hj;rw[zaH zmO xs (i*2+j) (by omega)];rw[show (i*2+j) / 2=i from by omega,show (i*2+j) % 2=j from by omega,List.getD_eq_getElem?_getD,hi];rfl
   exact ⟨hc (i*2) _ (key 0 (by decide)),hc (i*2+1) _ (key 1 (by decide))⟩
theorem zdF {w:World} {B n c k:Nat} {e:TypeId} {A:Option Addr} {xs:List Value} (h:w.ownsRow B e k (.slice A n c) n xs) (hne:0<n):∃g,A=some ⟨g,0,none⟩/\g<w.heap.size/\n<=c:=by
 rcases zaf h with ⟨_,h⟩ | ⟨g,cap,hv,hB,hg,hc,_⟩
 · omega
 · cases hv;exact ⟨g,rfl,hg,hc⟩
def Rest (last sz:Nat) (l:List Sec):Prop:=Bx.Ids last l/\sz+(bodB l).length<=100000
theorem zgM (s:Sec) (l:List Sec):(bodB (s::l)).length=s.body.length+(bodB l).length:=by
 unfold bodB;rw[List.flatMap_cons,List.length_append]
theorem rest_start (l:List Sec) (h:l.length<=8):MayB l↔Rest 0 (9+7*l.length) l:=⟨fun m=>⟨m.2.1,m.2.2⟩,fun r=>⟨h,r.1,r.2⟩⟩
theorem zir (la:Nat) (s:Sec) (l:List Sec):Bx.Ids la (s::l)↔la<s.id/\s.id<=255/\Bx.Ids s.id l:=Iff.rfl
theorem zj4 {la sz:Nat} {s:Sec} {l:List Sec} (h1:la<s.id) (h2:s.id<=255):Rest la sz (s::l)↔Rest s.id (sz+s.body.length) l:=by
 unfold Rest;rw[zgM,zir];constructor
 · rintro ⟨⟨_,_,h⟩,k⟩;exact ⟨h,by omega⟩
 · rintro ⟨h,k⟩;exact ⟨⟨h1,h2,h⟩,by omega⟩
theorem znK {la sz:Nat} {s:Sec} {l:List Sec} (h:s.id<=la\/255<s.id\/100000<sz+s.body.length):¬Rest la sz (s::l):=by
 unfold Rest;rw[zgM,zir];rintro ⟨⟨a,b,_⟩,k⟩;omega
theorem zkM (l:List Sec) (s:Sec):hdsB (l++[s])=hdsB l++Bx.hdB s:=by unfold hdsB;simp
theorem zlg (l:List Sec) (s:Sec):bodB (l++[s])=bodB l++s.body:=by unfold bodB;simp
theorem za3 (xs:List SecV):(secs xs).length=xs.length:=by simp[secs]
theorem zfW (xs:List SecV) (k:Nat) (x:SecV) (h:xs[k]?=some x):(secs xs).take (k+1)=(secs xs).take k++[x.sec]:=by
 rw[List.take_add_one];unfold secs;rw[List.getElem?_map,h];rfl
theorem zjX (xs:List SecV) (k:Nat) (x:SecV) (h:xs[k]?=some x):(secs xs).drop k=x.sec::(secs xs).drop (k+1):=by
 have hk:=(List.getElem?_eq_some_iff.1 h).1;rw[List.drop_eq_getElem_cons (by rw[za3];exact hk)]
 congr 1
 unfold secs;rw[List.getElem_map,(List.getElem?_eq_some_iff.1 h).2]
def PackAns (w:World) (l:List Sec) (e:Ending) (w':World):Prop:=
 ((MayB l/\∃A c,e=.returned (.tuple #[.slice A (boxB l).length c,.int .i64 0])/\w'.ownsRow w.heap.size 5 1 (.slice A (boxB l).length c) (boxB l).length (Fd.bys (boxB l)))\/(¬MayB l/\e=.returned (.tuple #[.slice none 0 0,.int .i64 1])))/\Below w.heap.size w w'
theorem PackAns.no {w w':World} {l:List Sec} {e:Ending} (h:¬MayB l) (he:e=.returned (.tuple #[.slice none 0 0,.int .i64 1])) (hb:Below w.heap.size w w'):PackAns w l e w':=⟨.inr ⟨h,he⟩,hb⟩
structure Acc (w wr:World) (v:Value) (acc:List UInt8):Prop where
 own:wr.ownsRow w.heap.size 5 1 v acc.length (Fd.bys acc)
 below:Below w.heap.size w wr
theorem Acc.step {w wr w2:World} {v:Value} {acc:List UInt8} (h:Acc w wr v acc) (hb:Below wr.heap.size wr w2):Acc w w2 v acc:=⟨Fd.own_below h.own hb,h.below.trans (hb.mono h.below.size)⟩
theorem Acc.put {w wr w2:World} {v v':Value} {acc more:List UInt8} (h:Acc w wr v acc) (hg:wr.grownBy w2 v.ownBlock) (hown:w2.ownsRow w.heap.size 5 1 v' (acc.length+more.length) (Fd.bys acc++Fd.bys more)):Acc w w2 v' (acc++more):=by
 refine ⟨?_,h.below.grown hg h.below.size fun k hk=>(h.own.lt k hk).1⟩;rw[List.length_append,Fd.zhQ];exact hown
theorem zji (n:Nat) (hn:n<=8):Fd.bys [84,82,73,86,1,UInt8.ofNat n]=[.int .u8 84,.int .u8 82,.int .u8 73,.int .u8 86,.int .u8 1]++[.int .u8 n]:=by
 have e:((UInt8.ofNat n).toNat:Int)=n:=(by rw[UInt8.toNat_ofNat'];omega);show [Value.int .u8 84,.int .u8 82,.int .u8 73,.int .u8 86,.int .u8 1,.int .u8 ((UInt8.ofNat n).toNat:Int)]=_;rw[e];rfl
theorem ziC {W w':World} {bx B n:Nat} {v:Value} {cs:Array Value} {xs:List Value} (h:W.heap[bx]?=some (.cells cs 85 (0,0))) (ho:W.ownsRow B 5 1 v n xs) (hg:W.grownBy w' v.ownBlock):w'.heap[bx]?=some (.cells cs 85 (0,0)):=
 (hg.block bx (Array.getElem?_eq_some_iff.1 h).1 (fun e=>zho ho h (by decide) bx e.symm rfl)).trans h
theorem zco (xs:List SecV) (v:Value) (B:Nat) (w:World) (h:SecRow w B v xs) (hbs:∀x∈xs,x.body.length<=100000/\x.id<=1000000) (hn:xs.length<=255) :
    Calls prog 41 #[v] w (PackAns w (secs xs)):=by
 obtain ⟨A,c,rfl⟩:=Fd.zac h.own;have HROW:Hid (∀w1,Below w.heap.size w w1->SecRow w1 B (.slice A xs.length c) xs):=fun w1 hb=>h.below hb;have HBS:=hid hbs;have hsl:=za3 xs;clear h hbs;by_cases hn8:xs.length<=8
 · have HST:Hid (MayB (secs xs)↔Rest 0 (9+7*xs.length) (secs xs)):=by
    have:=rest_start (secs xs) (by omega);rw[hsl]at this;exact this
   have HH0:=hid (zji xs.length hn8);clear hsl;have hw8:IntKind.u8.wrap (xs.length:Int)=xs.length:=(by rw[IntKind.wrap_u8];omega);have hm1:IntKind.i64.wrap (7*(xs.length:Int))=7*(xs.length:Int):=(wI (by omega));obtain ⟨i0,hi,hz0,hz1,hz2⟩:=info_parts Fd.info5;have kc:=fun (w:World) (C:Array Value) (n c:Nat)=>Lib.run_convert_bytes_const (P:=prog) w 32 5 C n c underlying32 underlying5;go_enter func41,ntmps41
   go_wp2_with (at_builtin;refine wpList_append_grows _ rfl _ _ 32 rfl 5 i0 (.int .u8 0) 1 1 underlying32 hi hz0 hz1 hz2 rfl (by decide) (some ⟨w.heap.size,0,none⟩) 5 5 [.int .u8 84,.int .u8 82,.int .u8 73,.int .u8 86,.int .u8 1] rfl (fun h=>by cases h) rfl ?a1 ⟨w.heap.size+1,0,none⟩ 1 1 [.int .u8 xs.length] rfl rfl ?a2 ?a3 (by decide) ?a4 (by decide) ?_)
   case a1=>
    intro b hb j u hj;cases hb
    rw[Fd.add_zero',World.cell?_alloc_past _ _ _ (by simp)];rw[World.cell?_alloc_mark];simpa using hj
   case a2=>
    intro j u hj
    match j,hj with
    | 0,hj=>simp at hj;subst hj;simp[Addr.add]
   case a3=>intro u hu;simp at hu;subst hu;rfl
   case a4=>unfold maxLen;omega
   intro v2 w2 hown2 hg2;have hA0:Acc w w2 v2 [84,82,73,86,1,UInt8.ofNat xs.length]:=by
    refine ⟨?_,?_⟩
    · rw[HH0.out];exact zam hown2 (by omega)
    · exact (((Below.refl _ w).alloc nL _).alloc (by simp) _).grown hg2 (by simp;omega) (fun k hk=>by cases hk)
   have HA0:=hid hA0;clear hown2 hg2 hA0 kc HH0;have hnz:(xs.length:Int)<=8:=(by omega);go_wp2;go_loopw [4,5,6,28] (fun v4 v5 v6 v28 wr=>∃(k sz la:Nat) (acc:List UInt8),k<=xs.length/\v28=.int .i64 k/\v5=.int .i64 sz/\v6=.int .i64 la/\sz<=100000/\la<=1000000/\Hid (acc.length=6+7*k)/\Acc w wr v4 acc/\Hid (acc=[84,82,73,86,1,UInt8.ofNat xs.length]++hdsB ((secs xs).take k))/\Hid (MayB (secs xs)↔Rest la sz ((secs xs).drop k))) (fun _ _ _ v28 _=>xs.length-(RowKit.intOf v28).toNat)
   case atStart=>exact ⟨0,9+7*xs.length,0,[84,82,73,86,1,UInt8.ofNat xs.length],Nat.zero_le _,rfl,by congr 1;omega,rfl,by omega,by omega,hid (by rfl),HA0.out,hid (by rfl),HST⟩
   case round=>
    clear HA0 HST;obtain ⟨k,sz,la,acc,hk,rfl,rfl,rfl,hsz,hla,HAL,hacc,HAC,HMAY⟩:=hrel;have hal:acc.length<=62:=(by have:=HAL.out;omega);by_cases hlt:k<xs.length
    · obtain ⟨x,hx⟩:∃x,xs[k]?=some x:=⟨_,List.getElem?_eq_getElem hlt⟩;have hrow:=HROW.out wr hacc.below;obtain ⟨g,rfl,hg,hcap⟩:=zdF hrow.own (by omega);obtain ⟨a0,a1⟩:=hrow.at_ k x hx;have hxm:x∈xs:=List.mem_of_getElem? hx;obtain ⟨hseg,hxc⟩:=hrow.part x hxm;obtain ⟨hb1,hb2⟩:=HBS.out x hxm;have HT:=hid (zfW xs k x hx);have HX:=hid hx;have HD:=hid (zjX xs k x hx);have HACC:=hid hacc;obtain ⟨id,Ab,cb,body⟩:=x;unfold SecV.sec at HT HD;simp only at a0 a1 hseg hxc hb1 hb2 HT HD;have HSEG:=hid hseg;clear hrow hx hxm hacc hseg;by_cases hbad:id<=la\/255<id\/100000<sz+body.length
      · have HNO:Hid (¬MayB (secs xs)):=fun m=>by
         have:=HMAY.out.1 m;rw[HD.out]at this;exact znK hbad this
        have hbw:Below w.heap.size w (wr.alloc (.cells #[.int .i64 id,.slice Ab body.length cb] 85)):=HACC.out.below.alloc HACC.out.below.size _;have HBW:=hid hbw;clear hbw HSEG HX HT HD HACC HMAY HAC HAL;by_cases h1:id<=la
        · have d1:decide (id<=la)=true:=dT h1;go_wp2;go_ret2;exact PackAns.no HNO.out rfl HBW.out
        · have d1:decide (id<=la)=false:=dF h1;by_cases h2:255<id
          · have d2:decide ((255:Int)<(id:Int))=true:=dT (by omega);go_wp2;go_ret2;exact PackAns.no HNO.out rfl HBW.out
          · have d2:decide ((255:Int)<(id:Int))=false:=dF (by omega);have d3:decide ((100000:Int)<(sz:Int)+(body.length:Int))=true:=dT (by omega);go_wp2;go_ret2;exact PackAns.no HNO.out rfl HBW.out
      · obtain ⟨g1,g2,g3⟩:la<id/\id<=255/\sz+body.length<=100000:=(by omega);clear hbad;have HMAY2:Hid (MayB (secs xs)↔Rest id (sz+body.length) ((secs xs).drop (k+1))):=by
         have h1:=HMAY.out;rw[HD.out,zj4 (s:=⟨id,body⟩) g1 g2]at h1;exact h1
        have d1:decide (id<=la)=false:=dF (by omega);have d2:decide ((255:Int)<(id:Int))=false:=dF (by omega);have d3:decide ((100000:Int)<(sz:Int)+(body.length:Int))=false:=dF (by omega);have hw8i:IntKind.u8.wrap (id:Int)=id:=(by rw[IntKind.wrap_u8];omega);obtain ⟨wa,hwa⟩:∃wa,wr.alloc (.cells #[.int .i64 id,.slice Ab body.length cb] 85)=wa:=⟨_,rfl⟩;have hba:Below wr.heap.size wr wa:=(by rw[<-hwa];exact br.alloc nL _);have hbx:wr.heap.size<wa.heap.size:=(by rw[<-hwa];simp);have HBX:=hid (show wa.heap[wr.heap.size]?=some (.cells #[.int .i64 id,.slice Ab body.length cb] 85 (0,0)) by rw[<-hwa];exact heap_alloc_new wr _);have hA1:=hid (HACC.out.step hba);clear hba HSEG;have b0:wa.cell? ⟨wr.heap.size,0,none⟩=some (.int .i64 id):=(by rw[cell_of_heap HBX.out];rfl);have b1:wa.cell? ⟨wr.heap.size,1,none⟩=some (.slice Ab body.length cb):=(by rw[cell_of_heap HBX.out];rfl);have hs1:=hA1.out.below.size;go_wp2_with (at_builtin;refine wpList_append_own _ rfl _ _ 32 rfl w.heap.size 5 i0 (.int .u8 0) 1 1 underlying32 hi hz0 hz1 hz2 rfl (by decide) _ acc.length _ rfl (hA1.out.own.alloc _) ⟨wa.heap.size,0,none⟩ 1 1 [.int .u8 id] rfl rfl ?c1 ?c2 ?c3 ?c4 ?c5 ?_)
        case c1=>
         intro j u hj
         match j,hj with
         | 0,hj=>simp at hj;subst hj;simp[Addr.add]
        case c2=>intro u hu;simp at hu;subst hu;rfl
        case c3=>unfold maxLen;omega
        case c4=>omega
        case c5=>simp;omega
        intro v2b w2b hown2 hg2 _
        have hA2:Acc w w2b v2b (acc++[UInt8.ofNat id]):=(hA1.out.step ((Below.refl _ wa).alloc nL _)).put hg2 (by
         have e:((UInt8.ofNat id).toNat:Int)=id:=(by rw[UInt8.toNat_ofNat'];omega);have e2:Fd.bys [UInt8.ofNat id]=[.int .u8 (id:Int)]:=by
          show [Value.int .u8 ((UInt8.ofNat id).toNat:Int)]=_;rw[e]
         rw[e2];exact hown2)
        have hbx2:=ziC ((Lib.alloc_old wa _ _ hbx).trans HBX.out) (hA1.out.own.alloc _) hg2;have q1:w2b.cell? ⟨wr.heap.size,1,none⟩=some (.slice Ab body.length cb):=(by rw[cell_of_heap hbx2];rfl);have BX2:=hid hbx2;have A2:=hid hA2;have hs2:=hA2.below.size;have hl2:(acc++[UInt8.ofNat id]).length<=63:=(by rw[List.length_append];simp;omega);have HL:=hid fun w=>zcC body.length w;clear hown2 hg2 hbx2 hA2 b0 b1 HBX hwa hA1;generalize hacc2:acc++[UInt8.ofNat id]=acc2 at A2 hl2;have HACC2:=hid hacc2;clear hacc2;go_wp2_with fail
        refine (HL.out _).mono ?_;rintro e w3 ⟨A3,c3,rfl,hown3,hb3⟩;have A3':=hid (A2.out.step hb3);have HO3:=hid hown3;have hs3:=A3'.out.below.size;have hbx3:=(hb3.block _ (Array.getElem?_eq_some_iff.1 BX2.out).1).trans BX2.out;have BX3:=hid hbx3;clear hown3 hb3 hbx3 A2 BX2 q1 HL;go_wp2_with (at_builtin;refine Fd.zaq _ rfl _ _ 32 rfl w.heap.size 5 i0 (.int .u8 0) 1 underlying32 hi hz0 hz1 hz2 rfl _ acc2.length _ rfl A3'.out.own A3 3 c3 (Fd.bys (w24 body.length)) rfl (Fd.Seg.of_own HO3.out) (Fd.zcG _) ?e1 ?e2 hs3 ?_)
        case e1=>unfold maxLen;omega
        case e2=>omega
        intro v4b w4 hown4 hg4;have hA4:Acc w w4 v4b (acc2++w24 body.length):=A3'.out.put hg4 hown4;have hbx4:=ziC BX3.out A3'.out.own hg4;have q1:w4.cell? ⟨wr.heap.size,1,none⟩=some (.slice Ab body.length cb):=(by rw[cell_of_heap hbx4];rfl);obtain ⟨w5,hw5⟩:∃w5,w4.alloc (.cells #[.slice Ab body.length cb] 32)=w5:=⟨_,rfl⟩;have hb5:Below w4.heap.size w4 w5:=(by rw[<-hw5];exact br.alloc nL _);have hA5:=hA4.step hb5;have hrow5:=HROW.out w5 hA5.below;have hseg5:=(hrow5.part ⟨id,Ab,cb,body⟩ (List.mem_of_getElem? HX.out)).1;have HC:=hid (zgD w5 Ab body.length cb body w4.heap.size (by rw[<-hw5];simp) hseg5 rfl hxc (by omega));have hbx5:=(hb5.block _ (Array.getElem?_eq_some_iff.1 hbx4).1).trans hbx4;have A5:=hid hA5;have BX5:=hid hbx5;have hl4:(acc2++w24 body.length).length<=66:=(by rw[List.length_append];show acc2.length+3<=66;omega);have HL:=hid fun w=>zcC (crcN body) w;clear hown4 hg4 hA4 hbx4 hb5 hA5 hrow5 hseg5 hbx5 A3' HO3 BX3;generalize hacc4:acc2++w24 body.length=acc4 at A5 hl4;have HACC4:=hid hacc4;clear hacc4;generalize hcr:crcN body=cr at HC HL;have HCR:=hid hcr;clear hcr;go_wp2_with fail
        refine HC.out.mono ?_;rintro e w6 ⟨rfl,hb6⟩;have A6:=hid (A5.out.step hb6);clear hb6 HC A5 BX5 hw5 q1;go_wp2_with fail
        refine (HL.out _).mono ?_;rintro e w7 ⟨A8,c8,rfl,hown7,hb7⟩;have A7:=hid (A6.out.step hb7);have HO7:=hid hown7;have hs7:=A7.out.below.size;clear hown7 hb7 A6 HL;go_wp2_with (at_builtin;refine Fd.zaq _ rfl _ _ 32 rfl w.heap.size 5 i0 (.int .u8 0) 1 underlying32 hi hz0 hz1 hz2 rfl _ acc4.length _ rfl A7.out.own A8 3 c8 (Fd.bys (w24 cr)) rfl (Fd.Seg.of_own HO7.out) (Fd.zcG _) ?f1 ?f2 hs7 ?_)
        case f1=>unfold maxLen;omega
        case f2=>omega
        intro v8 w8 hown8 hg8;have A9:=hid (A7.out.put hg8 hown8);clear hown8 hg8 A7 HO7;have HAC2:Hid (acc4++w24 cr=[84,82,73,86,1,UInt8.ofNat xs.length]++hdsB ((secs xs).take (k+1))):=by
         show acc4++w24 cr=_;rw[HT.out,zkM,<-List.append_assoc,<-HAC.out,<-HACC4.out,<-HACC2.out,<-HCR.out];unfold Bx.hdB;simp only[List.append_assoc,List.cons_append,List.nil_append]
        have HAL2:Hid ((acc4++w24 cr).length=6+7*(k+1)):=by
         show (acc4++w24 cr).length=_;rw[<-HACC4.out,<-HACC2.out];simp only[List.length_append,List.length_cons,List.length_nil];have e:∀n,(w24 n).length=3:=fun _=>rfl;rw[e,e,HAL.out];omega
        clear HX HACC HACC2 HACC4 HCR HT HD;go_wp2;go_round
        case measure=>simp[RowKit.intOf];omega
        case rel=>exact ⟨k+1,sz+body.length,id,_,by omega,by go_num,by go_num,rfl,g3,by omega,HAL2,A9.out,HAC2,HMAY2⟩
    · obtain rfl:k=xs.length:=by omega
      have HM:Hid (MayB (secs xs)):=HMAY.out.2 (by
       rw[List.drop_of_length_le (by rw[za3];exact nL)];exact ⟨trivial,by show sz+0<=100000;omega⟩)
      have HH:Hid (acc=headB (secs xs)):=by
       show acc=headB (secs xs);rw[HAC.out,List.take_of_length_le (by rw[za3];exact nL)];unfold headB;rw[za3]
      obtain ⟨A4,c4,rfl⟩:=Fd.zac hacc.own;have hc4:=Fd.own_le' hacc.own;obtain ⟨w5,hw5⟩:∃w5,wr.alloc (.cells #[.slice A4 acc.length c4] 32)=w5:=⟨_,rfl⟩;have hb5:Below wr.heap.size wr w5:=(by rw[<-hw5];exact br.alloc nL _);have hA5:=hacc.step hb5;have HC:=hid (zgD w5 A4 acc.length c4 acc wr.heap.size (by rw[<-hw5];simp) (Fd.Seg.of_own hA5.own) rfl hc4 (by omega));have A5:=hid hA5;have HL:=hid fun w=>zcC (crcN acc) w;clear hacc hb5 hA5 HMAY HAC HAL;generalize hcr:crcN acc=cr at HC HL;have HCR:=hid hcr;clear hcr;go_wp2_with fail
      refine HC.out.mono ?_;rintro e w6 ⟨rfl,hb6⟩;have A6:=hid (A5.out.step hb6);clear hb6 HC A5 hw5;go_wp2_with fail
      refine (HL.out _).mono ?_;rintro e w7 ⟨A8,c8,rfl,hown7,hb7⟩;have A7:=hid (A6.out.step hb7);have HO7:=hid hown7;have hs7:=A7.out.below.size;clear hown7 hb7 A6 HL;go_wp2_with (at_builtin;refine Fd.zaq _ rfl _ _ 32 rfl w.heap.size 5 i0 (.int .u8 0) 1 underlying32 hi hz0 hz1 hz2 rfl _ acc.length _ rfl A7.out.own A8 3 c8 (Fd.bys (w24 cr)) rfl (Fd.Seg.of_own HO7.out) (Fd.zcG _) ?f1 ?f2 hs7 ?_)
      case f1=>unfold maxLen;omega
      case f2=>omega
      intro v8 w8 hown8 hg8;have A9:=hid (A7.out.put hg8 hown8);have hl9:(acc++w24 cr).length<=65:=(by rw[List.length_append];show acc.length+3<=65;omega);have HH2:Hid (acc++w24 cr=headB (secs xs)++w24 (crcN (headB (secs xs)))):=by
       show acc++w24 cr=_;rw[<-HCR.out,HH.out]
      clear hown8 hg8 A7 HO7 HCR HH;generalize acc++w24 cr=acc9 at A9 hl9 HH2;go_wp2;go_loopw [4,80] (fun v4 v80 wr=>∃(k:Nat) (acc:List UInt8),k<=xs.length/\v80=.int .i64 k/\acc.length<=65+100000*k/\Acc w wr v4 acc/\Hid (acc=acc9++bodB ((secs xs).take k))) (fun _ v80 _=>xs.length-(RowKit.intOf v80).toNat)
      case atStart=>exact ⟨0,acc9,Nat.zero_le _,rfl,by omega,A9.out,hid (by show acc9=acc9++[];rw[List.append_nil])⟩
      case round=>
       clear A9;obtain ⟨k,acc,hk2,rfl,hal2,hacc,HAC⟩:=hrel;by_cases hlt:k<xs.length
       · obtain ⟨x,hx⟩:∃x,xs[k]?=some x:=⟨_,List.getElem?_eq_getElem hlt⟩;have hrow:=HROW.out wr hacc.below;obtain ⟨g,rfl,hg,hcap⟩:=zdF hrow.own (by omega);obtain ⟨a0,a1⟩:=hrow.at_ k x hx;have hxm:x∈xs:=List.mem_of_getElem? hx;obtain ⟨hb1,hb2⟩:=HBS.out x hxm;have HT:=hid (zfW xs k x hx);have HX:=hid hxm;obtain ⟨id,Ab,cb,body⟩:=x;unfold SecV.sec at HT;simp only at a0 a1 hb1 hb2 HT;obtain ⟨wa,hwa⟩:∃wa,wr.alloc (.cells #[.int .i64 id,.slice Ab body.length cb] 85)=wa:=⟨_,rfl⟩;have hba:Below wr.heap.size wr wa:=(by rw[<-hwa];exact br.alloc nL _);have b0:wa.cell? ⟨wr.heap.size,0,none⟩=some (.int .i64 id):=(by rw[<-hwa];simp);have b1:wa.cell? ⟨wr.heap.size,1,none⟩=some (.slice Ab body.length cb):=(by rw[<-hwa];simp);have hA1:=hid (hacc.step hba);have hs1:=hA1.out.below.size;have HSEG:=hid ((HROW.out wa hA1.out.below).part ⟨id,Ab,cb,body⟩ HX.out).1;clear hrow hx hxm hacc hba;go_wp2_with (at_builtin;refine Fd.zaq _ rfl _ _ 32 rfl w.heap.size 5 i0 (.int .u8 0) 1 underlying32 hi hz0 hz1 hz2 rfl _ acc.length _ rfl hA1.out.own Ab body.length cb (Fd.bys body) rfl HSEG.out (Fd.zcG _) ?g1 ?g2 hs1 ?_)
         case g1=>unfold maxLen;omega
         case g2=>omega
         intro v8 w8 hown8 hg8;have A9:=hid (hA1.out.put hg8 hown8);have HAC2:Hid (acc++body=acc9++bodB ((secs xs).take (k+1))):=by
          show acc++body=_;rw[HT.out,zlg,<-List.append_assoc,<-HAC.out]
         have hal3:(acc++body).length<=65+100000*(k+1):=(by rw[List.length_append];omega);clear hown8 hg8 hA1 HSEG HX HT HAC b0 b1 hwa;go_wp2;go_round
         case measure=>simp[RowKit.intOf];omega
         case rel=>exact ⟨k+1,_,by omega,by go_num,hal3,A9.out,HAC2⟩
       · obtain rfl:k=xs.length:=(by omega);have HE:Hid (acc=boxB (secs xs)):=by
          show acc=boxB (secs xs);rw[HAC.out,HH2.out,List.take_of_length_le (by rw[za3];exact nL)];rfl
         have HA:=hid hacc;clear hacc HAC HH2;go_wp2;go_ret2;obtain ⟨A5,c5,rfl⟩:=Fd.zac HA.out.own;refine ⟨.inl ⟨HM.out,A5,c5,?_,?_⟩,HA.out.below⟩
         · rw[<-HE.out];rfl
         · rw[<-HE.out];exact HA.out.own
 · have HNO:Hid (¬MayB (secs xs)):=fun m=>(by have:=m.1;omega);have hnz:(8:Int)<(xs.length:Int):=(by omega);clear hsl;go_enter func41,ntmps41
   go_wp2;go_ret2;exact PackAns.no HNO.out rfl br
end Go.Proofs.YtaeiifngjglchaaGreatDoor
end
section
namespace Go.Proofs.YtaeiifngjglchaaGreatDoor
open Go.Proofs.Tryz
open Go.RowKit Go.Lib Tv Go.Sort
theorem zhi (L:List VTri) (v:Value) (B:Nat) (w:World) (h:RowV w B v L) (hn:L.length<=300) :
    Calls prog 43 #[v] w fun e w'=>e=.returned (.string (str (prtT L)))/\Below w.heap.size w w':=by
 have HROW:Hid (∀W,Below w.heap.size w W->RowV W B v L):=fun W hW=>h.below hW;obtain ⟨Av,c,rfl⟩:=Fd.zac h;clear h;obtain ⟨b,hbe⟩:∃b,w.heap.size=b:=⟨_,rfl⟩;have hbd0:Bd (w.alloc (.cells #[.pointer none,.slice none 0 0] 179)) w.heap.size (w.heap.size+1) []:=Bd.new w _ (by omega);have hb0:Below w.heap.size w (w.alloc (.cells #[.pointer none,.slice none 0 0] 179)):=(Below.refl _ w).alloc nL _;have hs0:(w.alloc (.cells #[.pointer none,.slice none 0 0] 179)).heap.size=w.heap.size+1:=(by simp);have HBD0:=hid hbd0;have HB0:=hid hb0;have HS0:=hid hs0;have HBE:=hid hbe;clear hbd0 hb0 hs0 hbe;go_enter func43,ntmps43
 go_wp2;rw[HBE.out]at HBD0 HB0 HS0 HROW;rw[HBE.out];go_loopw [8] (fun v8 wr=>∃(k:Nat) (acc:Bs),v8=.int .i64 k/\k<=L.length/\Hid (acc=prtT (L.take k))/\Bd wr b (b+1) acc/\b+1<=wr.heap.size/\Below b w wr) (fun v8 _=>L.length-(RowKit.intOf v8).toNat)
 case atStart=>exact ⟨0,[],rfl,Nat.zero_le _,hid rfl,HBD0.out,by have:=HS0.out;omega,HB0.out⟩
 case round=>
  obtain ⟨k,acc,rfl,hk,HACC,hbd,hbs,hb⟩:=hrel;have HB:=hid hb;have HBD:=hid hbd;by_cases hlt:k<L.length
  · obtain ⟨t,ht⟩:∃x,L[k]?=some x:=⟨_,List.getElem?_eq_getElem hlt⟩;have hrow:=HROW.out wr hb;obtain ⟨g,rfl,hg,hcap⟩:=hrow.val (by omega);have HNX:Hid (acc++linT t.1=prtT (L.take (k+1))):=(by show _=_;rw[zf2 L k t ht,HACC.out]);have hal:acc.length<=226500:=by
     have h1:=zic (L.take k);have h2:(L.take k).length<=300:=(by rw[List.length_take];omega);rw[HACC.out];omega
    obtain ⟨⟨a0,a1,a2⟩,⟨a3,a4,a5⟩,⟨a6,a7,a8⟩⟩:=hrow.at_ k t ht;have l1:=(za0 t.1.s t.s).2;have l2:=(za0 t.1.p t.p).2;have l3:=(za0 t.1.o t.o).2;have H1:=hid fun w n os=>zby t.1.s (VTm.sml ⟨_,t.s⟩) w n os;have H2:=hid fun w n os=>zby t.1.p (VTm.sml ⟨_,t.p⟩) w n os;have H3:=hid fun w n os=>zby t.1.o (VTm.sml ⟨_,t.o⟩) w n os;obtain ⟨⟨⟨k1,x1,e1⟩,⟨k2,x2,e2⟩,⟨k3,x3,e3⟩⟩,htv⟩:=t;simp only[Nat.add_assoc]at a0 a1 a2 a3 a4 a5 a6 a7 a8;unfold encT at H1 H2 H3;unfold linT at HNX;simp only at H1 H2 H3 l1 l2 l3 HNX;generalize shw ⟨k1,x1,e1⟩=r1 at H1 l1 HNX;generalize shw ⟨k2,x2,e2⟩=r2 at H2 l2 HNX;generalize shw ⟨k3,x3,e3⟩=r3 at H3 l3 HNX;clear hrow ht hb hbd;go_wp2;generalize hwa:wr.alloc (.cells #[.int .i64 k1,.string (str x1),.string (str e1),.int .i64 k2,.string (str x2),.string (str e2),.int .i64 k3,.string (str x3),.string (str e3)] 110)=wa;have hna:wa.heap.size=wr.heap.size+1:=(by rw[<-hwa];simp);have hba:Below wr.heap.size wr wa:=(by rw[<-hwa];exact (Below.refl _ wr).alloc nL _);have d0:∀(n:Nat) (os:Array Obj),(Sort.grow (wa.drewN n) os).cell? ⟨wr.heap.size,0,none⟩=some (.int .i64 k1):=fun n os=>cell_grown (by show wr.heap.size<_;omega) (by rw[<-hwa];simp) n os;have d1:∀(n:Nat) (os:Array Obj),(Sort.grow (wa.drewN n) os).cell? ⟨wr.heap.size,1,none⟩=some (.string (str x1)):=fun n os=>cell_grown (by show wr.heap.size<_;omega) (by rw[<-hwa];simp) n os;have d2:∀(n:Nat) (os:Array Obj),(Sort.grow (wa.drewN n) os).cell? ⟨wr.heap.size,2,none⟩=some (.string (str e1)):=fun n os=>cell_grown (by show wr.heap.size<_;omega) (by rw[<-hwa];simp) n os;have d3:∀(n:Nat) (os:Array Obj),(Sort.grow (wa.drewN n) os).cell? ⟨wr.heap.size,3,none⟩=some (.int .i64 k2):=fun n os=>cell_grown (by show wr.heap.size<_;omega) (by rw[<-hwa];simp) n os;have d4:∀(n:Nat) (os:Array Obj),(Sort.grow (wa.drewN n) os).cell? ⟨wr.heap.size,4,none⟩=some (.string (str x2)):=fun n os=>cell_grown (by show wr.heap.size<_;omega) (by rw[<-hwa];simp) n os;have d5:∀(n:Nat) (os:Array Obj),(Sort.grow (wa.drewN n) os).cell? ⟨wr.heap.size,5,none⟩=some (.string (str e2)):=fun n os=>cell_grown (by show wr.heap.size<_;omega) (by rw[<-hwa];simp) n os;have d6:∀(n:Nat) (os:Array Obj),(Sort.grow (wa.drewN n) os).cell? ⟨wr.heap.size,6,none⟩=some (.int .i64 k3):=fun n os=>cell_grown (by show wr.heap.size<_;omega) (by rw[<-hwa];simp) n os;have d7:∀(n:Nat) (os:Array Obj),(Sort.grow (wa.drewN n) os).cell? ⟨wr.heap.size,7,none⟩=some (.string (str x3)):=fun n os=>cell_grown (by show wr.heap.size<_;omega) (by rw[<-hwa];simp) n os;have d8:∀(n:Nat) (os:Array Obj),(Sort.grow (wa.drewN n) os).cell? ⟨wr.heap.size,8,none⟩=some (.string (str e3)):=fun n os=>cell_grown (by show wr.heap.size<_;omega) (by rw[<-hwa];simp) n os
    have s1:=zag r1 [32] (by simp;omega);obtain ⟨A1,q1⟩:∃A,r1++[32]=A:=⟨_,rfl⟩;rw[q1]at s1;have n1:A1.length<=251:=(by rw[<-q1,List.length_append];simp only[List.length_cons,List.length_nil];omega);have s2:=zag A1 r2 (by omega);obtain ⟨A2,q2⟩:∃A,A1++r2=A:=⟨_,rfl⟩;rw[q2]at s2;have n2:A2.length<=501:=(by rw[<-q2,List.length_append];omega);have s3:=zag A2 [32] (by simp;omega);obtain ⟨A3,q3⟩:∃A,A2++[32]=A:=⟨_,rfl⟩;rw[q3]at s3;have n3:A3.length<=502:=(by rw[<-q3,List.length_append];simp only[List.length_cons,List.length_nil];omega);have s4:=zag A3 r3 (by omega);obtain ⟨A4,q4⟩:∃A,A3++r3=A:=⟨_,rfl⟩;rw[q4]at s4;have n4:A4.length<=752:=(by rw[<-q4,List.length_append];omega);have s5:=zag A4 [32,46,10] (by simp;omega);obtain ⟨A5,q5⟩:∃A,A4++[32,46,10]=A:=⟨_,rfl⟩;rw[q5]at s5;have n5:A5.length<=755:=(by rw[<-q5,List.length_append];simp only[List.length_cons,List.length_nil];omega);have HA6:Hid (acc++A5=prtT (L.take (k+1))):=by
     show acc++A5=_;rw[<-HNX.out,<-q5,<-q4,<-q3,<-q2,<-q1]
    rw[show str [32]=(⟨#[32]⟩:ByteArray) from rfl]at s1 s3;rw[show str [32,46,10]=(⟨#[32,46,10]⟩:ByteArray) from rfl]at s5;have HBA:=hid (HB.out.trans (hba.mono (by omega)));have HBDA:=hid (HBD.out.below hba);clear q1 q2 q3 q4 q5 n1 n2 n3 n4 hba hwa HNX HACC l1 l2 l3 HBD HB a0 a1 a2 a3 a4 a5 a6 a7 a8;have hmix:=mixed;have hent:=zix;refine zbj 14 (by assumption) (by kernel_rfl) ?_;simp only[List.take_succ_cons,List.take_zero,List.drop_succ_cons,List.drop_zero];repeat (quiet_step (first | (go_at_fn 37;first | with_reducible exact H1.out _ _ _ | with_reducible exact H2.out _ _ _ | with_reducible exact H3.out _ _ _)))
    refine wpQuiet_nil ?_;intro _ hw';obtain ⟨⟨nq,osq⟩,hw''⟩:=hw';subst hw'';clear d0 d1 d2 d3 d4 d5 d6 d7 d8 H1 H2 H3;have hbg:=below_grow wa nq osq;generalize Sort.grow (wa.drewN nq) osq=wg at hbg ⊢;have HW:=hid (zbg b (b+1) acc (str A5) wg (HBDA.out.below hbg) (by rw[zab];omega) (by have:=hbg.size;omega));have HBG:=hid (HBA.out.trans (hbg.mono (by omega)));have hsg:=hbg.size;clear hbg HBDA HBA;go_wp2_with fail
    refine HW.out.mono ?_;rintro e w5 ⟨rfl,hbd5,hf5⟩;have hbd6:Bd w5 b (b+1) (acc++A5):=by
     have h:=hbd5;rw[zad]at h;exact h
    have HBD6:=hid hbd6;have HB5:Hid (Below b w w5):=HBG.out.trans ⟨hf5.os,hf5.tape,hf5.output,hf5.size,fun j hj=>hf5.keep j (by omega) (by unfold Wr;omega)⟩;have hs5:=hf5.size;clear hbd5 hbd6 hf5 HW HBG;go_wp2;go_roundw
    case rel=>exact ⟨k+1,acc++A5,by go_num,by omega,HA6,HBD6.out,by omega,HB5.out⟩
    case measure=>simp[RowKit.intOf];omega
  · obtain rfl:k=L.length:=(by omega);have HA:Hid (acc=prtT L):=by
     have h:=HACC.out;rw[List.take_length]at h;exact h
    have HST:=hid (zaG b (b+1) acc wr HBD.out (by omega));clear HACC hlt hb hbd;go_wp2_with fail
    refine HST.out.mono ?_;rintro e w5 ⟨rfl,hb5⟩;have HB5:=hid (HB.out.trans hb5);clear hb5 HST;go_wp2;go_ret;exact ⟨by rw[HA.out];rfl,by rw[HBE.out];exact HB5.out⟩
theorem zgu (S:Nat) (v:Value) (L:List VTri) (ts:List VTm) (w:World) (h:StoreIs w S v L ts) (hn:L.length<=300) :
    Calls prog 11 #[.pointer (some ⟨S,0,none⟩)] w fun e w'=>e=.returned (.string (str (prtT L)))/\Below w.heap.size w w':=by
 have HT:=hid (zet S v L ts w h);clear h;go_enter func11,ntmps11
 go_wp2_with fail
 refine HT.out.mono ?_;rintro e w1 ⟨v',rfl,hrow,hb1⟩;have HP:=hid (zhi L v' w.heap.size w1 hrow hn);have HB1:=hid hb1;clear hrow hb1 HT;go_wp2_with fail
 refine HP.out.mono ?_;rintro e w2 ⟨rfl,hb2⟩;have HB2:=hid (HB1.out.trans (hb2.mono HB1.out.size));clear hb2 HP;go_wp2;go_ret;exact ⟨rfl,HB2.out⟩
end Go.Proofs.YtaeiifngjglchaaGreatDoor
end
