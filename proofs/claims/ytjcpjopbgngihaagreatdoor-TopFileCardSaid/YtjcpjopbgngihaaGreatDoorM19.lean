/- Proved on the way: The document's reader: a term; The document's Show: a literal's text, e; The document's Show and Cmp; The document's Term: a text that is a sh; The document's store: terms; The document's order of triples. Each theorem states its own conditions. -/
import Derived.Test.YtjcpjopbgngihaaGreatDoorM18
import Derived.Test.YtjcpjopbgngihaaGreatDoorM15
import Derived.Test.YtjcpjopbgngihaaGreatDoorM12
set_option maxHeartbeats 16000000
set_option maxRecDepth 1000000
set_option linter.unusedSimpArgs false
section
namespace Go.Proofs.YtjcpjopbgngihaaGreatDoor
open Tryz
open Go.RowKit Go.Lib Tv
theorem zmQ {l r:Bs} {t:Tm} (h:litR l=some (t,r)) (hl:l.length<=50000):Sml t:=by
 rw[zbq]at h;cases hx:upTo true 34 true l with
 | none=>rw[hx]at h;cases h
 | some p=>
  obtain ⟨x,q⟩:=p;have h1:=zaR hx;rw[hx,Option.bind_some]at h;unfold tailR at h;split at h
  · cases h
    rename_i r' e;simp only at e;subst e;have h3:=(List.takeWhile_sublist isTag (l:=r')).length_le;simp only[List.length_cons]at h1;exact ⟨by show x.length<=_;omega,by show ((r'.takeWhile isTag).map low).length<=_;rw[List.length_map];omega⟩
  · rename_i r' e;simp only at e;subst e;cases hy:upTo true 62 false r' with
    | none=>rw[hy]at h;cases h
    | some y=>
     have h2:=zaR hy;rw[hy]at h;simp only[Option.map_some,Option.some.injEq,Prod.mk.injEq]at h;obtain ⟨rfl,rfl⟩:=h;simp only[List.length_cons]at h1;exact ⟨by show x.length<=_;omega,by show y.1.length<=_;omega⟩
  · cases h
    exact ⟨by show x.length<=_;omega,by show ([]:Bs).length<=_;simp⟩
theorem zka {x q r:Bs} {t:Tm} (h:tailR x q=some (t,r)):r.length<=q.length:=by
 unfold tailR at h;split at h
 · cases h
   rename_i r';have h3:=(List.dropWhile_sublist isTag (l:=r')).length_le;simp only[List.length_cons];omega
 · rename_i r';cases hy:upTo true 62 false r' with
   | none=>rw[hy]at h;cases h
   | some y=>
    have h2:=zaR hy;rw[hy]at h;simp only[Option.map_some,Option.some.injEq,Prod.mk.injEq]at h;rw[<-h.2];simp only[List.length_cons];omega
 · cases h
   exact nL
def TmO (o:Option (Tm × Bs)) (g:Nat) (v:Ending) (w':World):Prop:=
 (∃t r,o=some (t,r)/\v=.returned (.agg (encT t).toArray)/\Rd5 w' g (blk r) false)\/(o=none/\(∃t:Tm,v=.returned (.agg (encT t).toArray))/\Rd5 w' g [] true)
theorem zhl {l r:Bs} {t:Tm} (h:termR l=some (t,r)) (ht:tmT t=true):termW l=some (t,r):=by unfold termW;rw[h,Option.bind_some,if_pos ht]
theorem zhm {l r:Bs} {t:Tm} (h:termR l=some (t,r)) (ht:tmT t=false):termW l=none:=by unfold termW;rw[h,Option.bind_some];simp only[ht];rfl
theorem zhn {l:Bs} (h:termR l=none):termW l=none:=by unfold termW;rw[h];rfl
theorem zcW:blk []=[]:=rfl
theorem zhp (g:Nat) (l:Bs) (w:World) (h:Rd5 w g l false) (ht:Lay w) (hl:l.length<=50000) (h4:4<=g) :
    Calls prog 122 #[.pointer (some ⟨g,0,none⟩)] w fun v w'=>Fr w w' (fun k=>k=g)/\TmO (termW l) g v w':=by
 have hgl:=h.lt;obtain ⟨w0,hw0⟩:∃w0,w.alloc (.cells #[.int .i64 0,.string ⟨#[]⟩,.string ⟨#[]⟩] 82)=w0:=⟨_,rfl⟩;have hb0:Below w.heap.size w w0:=(by rw[<-hw0];exact br.alloc nL _);have hn0:w0.heap.size=w.heap.size+1:=(by rw[<-hw0];simp);have ht2:T3 w0 w.heap.size (.int .i64 0) (.string ⟨#[]⟩) (.string ⟨#[]⟩):=(by rw[<-hw0];exact T3.new _ _ _ _);obtain ⟨w2,hw2⟩:∃w2,w0.alloc (.cells #[.int .i64 0,.string ⟨#[]⟩,.string ⟨#[]⟩] 82)=w2:=⟨_,rfl⟩;have hb2:Below w0.heap.size w0 w2:=(by rw[<-hw2];exact br.alloc nL _);have ht3:T3 w2 w0.heap.size (.int .i64 0) (.string ⟨#[]⟩) (.string ⟨#[]⟩):=by rw[<-hw2];exact T3.new _ _ _ _
 have hLs:Ls w w2 g w.heap.size w0.heap.size l false (.int .i64 0) (.string ⟨#[]⟩) (.string ⟨#[]⟩):=
  ⟨((Fr.of_below hb0 (Gn g w.heap.size)).step hb2),(h.below hb0).below hb2,⟨_,_,_,ht2.fr (Fr.of_below hb2 fun _=>False) fun h=>h⟩,ht3,nL,by omega,hgl,by omega⟩
 have HLS:=hid hLs;have HLY:=hid fun W (hW:Fr w W (Gn g w.heap.size)) (hg:4<=g)=>ht.fr hW fun k hk h=>(by rcases h with h | h<;>omega);have HW2:=hid hw2;rw[hn0]at HLS;clear h ht hb0 hb2 ht2 ht3 hLs hw2;by_cases h1:∃r,l=60::r
 · obtain ⟨r,rfl⟩:=h1;have HH1:=hid (zaA g (60::r) [60] false w2 HLS.out.rd);simp only[List.length_cons,List.length_nil,Nat.zero_add,Nat.reduceAdd]at HH1;rw[show str [60]=(⟨#[60]⟩:ByteArray) from rfl,dT (show (60::r).take 1=[60] from rfl)]at HH1;simp only[List.length_cons]at hl;have k0:=HLS.out.rd.c0;have kf:=HLS.out.rd.f 0;have hsd:(str (60::r)).extract 1 (str (60::r)).size=str r:=(by rw[zab];exact za6 (60::r) 1);have hsz:(1:Int)<=((str (60::r)).size:Int):=(by rw[zab];simp only[List.length_cons];omega);generalize str (60::r)=S at k0 hsd hsz;have HLS2:=hid (HLS.out.setr r);have HUP0:=zb0 g r 62 false false _ HLS2.out.rd (by omega) (by decide);have HUP:Hid (Calls prog 170 #[.pointer (some ⟨g,0,none⟩),.int .u8 62,.bool false] _ (UpA _ g 62 false r false)):=HUP0;clear HLS HUP0;go_enter func122,ntmps122
   go_wp2_with fail
   rw[HW2.out];refine HH1.out.mono ?_;rintro v w3 ⟨rfl,rfl⟩;go_wp2_with fail
   refine HUP.out.mono ?_;rintro v w4 ⟨hf4,⟨x,q,hx,rfl,hr4⟩ | ⟨hx,rfl,hr4⟩⟩
   · have hxl:=zaR hx;have htr:termR (60::r)=some (⟨1,x,[]⟩,q):=(by show (upTo true 62 false r).map _=_;rw[hx];rfl);have HLS4:=hid (HLS2.out.call hf4 hr4);have HLS5:=hid (((HLS4.out.s0 (.int .i64 1)).s1 (.string (str x))).s2 (.string (str [])));rw[show str []=(⟨#[]⟩:ByteArray) from rfl]at HLS5;clear hr4 hf4 HLS2 HUP hx;have f0:=HLS4.out.t3.f 0;have f1:=HLS4.out.t3.f 1;have f2:=HLS4.out.t3.f 2;have c0:=HLS4.out.t3.c0;have c1:=HLS4.out.t3.c1;have c2:=HLS4.out.t3.c2;cases htm:tmT ⟨1,x,[]⟩ with
     | true=>
      have HTW:=hid (zhl htr htm);have HTM:=hid htm;clear htr htm;have k1:=HLS5.out.rd.c1;have HIS:=hid (zaQ ⟨1,x,[]⟩ ⟨by show x.length<=_;omega,by show ([]:Bs).length<=_;simp⟩ _ (HLY.out _ HLS5.out.fr h4));rw[HTM.out]at HIS;unfold encT at HIS;simp only at HIS;have f0:=HLS5.out.t3.f 0;have f1:=HLS5.out.t3.f 1;have f2:=HLS5.out.t3.f 2;have c0:=HLS5.out.t3.c0;have c1:=HLS5.out.t3.c1;have c2:=HLS5.out.t3.c2;go_wp2_with fail
      refine HIS.out.mono ?_;rintro v w6 ⟨rfl,hb6⟩;have HLS6:=hid (HLS5.out.below hb6);clear hb6 HIS c0 c1 c2 f0 f1 f2;have HBL:=hid (zaB g q false _ HLS6.out.rd (by omega));go_wp2_with fail
      refine HBL.out.mono ?_;rintro v w7 ⟨rfl,hr7,hf7⟩;have HLS7:=hid (HLS6.out.call hf7 hr7);clear hr7 hf7 HBL;obtain ⟨_,_,_,t2⟩:=HLS7.out.t2;have d0:=t2.c0;have d1:=t2.c1;have d2:=t2.c2;have df0:=t2.f 0;have df1:=t2.f 1;have df2:=t2.f 2;have c0:=HLS7.out.t3.c0;have c1:=HLS7.out.t3.c1;have c2:=HLS7.out.t3.c2;clear t2;go_wp2;obtain ⟨q1,q2,q3⟩:=HLS7.out.fin (.int .i64 1) (.string (str x)) (.string ⟨#[]⟩);refine zak rfl rfl rfl q1 ?_;exact ⟨q2,.inl ⟨_,_,HTW.out,rfl,q3⟩⟩
     | false=>
      have HTW:=hid (zhm htr htm);have HTM:=hid htm;clear htr htm;have k1:=HLS5.out.rd.c1;have HIS:=hid (zaQ ⟨1,x,[]⟩ ⟨by show x.length<=_;omega,by show ([]:Bs).length<=_;simp⟩ _ (HLY.out _ HLS5.out.fr h4));rw[HTM.out]at HIS;unfold encT at HIS;simp only at HIS;have f0:=HLS5.out.t3.f 0;have f1:=HLS5.out.t3.f 1;have f2:=HLS5.out.t3.f 2;have c0:=HLS5.out.t3.c0;have c1:=HLS5.out.t3.c1;have c2:=HLS5.out.t3.c2;go_wp2_with fail
      refine HIS.out.mono ?_;rintro v w6 ⟨rfl,hb6⟩;have HLS6:=hid (HLS5.out.below hb6);clear hb6 HIS c0 c1 c2 f0 f1 f2;have HFA:=hid (zaT g q false _ HLS6.out.rd);go_wp2_with fail
      refine HFA.out.mono ?_;rintro v w7 ⟨rfl,hr7,hf7⟩;have HLS7:=hid (HLS6.out.call hf7 hr7);clear hr7 hf7 HFA;have HBL:=hid (zaB g [] true _ HLS7.out.rd (by simp));rw[zcW]at HBL;go_wp2_with fail
      refine HBL.out.mono ?_;rintro v w8 ⟨rfl,hr8,hf8⟩;have HLS8:=hid (HLS7.out.call hf8 hr8);clear hr8 hf8 HBL;obtain ⟨_,_,_,t2⟩:=HLS8.out.t2;have d0:=t2.c0;have d1:=t2.c1;have d2:=t2.c2;have df0:=t2.f 0;have df1:=t2.f 1;have df2:=t2.f 2;have c0:=HLS8.out.t3.c0;have c1:=HLS8.out.t3.c1;have c2:=HLS8.out.t3.c2;clear t2;go_wp2;obtain ⟨q1,q2,q3⟩:=HLS8.out.fin (.int .i64 1) (.string (str x)) (.string ⟨#[]⟩);refine zak rfl rfl rfl q1 ?_;exact ⟨q2,.inr ⟨HTW.out,⟨⟨1,x,[]⟩,rfl⟩,q3⟩⟩
   · have HTW:Hid (termW (60::r)=none):=zhn (by show (upTo true 62 false r).map _=_;rw[hx];rfl);have HLS4:=hid (HLS2.out.call hf4 hr4);have HLS5:=hid (((HLS4.out.s0 (.int .i64 1)).s1 (.string (str []))).s2 (.string (str [])));rw[show str []=(⟨#[]⟩:ByteArray) from rfl]at HLS5 ⊢;clear hr4 hf4 HLS2 HUP hx;have f0:=HLS4.out.t3.f 0;have f1:=HLS4.out.t3.f 1;have f2:=HLS4.out.t3.f 2;have c0:=HLS4.out.t3.c0;have c1:=HLS4.out.t3.c1;have c2:=HLS4.out.t3.c2;have k1:=HLS5.out.rd.c1;have HBL:=hid (zaB g [] true _ HLS5.out.rd (by simp));rw[zcW]at HBL;go_wp2_with fail
     refine HBL.out.mono ?_;rintro v w7 ⟨rfl,hr7,hf7⟩;have HLS7:=hid (HLS5.out.call hf7 hr7);clear hr7 hf7 HBL;obtain ⟨_,_,_,t2⟩:=HLS7.out.t2;have d0:=t2.c0;have d1:=t2.c1;have d2:=t2.c2;have df0:=t2.f 0;have df1:=t2.f 1;have df2:=t2.f 2;have c0:=HLS7.out.t3.c0;have c1:=HLS7.out.t3.c1;have c2:=HLS7.out.t3.c2;clear t2;go_wp2;obtain ⟨q1,q2,q3⟩:=HLS7.out.fin (.int .i64 1) (.string ⟨#[]⟩) (.string ⟨#[]⟩);refine zak rfl rfl rfl q1 ?_;exact ⟨q2,.inr ⟨HTW.out,⟨⟨1,[],[]⟩,rfl⟩,q3⟩⟩
 by_cases h2:∃r,l=95::58::r
 · obtain ⟨r,rfl⟩:=h2;have HH1:=hid (zaA g (95::58::r) [60] false w2 HLS.out.rd);simp only[List.length_cons,List.length_nil,Nat.zero_add,Nat.reduceAdd]at HH1;rw[show str [60]=(⟨#[60]⟩:ByteArray) from rfl,take1 (95::58::r) 60 h1]at HH1;have HH2:=hid (zaA g (95::58::r) [95,58] false w2 HLS.out.rd);simp only[List.length_cons,List.length_nil,Nat.zero_add,Nat.reduceAdd]at HH2;rw[show str [95,58]=(⟨#[95,58]⟩:ByteArray) from rfl,dT (show (95::58::r).take 2=[95,58] from rfl)]at HH2;simp only[List.length_cons]at hl;have k0:=HLS.out.rd.c0;have kf:=HLS.out.rd.f 0;have hsd:(str (95::58::r)).extract 2 (str (95::58::r)).size=str r:=(by rw[zab];exact za6 (95::58::r) 2);have hsz:(2:Int)<=((str (95::58::r)).size:Int):=(by rw[zab];simp only[List.length_cons];omega);generalize str (95::58::r)=S at k0 hsd hsz;have HLS2:=hid (HLS.out.setr r);have HRUN:=hid (zeT g r false false _ HLS2.out.rd (by omega));rw[zoh]at HRUN;have htr:termR (95::58::r)=some (⟨2,r.takeWhile isAl,[]⟩,r.dropWhile isAl):=rfl;have hxl:=(List.takeWhile_sublist isAl (l:=r)).length_le;have hql:=(List.dropWhile_sublist isAl (l:=r)).length_le;generalize r.takeWhile isAl=x at HRUN htr hxl;generalize r.dropWhile isAl=q at HRUN htr hql;clear HLS h1;go_enter func122,ntmps122
   go_wp2_with fail
   rw[HW2.out];refine HH1.out.mono ?_;rintro v w3 ⟨rfl,rfl⟩;go_wp2_with fail
   refine HH2.out.mono ?_;rintro v w3 ⟨rfl,rfl⟩;go_wp2_with fail
   refine HRUN.out.mono ?_;rintro v w4 ⟨rfl,hr4,hf4⟩;have HLS4:=hid (HLS2.out.call hf4 hr4);have HLS5:=hid (((HLS4.out.s0 (.int .i64 2)).s1 (.string (str x))).s2 (.string (str [])));rw[show str []=(⟨#[]⟩:ByteArray) from rfl]at HLS5;clear hr4 hf4 HLS2 HRUN;have f0:=HLS4.out.t3.f 0;have f1:=HLS4.out.t3.f 1;have f2:=HLS4.out.t3.f 2;have c0:=HLS4.out.t3.c0;have c1:=HLS4.out.t3.c1;have c2:=HLS4.out.t3.c2;cases htm:tmT ⟨2,x,[]⟩ with
   | true=>
    have HTW:=hid (zhl htr htm);have HTM:=hid htm;clear htr htm;have k1:=HLS5.out.rd.c1;have HIS:=hid (zaQ ⟨2,x,[]⟩ ⟨by show x.length<=_;omega,by show ([]:Bs).length<=_;simp⟩ _ (HLY.out _ HLS5.out.fr h4));rw[HTM.out]at HIS;unfold encT at HIS;simp only at HIS;have f0:=HLS5.out.t3.f 0;have f1:=HLS5.out.t3.f 1;have f2:=HLS5.out.t3.f 2;have c0:=HLS5.out.t3.c0;have c1:=HLS5.out.t3.c1;have c2:=HLS5.out.t3.c2;go_wp2_with fail
    refine HIS.out.mono ?_;rintro v w6 ⟨rfl,hb6⟩;have HLS6:=hid (HLS5.out.below hb6);clear hb6 HIS c0 c1 c2 f0 f1 f2;have HBL:=hid (zaB g q false _ HLS6.out.rd (by omega));go_wp2_with fail
    refine HBL.out.mono ?_;rintro v w7 ⟨rfl,hr7,hf7⟩;have HLS7:=hid (HLS6.out.call hf7 hr7);clear hr7 hf7 HBL;obtain ⟨_,_,_,t2⟩:=HLS7.out.t2;have d0:=t2.c0;have d1:=t2.c1;have d2:=t2.c2;have df0:=t2.f 0;have df1:=t2.f 1;have df2:=t2.f 2;have c0:=HLS7.out.t3.c0;have c1:=HLS7.out.t3.c1;have c2:=HLS7.out.t3.c2;clear t2;go_wp2;obtain ⟨q1,q2,q3⟩:=HLS7.out.fin (.int .i64 2) (.string (str x)) (.string ⟨#[]⟩);refine zak rfl rfl rfl q1 ?_;exact ⟨q2,.inl ⟨_,_,HTW.out,rfl,q3⟩⟩
   | false=>
    have HTW:=hid (zhm htr htm);have HTM:=hid htm;clear htr htm;have k1:=HLS5.out.rd.c1;have HIS:=hid (zaQ ⟨2,x,[]⟩ ⟨by show x.length<=_;omega,by show ([]:Bs).length<=_;simp⟩ _ (HLY.out _ HLS5.out.fr h4));rw[HTM.out]at HIS;unfold encT at HIS;simp only at HIS;have f0:=HLS5.out.t3.f 0;have f1:=HLS5.out.t3.f 1;have f2:=HLS5.out.t3.f 2;have c0:=HLS5.out.t3.c0;have c1:=HLS5.out.t3.c1;have c2:=HLS5.out.t3.c2;go_wp2_with fail
    refine HIS.out.mono ?_;rintro v w6 ⟨rfl,hb6⟩;have HLS6:=hid (HLS5.out.below hb6);clear hb6 HIS c0 c1 c2 f0 f1 f2;have HFA:=hid (zaT g q false _ HLS6.out.rd);go_wp2_with fail
    refine HFA.out.mono ?_;rintro v w7 ⟨rfl,hr7,hf7⟩;have HLS7:=hid (HLS6.out.call hf7 hr7);clear hr7 hf7 HFA;have HBL:=hid (zaB g [] true _ HLS7.out.rd (by simp));rw[zcW]at HBL;go_wp2_with fail
    refine HBL.out.mono ?_;rintro v w8 ⟨rfl,hr8,hf8⟩;have HLS8:=hid (HLS7.out.call hf8 hr8);clear hr8 hf8 HBL;obtain ⟨_,_,_,t2⟩:=HLS8.out.t2;have d0:=t2.c0;have d1:=t2.c1;have d2:=t2.c2;have df0:=t2.f 0;have df1:=t2.f 1;have df2:=t2.f 2;have c0:=HLS8.out.t3.c0;have c1:=HLS8.out.t3.c1;have c2:=HLS8.out.t3.c2;clear t2;go_wp2;obtain ⟨q1,q2,q3⟩:=HLS8.out.fin (.int .i64 2) (.string (str x)) (.string ⟨#[]⟩);refine zak rfl rfl rfl q1 ?_;exact ⟨q2,.inr ⟨HTW.out,⟨⟨2,x,[]⟩,rfl⟩,q3⟩⟩
 by_cases h3:∃r,l=34::r
 · obtain ⟨r,rfl⟩:=h3;have HH1:=hid (zaA g (34::r) [60] false w2 HLS.out.rd);simp only[List.length_cons,List.length_nil,Nat.zero_add,Nat.reduceAdd]at HH1;rw[show str [60]=(⟨#[60]⟩:ByteArray) from rfl,take1 (34::r) 60 h1]at HH1;have HH2:=hid (zaA g (34::r) [95,58] false w2 HLS.out.rd);simp only[List.length_cons,List.length_nil,Nat.zero_add,Nat.reduceAdd]at HH2;rw[show str [95,58]=(⟨#[95,58]⟩:ByteArray) from rfl,take2 (34::r) 95 58 h2]at HH2;have HH3:=hid (zaA g (34::r) [34] false w2 HLS.out.rd);simp only[List.length_cons,List.length_nil,Nat.zero_add,Nat.reduceAdd]at HH3;rw[show str [34]=(⟨#[34]⟩:ByteArray) from rfl,dT (show (34::r).take 1=[34] from rfl)]at HH3;simp only[List.length_cons]at hl;have k0:=HLS.out.rd.c0;have kf:=HLS.out.rd.f 0;have hsd:(str (34::r)).extract 1 (str (34::r)).size=str r:=(by rw[zab];exact za6 (34::r) 1);have hsz:(1:Int)<=((str (34::r)).size:Int):=(by rw[zab];simp only[List.length_cons];omega);generalize str (34::r)=S at k0 hsd hsz;have HLS2:=hid (HLS.out.setr r);have HLI:=hid (zjB g r false _ HLS2.out.rd (by omega));have htr0:termR (34::r)=litR r:=rfl;clear HLS h1 h2;go_enter func122,ntmps122
   go_wp2_with fail
   rw[HW2.out];refine HH1.out.mono ?_;rintro v w3 ⟨rfl,rfl⟩;go_wp2_with fail
   refine HH2.out.mono ?_;rintro v w3 ⟨rfl,rfl⟩;go_wp2_with fail
   refine HH3.out.mono ?_;rintro v w3 ⟨rfl,rfl⟩;go_wp2_with fail
   refine HLI.out.mono ?_;rintro v w4 ⟨hf4,⟨⟨k,x,e⟩,q,hx,rfl,hr4⟩ | ⟨hx,⟨⟨k,x,e⟩,rfl⟩,hr4⟩⟩
   · have hsml:=zmQ hx (by omega);have htr:termR (34::r)=some (⟨k,x,e⟩,q):=htr0.trans hx;have hql:q.length<=1000000:=by
      rw[zbq]at hx;cases hu:upTo true 34 true r with
      | none=>rw[hu]at hx;cases hx
      | some p=>
       have h1:=zaR hu;rw[hu,Option.bind_some]at hx;have h2:=zka hx;omega
     have HSML:=hid hsml;have HLS4:=hid (HLS2.out.call hf4 hr4);have HLS5:=hid (((HLS4.out.s0 (.int .i64 k)).s1 (.string (str x))).s2 (.string (str e)));clear hr4 hf4 HLS2 HLI hx htr0 hsml;unfold encT;simp only;have f0:=HLS4.out.t3.f 0;have f1:=HLS4.out.t3.f 1;have f2:=HLS4.out.t3.f 2;have c0:=HLS4.out.t3.c0;have c1:=HLS4.out.t3.c1;have c2:=HLS4.out.t3.c2;cases htm:tmT ⟨k,x,e⟩ with
     | true=>
      have HTW:=hid (zhl htr htm);have HTM:=hid htm;clear htr htm;have k1:=HLS5.out.rd.c1;have HIS:=hid (zaQ ⟨k,x,e⟩ HSML.out _ (HLY.out _ HLS5.out.fr h4));rw[HTM.out]at HIS;unfold encT at HIS;simp only at HIS;have f0:=HLS5.out.t3.f 0;have f1:=HLS5.out.t3.f 1;have f2:=HLS5.out.t3.f 2;have c0:=HLS5.out.t3.c0;have c1:=HLS5.out.t3.c1;have c2:=HLS5.out.t3.c2;go_wp2_with fail
      refine HIS.out.mono ?_;rintro v w6 ⟨rfl,hb6⟩;have HLS6:=hid (HLS5.out.below hb6);clear hb6 HIS c0 c1 c2 f0 f1 f2;have HBL:=hid (zaB g q false _ HLS6.out.rd (by omega));go_wp2_with fail
      refine HBL.out.mono ?_;rintro v w7 ⟨rfl,hr7,hf7⟩;have HLS7:=hid (HLS6.out.call hf7 hr7);clear hr7 hf7 HBL;obtain ⟨_,_,_,t2⟩:=HLS7.out.t2;have d0:=t2.c0;have d1:=t2.c1;have d2:=t2.c2;have df0:=t2.f 0;have df1:=t2.f 1;have df2:=t2.f 2;have c0:=HLS7.out.t3.c0;have c1:=HLS7.out.t3.c1;have c2:=HLS7.out.t3.c2;clear t2;go_wp2;obtain ⟨q1,q2,q3⟩:=HLS7.out.fin (.int .i64 k) (.string (str x)) (.string (str e));refine zak rfl rfl rfl q1 ?_;exact ⟨q2,.inl ⟨_,_,HTW.out,rfl,q3⟩⟩
     | false=>
      have HTW:=hid (zhm htr htm);have HTM:=hid htm;clear htr htm;have k1:=HLS5.out.rd.c1;have HIS:=hid (zaQ ⟨k,x,e⟩ HSML.out _ (HLY.out _ HLS5.out.fr h4));rw[HTM.out]at HIS;unfold encT at HIS;simp only at HIS;have f0:=HLS5.out.t3.f 0;have f1:=HLS5.out.t3.f 1;have f2:=HLS5.out.t3.f 2;have c0:=HLS5.out.t3.c0;have c1:=HLS5.out.t3.c1;have c2:=HLS5.out.t3.c2;go_wp2_with fail
      refine HIS.out.mono ?_;rintro v w6 ⟨rfl,hb6⟩;have HLS6:=hid (HLS5.out.below hb6);clear hb6 HIS c0 c1 c2 f0 f1 f2;have HFA:=hid (zaT g q false _ HLS6.out.rd);go_wp2_with fail
      refine HFA.out.mono ?_;rintro v w7 ⟨rfl,hr7,hf7⟩;have HLS7:=hid (HLS6.out.call hf7 hr7);clear hr7 hf7 HFA;have HBL:=hid (zaB g [] true _ HLS7.out.rd (by simp));rw[zcW]at HBL;go_wp2_with fail
      refine HBL.out.mono ?_;rintro v w8 ⟨rfl,hr8,hf8⟩;have HLS8:=hid (HLS7.out.call hf8 hr8);clear hr8 hf8 HBL;obtain ⟨_,_,_,t2⟩:=HLS8.out.t2;have d0:=t2.c0;have d1:=t2.c1;have d2:=t2.c2;have df0:=t2.f 0;have df1:=t2.f 1;have df2:=t2.f 2;have c0:=HLS8.out.t3.c0;have c1:=HLS8.out.t3.c1;have c2:=HLS8.out.t3.c2;clear t2;go_wp2;obtain ⟨q1,q2,q3⟩:=HLS8.out.fin (.int .i64 k) (.string (str x)) (.string (str e));refine zak rfl rfl rfl q1 ?_;exact ⟨q2,.inr ⟨HTW.out,⟨⟨k,x,e⟩,rfl⟩,q3⟩⟩
   · have HTW:Hid (termW (34::r)=none):=zhn (htr0.trans hx);have HLS4:=hid (HLS2.out.call hf4 hr4);have HLS5:=hid (((HLS4.out.s0 (.int .i64 k)).s1 (.string (str x))).s2 (.string (str e)));clear hr4 hf4 HLS2 HLI hx htr0;unfold encT;simp only;have f0:=HLS4.out.t3.f 0;have f1:=HLS4.out.t3.f 1;have f2:=HLS4.out.t3.f 2;have c0:=HLS4.out.t3.c0;have c1:=HLS4.out.t3.c1;have c2:=HLS4.out.t3.c2;have k1:=HLS5.out.rd.c1;have HBL:=hid (zaB g [] true _ HLS5.out.rd (by simp));rw[zcW]at HBL;go_wp2_with fail
     refine HBL.out.mono ?_;rintro v w7 ⟨rfl,hr7,hf7⟩;have HLS7:=hid (HLS5.out.call hf7 hr7);clear hr7 hf7 HBL;obtain ⟨_,_,_,t2⟩:=HLS7.out.t2;have d0:=t2.c0;have d1:=t2.c1;have d2:=t2.c2;have df0:=t2.f 0;have df1:=t2.f 1;have df2:=t2.f 2;have c0:=HLS7.out.t3.c0;have c1:=HLS7.out.t3.c1;have c2:=HLS7.out.t3.c2;clear t2;go_wp2;obtain ⟨q1,q2,q3⟩:=HLS7.out.fin (.int .i64 k) (.string (str x)) (.string (str e));refine zak rfl rfl rfl q1 ?_;exact ⟨q2,.inr ⟨HTW.out,⟨⟨k,x,e⟩,rfl⟩,q3⟩⟩
 have HH1:=hid (zaA g l [60] false w2 HLS.out.rd);simp only[List.length_cons,List.length_nil,Nat.zero_add,Nat.reduceAdd]at HH1;rw[show str [60]=(⟨#[60]⟩:ByteArray) from rfl,take1 l 60 h1]at HH1;have HH2:=hid (zaA g l [95,58] false w2 HLS.out.rd);simp only[List.length_cons,List.length_nil,Nat.zero_add,Nat.reduceAdd]at HH2;rw[show str [95,58]=(⟨#[95,58]⟩:ByteArray) from rfl,take2 l 95 58 h2]at HH2;have HH3:=hid (zaA g l [34] false w2 HLS.out.rd);simp only[List.length_cons,List.length_nil,Nat.zero_add,Nat.reduceAdd]at HH3;rw[show str [34]=(⟨#[34]⟩:ByteArray) from rfl,take1 l 34 h3]at HH3
 have HTW:Hid (termW l=none):=zhn (by
  unfold termR;split
  · exact absurd ⟨_,rfl⟩ h1
  · exact absurd ⟨_,rfl⟩ h2
  · exact absurd ⟨_,rfl⟩ h3
  · rfl)
 clear h1 h2 h3;go_enter func122,ntmps122
 go_wp2_with fail
 rw[HW2.out];refine HH1.out.mono ?_;rintro v w3 ⟨rfl,rfl⟩;go_wp2_with fail
 refine HH2.out.mono ?_;rintro v w3 ⟨rfl,rfl⟩;go_wp2_with fail
 refine HH3.out.mono ?_;rintro v w3 ⟨rfl,rfl⟩;have k1:=HLS.out.rd.c1;have HIS:=hid (zaQ ⟨0,[],[]⟩ ⟨by show ([]:Bs).length<=_;simp,by show ([]:Bs).length<=_;simp⟩ _ (HLY.out _ HLS.out.fr h4));rw[show tmT ⟨0,[],[]⟩=false from rfl]at HIS;unfold encT at HIS;simp only at HIS;rw[show str []=(⟨#[]⟩:ByteArray) from rfl]at HIS;have f0:=HLS.out.t3.f 0;have f1:=HLS.out.t3.f 1;have f2:=HLS.out.t3.f 2;have c0:=HLS.out.t3.c0;have c1:=HLS.out.t3.c1;have c2:=HLS.out.t3.c2;go_wp2_with fail
 refine HIS.out.mono ?_;rintro v w6 ⟨rfl,hb6⟩;have HLS6:=hid (HLS.out.below hb6);clear hb6 HIS c0 c1 c2 f0 f1 f2;have HFA:=hid (zaT g l false _ HLS6.out.rd);go_wp2_with fail
 refine HFA.out.mono ?_;rintro v w7 ⟨rfl,hr7,hf7⟩;have HLS7:=hid (HLS6.out.call hf7 hr7);clear hr7 hf7 HFA;have HBL:=hid (zaB g [] true _ HLS7.out.rd (by simp));rw[zcW]at HBL;go_wp2_with fail
 refine HBL.out.mono ?_;rintro v w8 ⟨rfl,hr8,hf8⟩;have HLS8:=hid (HLS7.out.call hf8 hr8);clear hr8 hf8 HBL;obtain ⟨_,_,_,t2⟩:=HLS8.out.t2;have d0:=t2.c0;have d1:=t2.c1;have d2:=t2.c2;have df0:=t2.f 0;have df1:=t2.f 1;have df2:=t2.f 2;have c0:=HLS8.out.t3.c0;have c1:=HLS8.out.t3.c1;have c2:=HLS8.out.t3.c2;clear t2;go_wp2;obtain ⟨q1,q2,q3⟩:=HLS8.out.fin (.int .i64 0) (.string ⟨#[]⟩) (.string ⟨#[]⟩);refine zak rfl rfl rfl q1 ?_;exact ⟨q2,.inr ⟨HTW.out,⟨⟨0,[],[]⟩,rfl⟩,q3⟩⟩
def shF:ByteArray:=⟨#[34,92,10,13,9,8,12]⟩
def shT:ByteArray:=⟨#[34,92,110,114,116,98,102]⟩
theorem zms:∀i:Fin 7,escB (shF[i.val]'(by have:=i.2;exact this))=[92,shT[i.val]'(by have:=i.2;exact this)]/\shT.extract i.val (i.val+1)=str [shT[i.val]'(by have:=i.2;exact this)]:=by decide +kernel
theorem zmt (c:UInt8) (h:∀i:Fin 7,(shF[i.val]'(by have:=i.2;exact this))≠c):escB c=if c<32\/c=127 then [92,117,48,48,hexB (c.toNat / 16),hexB (c.toNat % 16)] else [c]:=by
 have h0:(34:UInt8)≠c:=h 0;have h1:(92:UInt8)≠c:=h 1;have h2:(10:UInt8)≠c:=h 2;have h3:(13:UInt8)≠c:=h 3;have h4:(9:UInt8)≠c:=h 4;have h5:(8:UInt8)≠c:=h 5;have h6:(12:UInt8)≠c:=h 6;unfold escB;rw[if_neg h0.symm,if_neg h1.symm,if_neg h2.symm,if_neg h3.symm,if_neg h4.symm,if_neg h5.symm,if_neg h6.symm]
theorem zlu (l:Bs) (i:Nat) (h:i<l.length):escS (l.take (i+1))=escS (l.take i)++escB l[i]:=by
 rw[zga l i h,zgV]
theorem zfM (l:Bs) (i:Nat):(escS (l.take i)).length<=6*l.length:=by
 have:=zcw (l.take i);rw[List.length_take]at this;omega
theorem zez (l:Bs) (w:World) (hl:l.length<=1000000) :
    Calls prog 95 #[.string (str l)] w fun v w'=>v=.returned (.string (str (escS l)))/\Below w.heap.size w w':=by
 have hsz:=zab l;obtain ⟨S,hS⟩:∃S,str l=S:=⟨_,rfl⟩;rw[hS]at hsz ⊢;have HS:=hid hS;clear hS;have hFs:shF.size=7:=rfl;have hTs:shT.size=7:=rfl;have hXs:hexS.size=16:=rfl;go_enter func95,ntmps95
 go_wp2;rw[show (⟨#[34,92,10,13,9,8,12]⟩:ByteArray)=shF from rfl,show (⟨#[34,92,110,114,116,98,102]⟩:ByteArray)=shT from rfl,show (⟨#[48,49,50,51,52,53,54,55,56,57,65,66,67,68,69,70]⟩:ByteArray)=hexS from rfl];go_loopw [6,7] (fun v6 v7 wr=>∃(i:Nat) (acc:Bs),v6=.string (str acc)/\v7=.int .i64 i/\i<=l.length/\Hid (acc=escS (l.take i))/\Below w.heap.size w wr) (fun _ v7 _=>l.length-(intOf v7).toNat)
 case atStart=>exact ⟨0,[],rfl,rfl,Nat.zero_le _,hid rfl,br⟩
 case round=>
  obtain ⟨i,acc,rfl,rfl,hil,HA,hb⟩:=hrel;have HB:=hid hb;clear hb;by_cases hlt:i<l.length
  · have hiS:i<S.size:=(by omega);have hgi:S[i]'hiS=l[i]:=(by have:=HS.out;subst this;rfl);have hs1:S.extract i (i+1)=str [l[i]]:=(by rw[<-HS.out];exact zkf l i hlt);have HNX:Hid (∀r,escB l[i]=r->acc++r=escS (l.take (i+1))):=fun r hr=>(by rw[zlu l i hlt,hr,HA.out]);have hal:acc.length<=6*l.length:=(by rw[HA.out];exact zfM l i);generalize l[i]=c at hgi hs1 HNX;have hc:=c.toNat_lt;obtain ⟨n,hn⟩:∃n,c.toNat=n:=⟨_,rfl⟩;have HN:=hid hn;rw[hn]at hc;have hgi2:(S[i]'hiS).toNat=n:=(by rw[hgi];exact hn);clear hgi hn HA;go_wp2;go_loopw [9] (fun v9 wk=>∃k:Nat,v9=.int .i64 k/\k<=7/\Hid (∀j:Fin 7,j.val<k->(shF[j.val]'(by have:=j.2;exact this))≠c)/\wk=wr) (fun v9 _=>7-(intOf v9).toNat)
    case atStart=>exact ⟨0,rfl,by omega,hid fun j hj=>absurd hj (by omega),rfl⟩
    case round=>
     obtain ⟨k,rfl,hk7,HK,rfl⟩:=hrel;by_cases hkl:k<7
     · have hkf:k<shF.size:=hkl;by_cases hcy:(shF[k]'hkf)=c
       · obtain ⟨d,hd1,hd2⟩:∃d,escB (shF[k]'hkf)=[92,d]/\shT.extract k (k+1)=str [d]:=⟨_,zms ⟨k,hkl⟩⟩;rw[hcy]at hd1;have HE:=hid (HNX.out _ hd1);have hq:(((shF[k]'hkf).toNat:Int) != (n:Int))=false:=(by rw[bne_eq_false_iff_eq,hcy,HN.out]);have r1:=zaF acc [92] (by simp;omega);have r2:=zaF (acc++[92]) [d] (by simp;omega);rw[show str [92]=(⟨#[92]⟩:ByteArray) from rfl]at r1;have r3:acc++[92]++[d]=acc++[92,d]:=(by simp);rw[r3]at r2;clear hcy HK HNX hd1 r3;go_wp2;go_roundw
         case rel=>exact ⟨i+1,acc++[92,d],rfl,by go_num,by omega,HE,HB.out⟩
         case measure=>simp[intOf];omega
       · have hq:(((shF[k]'hkf).toNat:Int) != (n:Int))=true:=by
          rw[bne_iff_ne,<-HN.out];exact fun h=>hcy (UInt8.toNat_inj.1 (by omega))
         have HK2:Hid (∀j:Fin 7,j.val<k+1->(shF[j.val]'(by have:=j.2;exact this))≠c):=fun j hj=>by
          by_cases hjk:j.val<k
          · exact HK.out j hjk
          · have e:j=⟨k,hkl⟩:=Fin.ext (by show j.val=k;omega);subst e;exact hcy
         clear hcy HK HNX hs1;go_wp2;go_roundw
         case rel=>exact ⟨k+1,by go_num,by omega,HK2,by first | rfl | trivial⟩
         case measure=>simp[intOf];omega
     · obtain rfl:k=7:=(by omega);have he:=zmt c fun j=>HK.out j j.2;clear HK hkl;rw[HN.out]at he;have q127:((n:Int) == 127)=decide (c=127):=(by rw[<-HN.out];exact zeL c 127 (by decide));have q32:c<32↔n<32:=(by rw[UInt8.lt_iff_toNat_lt,HN.out];exact Iff.rfl);by_cases hsp:c<32\/c=127
       · rw[if_pos hsp]at he;have HE:=hid (HNX.out _ he);have hi:n / 16<16:=(by omega);have lo:n % 16<16:=Nat.mod_lt _ (by decide);have x1:=zdg _ hi;have x2:=zdg _ lo;have r1:=zaF acc [92,117,48,48] (by simp;omega);have r2:=zaF (acc++[92,117,48,48]) [hexB (n / 16)] (by simp;omega);have r3:=zaF (acc++[92,117,48,48]++[hexB (n / 16)]) [hexB (n % 16)] (by simp;omega);rw[show str [92,117,48,48]=(⟨#[92,117,48,48]⟩:ByteArray) from rfl]at r1;have r4:acc++[92,117,48,48]++[hexB (n / 16)]++[hexB (n % 16)]=acc++[92,117,48,48,hexB (n / 16),hexB (n % 16)]:=(by simp);have r5:acc++[92,117,48,48]++[hexB (n / 16)]=acc++[92,117,48,48,hexB (n / 16)]:=(by simp);rw[r4,r5]at r3;rw[r5]at r2;have hbd:Below w.heap.size w wr.drew:=HB.out.trans ⟨rfl,rfl,rfl,nL,fun _ _=>rfl⟩;have HBD:=hid hbd;clear r4 r5 hbd he HNX hs1;have hor:(n:Int)<32\/(¬(n:Int)<32/\((n:Int) == 127)=true):=by
          by_cases h:n<32
          · left;omega
          · right
            refine ⟨by omega,?_⟩;rw[q127];exact dT (hsp.resolve_left fun h2=>h (q32.1 h2))
         clear q127 q32 hsp;rcases hor with h32 | ⟨h32,h127⟩
         all_goals
          go_wp2;go_region
          go_wp2;go_roundw
          case rel=>exact ⟨i+1,_,rfl,by go_num,by omega,HE,HBD.out⟩
          case measure=>simp[intOf];omega
       · rw[if_neg hsp]at he;have HE:=hid (HNX.out _ he);have h32:¬(n:Int)<32:=by
          have:¬n<32:=fun h=>hsp (.inl (q32.2 h));omega
         have h127:((n:Int) == 127)=false:=(by rw[q127];exact dF fun h=>hsp (.inr h));have r1:=zaF acc [c] (by simp;omega);clear q127 q32 hsp he HNX;go_wp2;go_roundw
         case rel=>exact ⟨i+1,_,rfl,by go_num,by omega,HE,HB.out⟩
         case measure=>simp[intOf];omega
  · obtain rfl:i=l.length:=(by omega);have HE:Hid (acc=escS l):=by
     have h:=HA.out;rw[List.take_length]at h;exact h
    clear HA;go_wp2;go_ret;exact ⟨by rw[<-HE.out];rfl,HB.out⟩
theorem zb6 (t:Tm) (h:Sml t) (w:World) :
    Calls prog 44 #[.agg (encT t).toArray] w fun v w'=>v=.returned (.string (str (shw t)))/\Below w.heap.size w w':=by
 obtain ⟨k,x,e⟩:=t;obtain ⟨hx,he⟩:=h;simp only at hx he;have hxs:(str x).size<=1000000:=(by rw[zab];exact hx);have hes:(str e).size<=1000000:=(by rw[zab];exact he);have HQ:=hid fun w=>zez x w hx;have hel:=zcw x;obtain ⟨wa,hwa⟩:∃wa,w.alloc (.cells #[.int .i64 k,.string (str x),.string (str e)] 82)=wa:=⟨_,rfl⟩;have hba:Below w.heap.size w wa:=(by rw[<-hwa];exact br.alloc nL _);have hcc:∀W,Below wa.heap.size wa W->W.cell? ⟨w.heap.size,0,none⟩=some (.int .i64 k)/\W.cell? ⟨w.heap.size,1,none⟩=some (.string (str x))/\W.cell? ⟨w.heap.size,2,none⟩=some (.string (str e)):=fun W hW=>by
  have h1:wa.heap[w.heap.size]?=some (.cells #[.int .i64 k,.string (str x),.string (str e)] 82 (0,0)):=(by rw[<-hwa];exact heap_alloc_new w _);have h2:=(hW.block _ (Array.getElem?_eq_some_iff.1 h1).1).trans h1;exact ⟨by rw[cell_of_heap h2];rfl,by rw[cell_of_heap h2];rfl,by rw[cell_of_heap h2];rfl⟩
 obtain ⟨c0,c1,c2⟩:=hcc wa br;have HCC:=hid hcc;have FIN:Hid (∀W,Below wa.heap.size wa W->Below w.heap.size w W):=fun W hW=>hba.trans (hW.mono hba.size);have HF0:=hid hba;have r1:=zaF [34] (escS x) (by simp;omega);have r2:=zaF ([34]++escS x) [34] (by simp;omega);have hqe:[34]++escS x++[34]=qt x:=(by unfold qt;simp);rw[hqe]at r2;obtain ⟨y0,hy0⟩:∃y,[34]++escS x=y:=⟨_,rfl⟩;rw[hy0]at r1 r2;have hql:=zkz x;rw[show str [34]=(⟨#[34]⟩:ByteArray) from rfl]at r1 r2;unfold encT;simp only;clear hcc hba hqe hy0;by_cases h1:k=1
 · subst h1;have a1:=zaF [60] x (by simp;omega);have a2:=zaF ([60]++x) [62] (by simp;omega);rw[show str [60]=(⟨#[60]⟩:ByteArray) from rfl]at a1;rw[show str [62]=(⟨#[62]⟩:ByteArray) from rfl]at a2;rw[show shw ⟨1,x,e⟩=[60]++x++[62] by unfold shw;simp];obtain ⟨y1,hy1⟩:∃y,[60]++x=y:=⟨_,rfl⟩;rw[hy1]at a1 a2 ⊢;clear r1 r2 hy1;go_enter func44,ntmps44
   go_wp2;go_ret;exact ⟨by first | rfl | simp,HF0.out⟩
 have b1:(k == 1)=false:=(by rw[beq_eq_false_iff_ne];exact h1);by_cases h2:k=2
 · subst h2;have a1:=zaF [95,58] x (by simp;omega);rw[show str [95,58]=(⟨#[95,58]⟩:ByteArray) from rfl]at a1;rw[show shw ⟨2,x,e⟩=[95,58]++x by unfold shw;simp];obtain ⟨y1,hy1⟩:∃y,[95,58]++x=y:=⟨_,rfl⟩;rw[hy1]at a1 ⊢;clear r1 r2 hy1;go_enter func44,ntmps44
   go_wp2;go_ret;exact ⟨by first | rfl | simp,HF0.out⟩
 have b2:(k == 2)=false:=(by rw[beq_eq_false_iff_ne];exact h2);by_cases h4:k=4
 · subst h4;have a1:=zaF (qt x) [64] (by simp;omega);have a2:=zaF (qt x++[64]) e (by simp;omega);rw[show str [64]=(⟨#[64]⟩:ByteArray) from rfl]at a1;rw[show shw ⟨4,x,e⟩=qt x++[64]++e by unfold shw;simp];obtain ⟨y1,hy1⟩:∃y,qt x++[64]=y:=⟨_,rfl⟩;rw[hy1]at a1 a2 ⊢;clear hy1;go_enter func44,ntmps44
   go_wp2_with fail
   refine (HQ.out _).mono ?_;rintro v w1 ⟨rfl,hb1⟩;obtain ⟨k0,k1,k2⟩:=HCC.out w1 hb1;have HB1:=hid hb1;clear hb1;go_wp2;go_ret;exact ⟨by first | rfl | simp,FIN.out _ HB1.out⟩
 have b4:(k == 4)=false:=(by rw[beq_eq_false_iff_ne];exact h4);by_cases h5:k=5
 · subst h5;have a1:=zaF (qt x) [94,94,60] (by simp;omega);have a2:=zaF (qt x++[94,94,60]) e (by simp;omega);have a3:=zaF (qt x++[94,94,60]++e) [62] (by simp;omega);rw[show str [94,94,60]=(⟨#[94,94,60]⟩:ByteArray) from rfl]at a1;rw[show str [62]=(⟨#[62]⟩:ByteArray) from rfl]at a3;rw[show shw ⟨5,x,e⟩=qt x++[94,94,60]++e++[62] by unfold shw;simp];obtain ⟨y1,hy1⟩:∃y,qt x++[94,94,60]=y:=⟨_,rfl⟩;rw[hy1]at a1 a2 a3 ⊢;obtain ⟨y2,hy2⟩:∃y,y1++e=y:=⟨_,rfl⟩;rw[hy2]at a2 a3 ⊢;have HY1:=hid hy1;have HY2:=hid hy2;clear hy1 hy2;go_enter func44,ntmps44
   go_wp2_with fail
   refine (HQ.out _).mono ?_;rintro v w1 ⟨rfl,hb1⟩;obtain ⟨k0,k1,k2⟩:=HCC.out w1 hb1;have HB1:=hid hb1;clear hb1;go_wp2;go_ret;exact ⟨by first | rfl | simp,FIN.out _ HB1.out⟩
 have b5:(k == 5)=false:=(by rw[beq_eq_false_iff_ne];exact h5);rw[show shw ⟨k,x,e⟩=qt x by unfold shw;simp[h1,h2,h4,h5]];go_enter func44,ntmps44
 go_wp2_with fail
 refine (HQ.out _).mono ?_;rintro v w1 ⟨rfl,hb1⟩;obtain ⟨k0,k1,k2⟩:=HCC.out w1 hb1;have HB1:=hid hb1;clear hb1;go_wp2;go_ret;exact ⟨by first | rfl | simp,FIN.out _ HB1.out⟩
theorem zeR (t:Tm) (h:Sml t) (w:World) (n:Nat) (os:Array Obj) :
    Calls prog 44 #[.agg (encT t).toArray] (Sort.grow (w.drewN n) os) fun e w''=>e=.returned (.string (str (shw t)))/\∃p:GrownBy,w''=Sort.grow (w.drewN p.n) p.os:=
 Calls.grown_of (Dr.calls_grow (zb6 t h _))
theorem zlE:∀args w,(callFunc 44 args).run prog w=.ok (.enter 44 args) w:=enters_of func44 (by kernel_rfl) rfl
theorem zbU (s t:Tm) (hs:Sml s) (ht:Sml t) (w:World) :
    Calls prog 125 #[.agg (encT s).toArray,.agg (encT t).toArray] w fun e w'=>e=.returned (.int .i64 (cmpT s t))/\Below w.heap.size w w':=by
 have HS:=hid fun w n os=>zeR s hs w n os;have HT:=hid fun w n os=>zeR t ht w n os;clear hs ht;unfold cmpT;obtain ⟨k1,x1,e1⟩:=s;obtain ⟨k2,x2,e2⟩:=t;unfold encT at HS HT ⊢;simp only at HS HT ⊢;generalize shw ⟨k1,x1,e1⟩=r1 at HS ⊢;generalize shw ⟨k2,x2,e2⟩=r2 at HT ⊢;obtain ⟨x,hx⟩:∃x,Op.bytesLess (str r1).toList (str r2).toList=x:=⟨_,rfl⟩;obtain ⟨y,hy⟩:∃y,((str r1).toList == (str r2).toList)=y:=⟨_,rfl⟩;obtain ⟨R,hR⟩:∃R,cmpB r1 r2=R:=⟨_,rfl⟩;have HR:Hid (R=if x=true then -1 else if y=true then 0 else 1):=by
  show R=_;rw[<-hR,<-hx,<-hy,zb4,Lib.toList_data,Lib.toList_data,zae,zae];unfold cmpB;simp
 rw[hR];clear hR;go_enter func125,ntmps125
 go_wp2;have c0:∀(n:Nat) (os:Array Obj),(Sort.grow (((w.alloc (.cells #[.int .i64 k1,.string (str x1),.string (str e1)] 82)).alloc (.cells #[.int .i64 k2,.string (str x2),.string (str e2)] 82)).drewN n) os).cell? ⟨w.heap.size,0,none⟩=some (.int .i64 k1):=fun n os=>cell_grown (by simp;omega) (by simp) n os;have c1:∀(n:Nat) (os:Array Obj),(Sort.grow (((w.alloc (.cells #[.int .i64 k1,.string (str x1),.string (str e1)] 82)).alloc (.cells #[.int .i64 k2,.string (str x2),.string (str e2)] 82)).drewN n) os).cell? ⟨w.heap.size,1,none⟩=some (.string (str x1)):=fun n os=>cell_grown (by simp;omega) (by simp) n os;have c2:∀(n:Nat) (os:Array Obj),(Sort.grow (((w.alloc (.cells #[.int .i64 k1,.string (str x1),.string (str e1)] 82)).alloc (.cells #[.int .i64 k2,.string (str x2),.string (str e2)] 82)).drewN n) os).cell? ⟨w.heap.size,2,none⟩=some (.string (str e1)):=fun n os=>cell_grown (by simp;omega) (by simp) n os;have d0:∀(n:Nat) (os:Array Obj),(Sort.grow (((w.alloc (.cells #[.int .i64 k1,.string (str x1),.string (str e1)] 82)).alloc (.cells #[.int .i64 k2,.string (str x2),.string (str e2)] 82)).drewN n) os).cell? ⟨w.heap.size+1,0,none⟩=some (.int .i64 k2):=fun n os=>cell_grown (by simp) (by simp) n os;have d1:∀(n:Nat) (os:Array Obj),(Sort.grow (((w.alloc (.cells #[.int .i64 k1,.string (str x1),.string (str e1)] 82)).alloc (.cells #[.int .i64 k2,.string (str x2),.string (str e2)] 82)).drewN n) os).cell? ⟨w.heap.size+1,1,none⟩=some (.string (str x2)):=fun n os=>cell_grown (by simp) (by simp) n os;have d2:∀(n:Nat) (os:Array Obj),(Sort.grow (((w.alloc (.cells #[.int .i64 k1,.string (str x1),.string (str e1)] 82)).alloc (.cells #[.int .i64 k2,.string (str x2),.string (str e2)] 82)).drewN n) os).cell? ⟨w.heap.size+1,2,none⟩=some (.string (str e2)):=fun n os=>cell_grown (by simp) (by simp) n os;generalize hw1:((w.alloc (.cells #[.int .i64 k1,.string (str x1),.string (str e1)] 82)).alloc (.cells #[.int .i64 k2,.string (str x2),.string (str e2)] 82))=w1 at c0 c1 c2 d0 d1 d2 ⊢;have HB:Hid (Below w.heap.size w w1):=by
  show Below w.heap.size w w1;rw[<-hw1];exact ((Below.refl _ w).alloc nL _).alloc (by simp) _
 have hs1:w.heap.size<=w1.heap.size:=HB.out.size;clear hw1;have hmix:=mixed;have hent:=zlE;go_quiet_grown (first | (go_at_fn 44;first | with_reducible exact HS.out _ _ _ | with_reducible exact HT.out _ _ _))
 clear c0 c1 c2 d0 d1 d2;have hg:=zlo 9;cases x with
 | true=>
  have HR2:Hid (R = -1):=HR.out.trans (by simp);clear HR;go_wp2;go_ret;exact ⟨by rw[HR2.out];rfl,HB.out.trans ((below_grow _ _ _).mono hs1)⟩
 | false=>
  cases y with
  | true=>
   have HR2:Hid (R=0):=HR.out.trans (by simp);clear HR;go_wp2;go_ret;exact ⟨by rw[HR2.out];rfl,HB.out.trans ((below_grow _ _ _).mono hs1)⟩
  | false=>
   have HR2:Hid (R=1):=HR.out.trans (by simp);clear HR;go_wp2;go_ret;exact ⟨by rw[HR2.out];rfl,HB.out.trans ((below_grow _ _ _).mono hs1)⟩
theorem zdA (t:Tm) (ht:tmT t=true):termW (shw t)=some (t,[]):=by
 have h:=zcf false t ht [] (by intro c hc;cases hc);rw[List.append_nil]at h;rcases zma (shw t) with h1 | ⟨h1,_⟩ | ⟨h1,_⟩
 · rw[h1,h]
 · rw[h]at h1;cases h1
 · rw[h]at h1;cases h1
theorem zim {l r:Bs} {t:Tm} (h:termW l=some (t,r)):tmT t=true:=by
 unfold termW at h;cases hr:termR l with
 | none=>rw[hr]at h;cases h
 | some p=>
  rw[hr,Option.bind_some]at h;split at h
  · cases h;assumption
  · cases h
theorem zml {s:Bs} (h:validD s=false):shownV s=none:=by
 rw[zbe];rintro ⟨t,ht,rfl⟩;rw[zf2 t ht]at h;cases h
theorem zmo {s:Bs} (h:termW s=none):shownV s=none:=by
 rw[zbe];rintro ⟨t,ht,rfl⟩;rw[zdA t ht]at h;cases h
theorem zmn {s r:Bs} {t:Tm} (h:termW s=some (t,r)) (hr:blk r≠[]):shownV s=none:=by
 rw[zbe];rintro ⟨t',ht,rfl⟩;rw[zdA t' ht]at h;cases h
 exact hr rfl
theorem zmm {s r:Bs} {t:Tm} (h:termW s=some (t,r)) (hs:shw t≠s):shownV s=none:=by
 rw[zbe];rintro ⟨t',ht,rfl⟩;rw[zdA t' ht]at h;cases h
 exact hs rfl
theorem zmk {s r:Bs} {t:Tm} (h:termW s=some (t,r)) (hs:shw t=s):shownV s=some t:=(za0 s t).2 ⟨zim h,hs⟩
theorem zho (s:Bs) (w:World) (h4:4<=w.heap.size) (ht:Lay w) (hl:s.length<=40000) :
    Calls prog 76 #[.string (str s)] w fun e w'=>Below w.heap.size w w'/\ShAns (shownV s) e:=by
 obtain ⟨wa,hwa⟩:∃wa,w.alloc (.cells #[.int .i64 0,.string ⟨#[]⟩,.string ⟨#[]⟩] 82)=wa:=⟨_,rfl⟩;have hba:Below w.heap.size w wa:=(by rw[<-hwa];exact br.alloc nL _);have hna:wa.heap.size=w.heap.size+1:=(by rw[<-hwa];simp);have t2a:T3 wa w.heap.size (.int .i64 0) (.string ⟨#[]⟩) (.string ⟨#[]⟩):=(by rw[<-hwa];exact T3.new _ _ _ _);have HV:=hid (zaC s wa (ht.below hba) (by omega));have HBA:=hid hba;have HT2:=hid t2a;have HLY:Hid (∀W,Below w.heap.size w W->Lay W):=fun W hW=>ht.below hW;clear hba t2a ht;go_enter func76,ntmps76
 go_wp2_with fail
 refine HV.out.mono ?_;rintro v w1 ⟨rfl,hb1⟩;have HB1:=hid (HBA.out.trans (hb1.mono HBA.out.size));have HT21:=hid (HT2.out.fr (Fr.of_below hb1 fun _=>False) fun h=>h);have hn1:=hb1.size;clear hb1 HV HBA HT2;have c0:=HT21.out.c0;have c1:=HT21.out.c1;have c2:=HT21.out.c2;have f0:=HT21.out.f 0;have f1:=HT21.out.f 1;have f2:=HT21.out.f 2;cases hv:validD s with
 | false=>
  have HNO:=hid (zml hv);clear hv;go_wp2;refine zbf rfl rfl rfl (((HT21.out.set0 _).set1 _).set2 _) ?_;refine ⟨((HB1.out.setCell (p:=⟨w.heap.size,0,none⟩) nL _).setCell (p:=⟨w.heap.size,1,none⟩) nL _).setCell (p:=⟨w.heap.size,2,none⟩) nL _,?_⟩;exact .inr ⟨⟨0,[],[]⟩,HNO.out,rfl⟩
 | true=>
  clear hv;clear c0 c1 c2 f0 f1 f2;obtain ⟨wr,hwr⟩:∃wr,w1.alloc (.cells #[.string (str s),.bool false] 185)=wr:=⟨_,rfl⟩;have hbr:Below w1.heap.size w1 wr:=(by rw[<-hwr];exact br.alloc nL _);have hrd:Rd5 wr w1.heap.size s false:=(by rw[<-hwr];exact Rd5.new _ _ _);have HT3:=hid (HT21.out.fr (Fr.of_below hbr fun _=>False) fun h=>h);have HBR:=hid (HB1.out.trans (hbr.mono HB1.out.size));have HTM:=hid (zhp w1.heap.size s wr hrd (HLY.out _ HBR.out) (by omega) (by have:=HB1.out.size;omega));have HWR:=hid hwr;clear hbr hrd hwr HT21;go_wp2_with fail
  rw[HWR.out];refine HTM.out.mono ?_;rintro v w2 ⟨hf2,hor⟩;have HT4:=hid (HT3.out.fr hf2 (by omega));have HFR:=hid hf2;clear hf2 HTM HT3;have hws:=HBR.out.size;have hgw:w.heap.size<=w1.heap.size:=HB1.out.size;have HB2:Hid (Below w.heap.size w w2):=HBR.out.trans (HFR.out.belowB (B:=w.heap.size) (by intro k hk hkk;omega) hws);rcases hor with ⟨⟨k1,x1,e1⟩,r,htw,rfl,hr2⟩ | ⟨htw,⟨⟨k1,x1,e1⟩,rfl⟩,hr2⟩
  all_goals
   obtain ⟨wb,hwb⟩:∃wb,w2.alloc (.cells #[.int .i64 k1,.string (str x1),.string (str e1)] 82)=wb:=⟨_,rfl⟩;have hbb:Below w2.heap.size w2 wb:=(by rw[<-hwb];exact br.alloc nL _);have hrd:=hr2.below hbb;have ht5:T3 wb w2.heap.size (.int .i64 k1) (.string (str x1)) (.string (str e1)):=(by rw[<-hwb];exact T3.new _ _ _ _);have HT5:=hid (HT4.out.fr (Fr.of_below hbb fun _=>False) fun h=>h);have HB5:=hid (HB2.out.trans (hbb.mono HB2.out.size));have r0:=hrd.c0;have r1:=hrd.c1;have HTA:=hid ht5;clear hbb hrd ht5 hr2 HT4 HB2 HFR HBR HB1;unfold encT;simp only
  · have HSM:=hid (show Sml ⟨k1,x1,e1⟩ from VTm.sml ⟨_,zim htw⟩);have HTW:=hid htw;have HSH:=hid fun W=>zb6 ⟨k1,x1,e1⟩ HSM.out W;have heq:=zb4 (shw ⟨k1,x1,e1⟩) s;unfold encT at HSH;simp only at HSH;clear htw;by_cases hbr:blk r=[]
    · have b0:=HTA.out.c0;have b1:=HTA.out.c1;have b2:=HTA.out.c2;rw[hbr]at r0;rw[show str []=(⟨#[]⟩:ByteArray) from rfl]at r0;have HS1:=hid (zmm HTW.out);have HS2:=hid (zmk HTW.out);generalize shw ⟨k1,x1,e1⟩=z at HSH heq HS1 HS2;go_wp2_with fail
      refine (HSH.out _).mono ?_;rintro e w6 ⟨rfl,hb6⟩;have HT6:=hid (HT5.out.fr (Fr.of_below hb6 fun _=>False) fun h=>h);have HTB:=hid (HTA.out.fr (Fr.of_below hb6 fun _=>False) fun h=>h);have HB6:=hid (HB5.out.trans (hb6.mono HB5.out.size));clear hb6 HT5 HTA HB5 HSH hwb b0 b1 b2 r0 r1;have c0:=HT6.out.c0;have c1:=HT6.out.c1;have c2:=HT6.out.c2;have f0:=HT6.out.f 0;have f1:=HT6.out.f 1;have f2:=HT6.out.f 2;have b0:=HTB.out.c0;have b1:=HTB.out.c1;have b2:=HTB.out.c2;by_cases hz:z=s
      · have HY:=hid (HS2.out hz);rw[dT hz]at heq;clear HS1 HS2 hz hbr;go_wp2;refine zbf rfl rfl rfl (((HT6.out.set0 _).set1 _).set2 _) ?_;refine ⟨((HB6.out.setCell (p:=⟨w.heap.size,0,none⟩) nL _).setCell (p:=⟨w.heap.size,1,none⟩) nL _).setCell (p:=⟨w.heap.size,2,none⟩) nL _,?_⟩;exact .inl ⟨⟨k1,x1,e1⟩,HY.out,rfl⟩
      · have HY:=hid (HS1.out hz);rw[dF hz]at heq;clear HS1 HS2 hz hbr;go_wp2;refine zbf rfl rfl rfl (((HT6.out.set0 _).set1 _).set2 _) ?_;refine ⟨((HB6.out.setCell (p:=⟨w.heap.size,0,none⟩) nL _).setCell (p:=⟨w.heap.size,1,none⟩) nL _).setCell (p:=⟨w.heap.size,2,none⟩) nL _,?_⟩;exact .inr ⟨⟨0,[],[]⟩,HY.out,rfl⟩
    · have HNO:=hid (zmn HTW.out hbr);have hne:=zd6 (blk r);rw[dF hbr]at hne;generalize str (blk r)=sr at r0 hne;clear hbr heq;have c0:=HT5.out.c0;have c1:=HT5.out.c1;have c2:=HT5.out.c2;have f0:=HT5.out.f 0;have f1:=HT5.out.f 1;have f2:=HT5.out.f 2;go_wp2;refine zbf rfl rfl rfl (((HT5.out.set0 _).set1 _).set2 _) ?_;refine ⟨((HB5.out.setCell (p:=⟨w.heap.size,0,none⟩) nL _).setCell (p:=⟨w.heap.size,1,none⟩) nL _).setCell (p:=⟨w.heap.size,2,none⟩) nL _,?_⟩;exact .inr ⟨⟨0,[],[]⟩,HNO.out,rfl⟩
  · have HNO:=hid (zmo htw);clear htw;have c0:=HT5.out.c0;have c1:=HT5.out.c1;have c2:=HT5.out.c2;have f0:=HT5.out.f 0;have f1:=HT5.out.f 1;have f2:=HT5.out.f 2;go_wp2;refine zbf rfl rfl rfl (((HT5.out.set0 _).set1 _).set2 _) ?_;refine ⟨((HB5.out.setCell (p:=⟨w.heap.size,0,none⟩) nL _).setCell (p:=⟨w.heap.size,1,none⟩) nL _).setCell (p:=⟨w.heap.size,2,none⟩) nL _,?_⟩;exact .inr ⟨⟨0,[],[]⟩,HNO.out,rfl⟩
end Go.Proofs.YtjcpjopbgngihaaGreatDoor
end
section
namespace Go.Proofs.YtjcpjopbgngihaaGreatDoor
open Tryz
open Go.RowKit Go.Lib Tv Go.Sort
def ShT (d:List ByteArray) (T:List VTm):Prop:=d.map (fun s=>shownV s.data.toList)=T.map fun t=>some t.1
theorem ShT.len {d:List ByteArray} {T:List VTm} (h:ShT d T):d.length=T.length:=by
 have:=congrArg List.length h;simpa using this
theorem ShT.nil:ShT [] []:=rfl
theorem ShT.snoc {d:List ByteArray} {T:List VTm} {k:Nat} (h:ShT (d.take k) T) {s:ByteArray} (hs:d[k]?=some s) {t:VTm} (ht:shownV s.data.toList=some t.1):ShT (d.take (k+1)) (T++[t]):=by
 unfold ShT at h ⊢;rw[List.take_add_one,hs,List.map_append,h,List.map_append];simp[ht]
theorem no_shT {d:List ByteArray} {k:Nat} {s:ByteArray} (hs:d[k]?=some s) (ht:shownV s.data.toList=none):¬∃T,ShT d T:=by
 rintro ⟨T,h⟩;have h1:(d.map (fun s=>shownV s.data.toList))[k]?=some none:=(by rw[List.getElem?_map,hs,Option.map_some,ht]);unfold ShT at h;rw[h,List.getElem?_map]at h1;cases hT:T[k]? with
 | none=>rw[hT]at h1;cases h1
 | some t=>rw[hT]at h1;cases h1
def TmsAns (w:World) (d:List ByteArray) (e:Ending) (w':World):Prop:=
 ((∃(T:List VTm) (v:Value),e=.returned (.tuple #[v,.bool true])/\ShT d T/\RowM w' w.heap.size v T)\/((¬∃T,ShT d T)/\∃v,e=.returned (.tuple #[v,.bool false])))/\Below w.heap.size w w'
theorem zfl (A:Option Addr) (c:Nat) (d:List ByteArray) (w:World) (h4:4<=w.heap.size) (ht:Lay w) (hs:Fd.Seg w A d.length (Fd.sts d)) (hd:∀s∈d,s.size<=40000) (hn:d.length<=1000) :
    Calls prog 26 #[.slice A d.length c] w (TmsAns w d):=by
 have HCC:Hid (∀W,Below w.heap.size w W->∀j s,d[j]?=some s->∃ad,A=some ad/\W.cell? (ad.add j)=some (.string s)):=fun W hW j s hj=>by
  have hjl:=(List.getElem?_eq_some_iff.1 hj).1;obtain ⟨ad,e,h⟩:=(hs.below hW).cell (by omega);refine ⟨ad,e,h j _ ?_⟩;unfold Fd.sts;rw[List.getElem?_map,hj];rfl
 have HLY:Hid (∀W,Below w.heap.size w W->Lay W):=fun W hW=>ht.below hW;have HD:=hid hd;clear hs ht hd;obtain ⟨i0,hi,hz0,hz1,hz2⟩:∃i,prog.info? 82=some i/\i.zero=some (.agg #[.int .i64 0,.string ⟨#[]⟩,.string ⟨#[]⟩])/\i.size=3/\i.bytes=40:=info_parts (by kernel_rfl);go_enter func26,ntmps26
 go_wp2;go_loopw [4,5] (fun v4 v5 wr=>∃(k:Nat) (T:List VTm),k<=d.length/\v5=.int .i64 k/\T.length=k/\Hid (ShT (d.take k) T)/\RowM wr w.heap.size v4 T/\Below w.heap.size w wr) (fun _ v5 _=>d.length-(RowKit.intOf v5).toNat)
 case atStart=>exact ⟨0,[],Nat.zero_le _,rfl,rfl,hid ShT.nil,World.ownsRow_nil _ _ _ _,br⟩
 case round=>
  obtain ⟨k,T,hk,rfl,hTl,HT,hrow,hB⟩:=hrel;by_cases hlt:k<d.length
  · obtain ⟨s,hs⟩:∃s,d[k]?=some s:=⟨_,List.getElem?_eq_getElem hlt⟩;obtain ⟨ad,rfl,hc0⟩:=HCC.out wr hB k s hs;have hss:=HD.out s (List.mem_of_getElem? hs);have HTF:=hid (zho s.data.toList wr (by have:=hB.size;omega) (HLY.out wr hB) (by simpa using hss));rw[show str s.data.toList=s by unfold str;simp]at HTF;have HS:=hid hs;have HROW:=hid hrow;have HB:=hid hB;clear hs hss hrow hB;go_wp2_with fail
    refine HTF.out.mono ?_;rintro e w2 ⟨hb2,⟨⟨k1,x1,e1⟩,hsh,rfl⟩ | ⟨⟨k1,x1,e1⟩,hsh,rfl⟩⟩
    · have hok:tmT ⟨k1,x1,e1⟩=true:=((za0 _ _).1 hsh).1;have HT2:Hid (ShT (d.take (k+1)) (T++[⟨⟨k1,x1,e1⟩,hok⟩])):=HT.out.snoc HS.out hsh;have HB2:=hid (HB.out.trans (hb2.mono HB.out.size));obtain ⟨wb,hwb⟩:∃wb,w2.alloc (.cells #[.int .i64 k1,.string (str x1),.string (str e1)] 82)=wb:=⟨_,rfl⟩;have hbb:Below w2.heap.size w2 wb:=(by rw[<-hwb];exact br.alloc nL _);have ht5:T3 wb w2.heap.size (.int .i64 k1) (.string (str x1)) (.string (str e1)):=(by rw[<-hwb];exact T3.new _ _ _ _);have HR5:Hid (RowM wb w.heap.size u4 T):=(HROW.out.below hb2).below hbb;have HB5:=hid (HB2.out.trans (hbb.mono HB2.out.size));have b0:=ht5.c0;have b1:=ht5.c1;have b2:=ht5.c2;have hs5:=HB5.out.size;clear hsh hb2 hbb ht5 HT HROW HTF HB HB2 hc0;unfold encT;simp only;go_wp2_with (at_builtin;refine wpList_append_own _ rfl _ _ 40 rfl w.heap.size 82 i0 (.agg #[.int .i64 0,.string ⟨#[]⟩,.string ⟨#[]⟩]) 3 40 underlying40 hi hz0 hz1 hz2 rfl (by decide) _ T.length (T.flatMap encM) rfl (HR5.out.alloc _) ⟨wb.heap.size,0,none⟩ 1 1 [.int .i64 k1,.string (str x1),.string (str e1)] rfl rfl ?c1 ?c2 ?c3 ?c4 ?c5 ?_)
      case c1=>exact World.news_of_block (heap_alloc_new wb _)
      case c2=>simp[Value.oneCell']
      case c3=>unfold maxLen;omega
      case c4=>omega
      case c5=>simp;omega
      intro v3 w3 hown3 hg3 _;have HR6:Hid (RowM w3 w.heap.size v3 (T++[⟨⟨k1,x1,e1⟩,hok⟩])):=by
       show w3.ownsRow w.heap.size 82 3 v3 (T++[(⟨⟨k1,x1,e1⟩,hok⟩:VTm)]).length ((T++[(⟨⟨k1,x1,e1⟩,hok⟩:VTm)]).flatMap encM);rw[List.length_append,List.flatMap_append,hTl];exact hown3
      have HB6:=hid ((HB5.out.alloc HB5.out.size (.cells #[.int .i64 k1,.string (str x1),.string (str e1)] 82)).grown hg3 (by simp;omega) (fun j hj=>(HR5.out.lt j hj).1));clear hown3 hg3 HR5 HB5;go_wp2;go_round
      case measure=>simp[RowKit.intOf];omega
      case rel=>exact ⟨k+1,T++[⟨⟨k1,x1,e1⟩,hok⟩],by omega,by go_num,by rw[List.length_append,hTl];rfl,HT2,HR6.out,HB6.out⟩
    · have HN:=hid (no_shT HS.out hsh);have HB2:=hid (HB.out.trans (hb2.mono HB.out.size));clear hsh hb2;unfold encT;simp only;go_wp2;go_ret2;exact ⟨.inr ⟨HN.out,_,rfl⟩,HB2.out.alloc HB2.out.size _⟩
  · obtain rfl:k=d.length:=(by omega);have HT2:Hid (ShT d T):=by
     have h:=HT.out;rw[List.take_length]at h;exact h
    have HR:=hid hrow;have HB:=hid hB;clear hrow hB HT;go_wp2;go_ret2;exact ⟨.inl ⟨T,_,rfl,HT2.out,HR.out⟩,HB.out⟩
end Go.Proofs.YtjcpjopbgngihaaGreatDoor
end
section
namespace Go.Proofs.YtjcpjopbgngihaaGreatDoor
open Tryz
open Go.RowKit Go.Lib Tv
theorem zh6 (s t:Tri) (hs:SmlT s) (ht:SmlT t) (w:World) :
    Calls prog 126 #[.agg (encTri s).toArray,.agg (encTri t).toArray] w fun e w'=>e=.returned (.int .i64 (cmpTri s t))/\Below w.heap.size w w':=by
 unfold cmpTri;obtain ⟨⟨k1,x1,e1⟩,⟨k2,x2,e2⟩,⟨k3,x3,e3⟩⟩:=s;obtain ⟨⟨m1,y1,f1⟩,⟨m2,y2,f2⟩,⟨m3,y3,f3⟩⟩:=t;have H1:=hid fun W=>zbU ⟨k1,x1,e1⟩ ⟨m1,y1,f1⟩ hs.1 ht.1 W;have H2:=hid fun W=>zbU ⟨k2,x2,e2⟩ ⟨m2,y2,f2⟩ hs.2.1 ht.2.1 W;have H3:=hid fun W=>zbU ⟨k3,x3,e3⟩ ⟨m3,y3,f3⟩ hs.2.2 ht.2.2 W;clear hs ht;unfold encTri;unfold encT at H1 H2 H3 ⊢;simp only[List.cons_append,List.nil_append]at H1 H2 H3 ⊢;generalize cmpT ⟨k1,x1,e1⟩ ⟨m1,y1,f1⟩=r1 at H1 ⊢;generalize cmpT ⟨k2,x2,e2⟩ ⟨m2,y2,f2⟩=r2 at H2 ⊢;generalize cmpT ⟨k3,x3,e3⟩ ⟨m3,y3,f3⟩=r3 at H3 ⊢;obtain ⟨wa,hwa⟩:∃wa,w.alloc (.cells #[.int .i64 k1,.string (str x1),.string (str e1),.int .i64 k2,.string (str x2),.string (str e2),.int .i64 k3,.string (str x3),.string (str e3)] 96)=wa:=⟨_,rfl⟩;obtain ⟨wb,hwb⟩:∃wb,wa.alloc (.cells #[.int .i64 m1,.string (str y1),.string (str f1),.int .i64 m2,.string (str y2),.string (str f2),.int .i64 m3,.string (str y3),.string (str f3)] 96)=wb:=⟨_,rfl⟩;have hna:wa.heap.size=w.heap.size+1:=(by rw[<-hwa];simp);have hba:Below wa.heap.size wa wb:=(by rw[<-hwb];exact br.alloc nL _);have hbb:Below w.heap.size w wb:=by
  rw[<-hwb,<-hwa];exact ((Below.refl _ w).alloc nL _).alloc (by simp) _
 have hcc:∀W,Below wb.heap.size wb W->(∀i v,(#[.int .i64 k1,.string (str x1),.string (str e1),.int .i64 k2,.string (str x2),.string (str e2),.int .i64 k3,.string (str x3),.string (str e3)]:Array Value)[i]?=some v->W.cell? ⟨w.heap.size,i,none⟩=some v)/\
     (∀i v,(#[.int .i64 m1,.string (str y1),.string (str f1),.int .i64 m2,.string (str y2),.string (str f2),.int .i64 m3,.string (str y3),.string (str f3)]:Array Value)[i]?=some v->W.cell? ⟨w.heap.size+1,i,none⟩=some v):=fun W hW=>by
  have h1:wa.heap[w.heap.size]?=some (.cells #[.int .i64 k1,.string (str x1),.string (str e1),.int .i64 k2,.string (str x2),.string (str e2),.int .i64 k3,.string (str x3),.string (str e3)] 96 (0,0)):=(by rw[<-hwa];exact heap_alloc_new w _);have h2:=(hba.block _ (Array.getElem?_eq_some_iff.1 h1).1).trans h1;have h3:=(hW.block _ (Array.getElem?_eq_some_iff.1 h2).1).trans h2;have g1:wb.heap[w.heap.size+1]?=some (.cells #[.int .i64 m1,.string (str y1),.string (str f1),.int .i64 m2,.string (str y2),.string (str f2),.int .i64 m3,.string (str y3),.string (str f3)] 96 (0,0)):=(by rw[<-hwb,<-hna];exact heap_alloc_new wa _);have g2:=(hW.block _ (Array.getElem?_eq_some_iff.1 g1).1).trans g1;exact ⟨fun i v hv=>by rw[cell_of_heap h3];exact hv,fun i v hv=>by rw[cell_of_heap g2];exact hv⟩
 have HCC:=hid hcc;have HBB:=hid hbb;have HNA:=hid hna;have a0:=(hcc wb br).1 0 _ rfl;have a1:=(hcc wb br).1 1 _ rfl;have a2:=(hcc wb br).1 2 _ rfl;have b0:=(hcc wb br).2 0 _ rfl;have b1:=(hcc wb br).2 1 _ rfl;have b2:=(hcc wb br).2 2 _ rfl;clear hcc hbb hba;have HR:Hid ((r1≠0->or3 r1 r2 r3=r1)/\(r1=0->r2≠0->or3 r1 r2 r3=r2)/\(r1=0->r2=0->or3 r1 r2 r3=r3)):=by
  unfold or3;exact ⟨fun h=>by rw[if_neg h],fun h h2=>by rw[if_pos h,if_neg h2],fun h h2=>by rw[if_pos h,if_pos h2]⟩
 generalize or3 r1 r2 r3=R at HR ⊢;by_cases h1:r1=0
 · have q1:(r1 == 0)=true:=(by rw[beq_iff_eq];exact h1);by_cases h2:r2=0
   · have q2:(r2 == 0)=true:=(by rw[beq_iff_eq];exact h2);have HE:=hid (HR.out.2.2 h1 h2);clear h1 h2 HR;go_enter func126,ntmps126
     go_wp2_with fail
     refine (H1.out _).mono ?_;rintro v w1 ⟨rfl,hb1⟩;have c3:=(HCC.out _ hb1).1 3 _ rfl;have c4:=(HCC.out _ hb1).1 4 _ rfl;have c5:=(HCC.out _ hb1).1 5 _ rfl;have d3:=(HCC.out _ hb1).2 3 _ rfl;have d4:=(HCC.out _ hb1).2 4 _ rfl;have d5:=(HCC.out _ hb1).2 5 _ rfl;have HB1:=hid hb1;clear hb1;go_wp2_with fail
     refine (H2.out _).mono ?_;rintro v w2 ⟨rfl,hb2⟩;have HB2:=hid (HB1.out.trans (hb2.mono HB1.out.size));have c6:=(HCC.out _ HB2.out).1 6 _ rfl;have c7:=(HCC.out _ HB2.out).1 7 _ rfl;have c8:=(HCC.out _ HB2.out).1 8 _ rfl;have d6:=(HCC.out _ HB2.out).2 6 _ rfl;have d7:=(HCC.out _ HB2.out).2 7 _ rfl;have d8:=(HCC.out _ HB2.out).2 8 _ rfl;clear hb2;go_wp2_with fail
     refine (H3.out _).mono ?_;rintro v w3 ⟨rfl,hb3⟩;have HB3:=hid (HB2.out.trans (hb3.mono HB2.out.size));clear hb3;go_wp2;go_ret;exact ⟨by rw[HE.out];rfl,HBB.out.trans (HB3.out.mono HBB.out.size)⟩
   · have q2:(r2 == 0)=false:=(by rw[beq_eq_false_iff_ne];exact h2);have HE:=hid (HR.out.2.1 h1 h2);clear h1 h2 HR;go_enter func126,ntmps126
     go_wp2_with fail
     refine (H1.out _).mono ?_;rintro v w1 ⟨rfl,hb1⟩;have c3:=(HCC.out _ hb1).1 3 _ rfl;have c4:=(HCC.out _ hb1).1 4 _ rfl;have c5:=(HCC.out _ hb1).1 5 _ rfl;have d3:=(HCC.out _ hb1).2 3 _ rfl;have d4:=(HCC.out _ hb1).2 4 _ rfl;have d5:=(HCC.out _ hb1).2 5 _ rfl;have HB1:=hid hb1;clear hb1;go_wp2_with fail
     refine (H2.out _).mono ?_;rintro v w2 ⟨rfl,hb2⟩;have HB2:=hid (HB1.out.trans (hb2.mono HB1.out.size));clear hb2;go_wp2;go_ret;exact ⟨by rw[HE.out];rfl,HBB.out.trans (HB2.out.mono HBB.out.size)⟩
 · have q1:(r1 == 0)=false:=(by rw[beq_eq_false_iff_ne];exact h1);have HE:=hid (HR.out.1 h1);clear h1 HR;go_enter func126,ntmps126
   go_wp2_with fail
   refine (H1.out _).mono ?_;rintro v w1 ⟨rfl,hb1⟩;have HB1:=hid hb1;clear hb1;go_wp2;go_ret;exact ⟨by rw[HE.out];rfl,HBB.out.trans (HB1.out.mono HBB.out.size)⟩
end Go.Proofs.YtjcpjopbgngihaaGreatDoor
end
