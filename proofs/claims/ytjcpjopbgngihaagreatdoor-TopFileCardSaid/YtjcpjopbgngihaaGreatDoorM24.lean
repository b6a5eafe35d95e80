/- Proved on the way: The document's box: which sections may b; The document's box: Pack. Each theorem states its own conditions. -/
import Derived.Test.YtjcpjopbgngihaaGreatDoorM21
set_option maxHeartbeats 16000000
set_option maxRecDepth 1000000
set_option linter.unusedSimpArgs false
section
namespace Go.Proofs.YtjcpjopbgngihaaGreatDoor
open Tryz
open Go.RowKit Go.Lib Go.Sort
open Bx (Sec MayB boxB hdsB bodB w24 crcN headB)
theorem zkW (l:List Sec):MayB l↔l.length<=8/\Rest 0 (9+7*l.length) l:=⟨fun m=>⟨m.1,m.2.1,m.2.2⟩,fun r=>⟨r.1,r.2.1,r.2.2⟩⟩
theorem rest_end {la sz:Nat}:Rest la sz []↔sz<=100000:=⟨fun h=>h.2,fun h=>⟨trivial,h⟩⟩
theorem zjx (xs:List SecV) (v:Value) (B:Nat) (w:World) (h:SecRow w B v xs) (hbs:∀x∈xs,x.body.length<=1000000/\x.id<=1000000) (hn:xs.length<=255) :
    Calls prog 118 #[v] w fun e w'=>(∃b:Bool,e=.returned (.bool b)/\(b=true↔MayB (secs xs)))/\Below w.heap.size w w':=by
 obtain ⟨A,c,rfl⟩:=Fd.zac h.own;have HROW:Hid (∀w1,Below w.heap.size w w1->SecRow w1 B (.slice A xs.length c) xs):=fun w1 hb=>h.below hb;have HBS:=hid hbs;have hsl:=zaD xs;clear h hbs;have HST:Hid (MayB (secs xs)↔xs.length<=8/\Rest 0 (9+7*xs.length) (secs xs)):=by
  have:=zkW (secs xs);rw[hsl]at this;exact this
 clear hsl;have hm1:IntKind.i64.wrap (7*(xs.length:Int))=7*(xs.length:Int):=(wI (by omega));go_enter func118,ntmps118
 go_wp2;clear hm1;go_loopw [3,4] (fun v3 v4 wr=>∃(k sz la:Nat),k<=xs.length/\v4=.int .i64 k/\v3=.int .i64 sz/\sz<=9+7*255+1000000*k/\(k=0/\la=0\/∃p y,k=p+1/\xs[p]?=some y/\y.id=la)/\Below w.heap.size w wr/\Hid (MayB (secs xs)↔xs.length<=8/\Rest la sz ((secs xs).drop k))) (fun _ v4 _=>xs.length-(RowKit.intOf v4).toNat)
 case atStart=>exact ⟨0,9+7*xs.length,0,Nat.zero_le _,rfl,by first | rfl | (congr 1;omega),by omega,.inl ⟨rfl,rfl⟩,br,HST⟩
 case round=>
  clear HST;obtain ⟨k,sz,la,hk,rfl,rfl,hsz,hla,hB,HMAY⟩:=hrel;by_cases hlt:k<xs.length
  · obtain ⟨x,hx⟩:∃x,xs[k]?=some x:=⟨_,List.getElem?_eq_getElem hlt⟩;have hrow:=HROW.out wr hB;obtain ⟨g,rfl,hg,hcap⟩:=zbn hrow.own (by omega);obtain ⟨a0,a1⟩:=hrow.at_ k x hx;obtain ⟨hb1,hb2⟩:=HBS.out x (List.mem_of_getElem? hx);have HD:=hid (zgm xs k x hx);have HX:=hid hx;have HB:=hid hB;have HBW:Hid (Below w.heap.size w wr.drew):=hB.trans ⟨rfl,rfl,rfl,nL,fun _ _=>rfl⟩;have HLA:Hid (∀p,k=p+1->wr.cell? ⟨g,p*2,none⟩=some (.int .i64 la)/\la<=1000000):=fun p hp=>by
     rcases hla with ⟨h0,_⟩ | ⟨q,y,hq,hy,rfl⟩
     · omega
     · obtain rfl:p=q:=(by omega);exact ⟨(hrow.at_ p y hy).1,(HBS.out y (List.mem_of_getElem? hy)).2⟩
    have HLZ:Hid (k=0->la=0):=fun h0=>by
     rcases hla with ⟨_,h⟩ | ⟨q,_,hq,_⟩
     · exact h
     · omega
    have HXS:Hid (∃y,xs[k]?=some y/\y.id=x.id):=⟨x,hx,rfl⟩;obtain ⟨id,Ab,cb,body⟩:=x;unfold SecV.sec at HD;simp only at a0 a1 hb1 hb2 HD HXS;have HNO:Hid (id<=la\/255<id\/100000<sz+body.length->¬MayB (secs xs)):=fun hbad m=>by
     have:=(HMAY.out.1 m).2;rw[HD.out]at this;exact zkv hbad this
    have HNX:Hid (la<id->id<=255->(MayB (secs xs)↔xs.length<=8/\Rest id (sz+body.length) ((secs xs).drop (k+1)))):=fun h1 h2=>by
     have h3:=HMAY.out;rw[HD.out,zgq (s:=⟨id,body⟩) h1 h2]at h3;exact h3
    clear hrow hx hla hB HD HX HMAY;have hlz:(k:Int)<(xs.length:Int):=(by omega);have hsz2:sz+body.length<=9+7*255+1000000*(k+1):=(by omega);by_cases h1:id<1
    · have d1:decide ((id:Int)<1)=true:=dT (by omega);have HN:=hid (HNO.out (.inl (by omega)));clear h1 HNO HNX;go_wp2;go_quiet (fail)
      go_wp2;go_ret;exact ⟨⟨false,rfl,by simpa using HN.out⟩,HBW.out.trans ⟨rfl,rfl,rfl,nL,fun _ _=>rfl⟩⟩
    · have d1:decide ((id:Int)<1)=false:=dF (by omega);by_cases h2:255<id
      · have d2:decide ((255:Int)<(id:Int))=true:=dT (by omega);have HN:=hid (HNO.out (.inr (.inl h2)));clear h1 h2 HNO HNX;go_wp2;go_quiet (fail)
        go_wp2;go_ret;exact ⟨⟨false,rfl,by simpa using HN.out⟩,HBW.out.trans ⟨rfl,rfl,rfl,nL,fun _ _=>rfl⟩⟩
      · have d2:decide ((255:Int)<(id:Int))=false:=dF (by omega);have hcase:k=0\/∃p,k=p+1:=by
         cases k with
         | zero=>exact .inl rfl
         | succ p=>exact .inr ⟨p,rfl⟩
        rcases hcase with h0 | ⟨p,hp⟩
        · have hla0:=HLZ.out h0;have d3:decide (0<k)=false:=dF (by omega);have hlt2:la<id:=(by omega);by_cases h4:100000<body.length
          · have d4:decide ((100000:Int)<(body.length:Int))=true:=dT (by omega);have HN:=hid (HNO.out (.inr (.inr (by omega))));clear h1 h2 h4 HNO HNX h0 hla0;go_wp2;go_quiet (fail)
            go_wp2;go_ret;exact ⟨⟨false,rfl,by simpa using HN.out⟩,HBW.out.trans ⟨rfl,rfl,rfl,nL,fun _ _=>rfl⟩⟩
          · have d4:decide ((100000:Int)<(body.length:Int))=false:=dF (by omega);have HM:=hid (HNX.out hlt2 (by omega));clear h1 h2 h4 HNO HNX h0 hla0;go_wp2;go_quiet (fail)
            go_wp2;go_round
            case measure=>simp[RowKit.intOf];omega
            case rel=>exact ⟨k+1,sz+body.length,id,by omega,by go_num,by go_num,by omega,.inr ⟨k,HXS.out.choose,rfl,HXS.out.choose_spec⟩,HB.out.trans ⟨rfl,rfl,rfl,nL,fun _ _=>rfl⟩,HM⟩
        · subst hp;obtain ⟨c0,hla2⟩:=HLA.out p rfl;have d3:decide ((0:Int)<(p:Int)+1)=true:=dT (by omega);have hpl:(p:Int)<(xs.length:Int):=(by omega);have hwp:IntKind.i64.wrap ((p:Int)+1-1)=(p:Int):=(wI (by omega));by_cases h5:id<=la
          · have d5:decide ((id:Int)<=(la:Int))=true:=dT (by omega);have d5':decide (id<=la)=true:=dT h5;have HN:=hid (HNO.out (.inl h5));clear h1 h2 h5 HNO HNX;go_wp2;go_quiet (fail)
            go_wp2;go_ret;exact ⟨⟨false,rfl,by simpa using HN.out⟩,HBW.out.trans ⟨rfl,rfl,rfl,nL,fun _ _=>rfl⟩⟩
          · have d5:decide ((id:Int)<=(la:Int))=false:=dF (by omega);have d5':decide (id<=la)=false:=dF h5;by_cases h4:100000<body.length
            · have d4:decide ((100000:Int)<(body.length:Int))=true:=dT (by omega);have HN:=hid (HNO.out (.inr (.inr (by omega))));clear h1 h2 h4 h5 HNO HNX;go_wp2;go_quiet (fail)
              go_wp2;go_ret;exact ⟨⟨false,rfl,by simpa using HN.out⟩,HBW.out.trans ⟨rfl,rfl,rfl,nL,fun _ _=>rfl⟩⟩
            · have d4:decide ((100000:Int)<(body.length:Int))=false:=dF (by omega);have HM:=hid (HNX.out (by omega) (by omega));clear h1 h2 h4 h5 HNO HNX;go_wp2;go_quiet (fail)
              go_wp2;go_round
              case measure=>simp[RowKit.intOf];omega
              case rel=>exact ⟨p+1+1,sz+body.length,id,by omega,by go_num,by go_num,by omega,.inr ⟨p+1,HXS.out.choose,rfl,HXS.out.choose_spec⟩,HB.out.trans ⟨rfl,rfl,rfl,nL,fun _ _=>rfl⟩,HM⟩
  · obtain rfl:k=xs.length:=(by omega);have HM:Hid (MayB (secs xs)↔xs.length<=8/\sz<=100000):=by
     have h1:=HMAY.out;rw[List.drop_of_length_le (by rw[zaD];exact nL),rest_end]at h1;exact h1
    have HB:=hid hB;have HBW:Hid (Below w.heap.size w wr.drew):=hB.trans ⟨rfl,rfl,rfl,nL,fun _ _=>rfl⟩;clear hB HMAY hla;by_cases h8:xs.length<=8
    · have d8:decide ((xs.length:Int)<=8)=true:=dT (by omega);by_cases h9:sz<=100000
      · have d9:decide ((sz:Int)<=100000)=true:=dT (by omega);go_wp2;go_ret;exact ⟨⟨true,rfl,by simpa using HM.out.2 ⟨h8,h9⟩⟩,HB.out⟩
      · have d9:decide ((sz:Int)<=100000)=false:=dF (by omega);go_wp2;go_ret;exact ⟨⟨false,rfl,by simpa using fun m=>h9 (HM.out.1 m).2⟩,HB.out⟩
    · have d8:decide ((xs.length:Int)<=8)=false:=dF (by omega);go_wp2;go_ret;exact ⟨⟨false,rfl,by simpa using fun m=>h8 (HM.out.1 m).1⟩,HB.out⟩
end Go.Proofs.YtjcpjopbgngihaaGreatDoor
end
section
namespace Go.Proofs.YtjcpjopbgngihaaGreatDoor
open Tryz
open Go.RowKit Go.Lib Go.Sort
open Go.Proofs.YtjcpjopbgngihaaGreatDoorW.PrintLast
open Bx (Sec MayB boxB hdsB bodB w24 crcN headB)
theorem zhX (n:Nat) (hn:n<=8):Fd.bys [84,82,73,86,1,UInt8.ofNat n]=[.int .u8 84,.int .u8 82,.int .u8 73,.int .u8 86]++[.int .u8 1,.int .u8 n]:=by
 have e:((UInt8.ofNat n).toNat:Int)=n:=(by rw[UInt8.toNat_ofNat'];omega);show [Value.int .u8 84,.int .u8 82,.int .u8 73,.int .u8 86,.int .u8 1,.int .u8 ((UInt8.ofNat n).toNat:Int)]=_;rw[e];rfl
theorem seg_k {w:World} {A:Option Addr} {n:Nat} {xs:List Value} (h:Fd.Seg w A n xs):SegK w A n 1 xs:=⟨by rw[h.len];omega,h.cell⟩
theorem zov {l:List Sec}:∀{la:Nat},Bx.Ids la l->∀s∈l,s.id<=255:=by
 induction l with
 | nil=>intro la _ s hs;cases hs
 | cons t l ih=>
  intro la h s hs;rcases List.mem_cons.1 hs with rfl | hs
  · exact h.2.1
  · exact ih h.2.2 s hs
theorem zc0 (xs:List SecV) (v:Value) (B:Nat) (w:World) (h:SecRow w B v xs) (hbs:∀x∈xs,x.body.length<=100000/\x.id<=1000000) (hn:xs.length<=255) :
    Calls prog 73 #[v] w (PackAns w (secs xs)):=by
 obtain ⟨A,c,rfl⟩:=Fd.zac h.own;have HMC:=hid (zjx xs (.slice A xs.length c) B w h (fun x hx=>by have:=hbs x hx;omega) hn);have HROW:Hid (∀w1,Below w.heap.size w w1->SecRow w1 B (.slice A xs.length c) xs):=fun w1 hb=>h.below hb;have HBS:=hid hbs;clear h hbs;go_enter func73,ntmps73
 go_wp2_with fail
 refine HMC.out.mono ?_;rintro e w1 ⟨⟨b,rfl,hb⟩,hB1⟩;have HB1:=hid hB1;have HBB:=hid hb;clear hB1 hb HMC;cases b with
 | false=>
  have HNO:Hid (¬MayB (secs xs)):=fun m=>(by have:=HBB.out.2 m;cases this);go_wp2;go_ret2;exact PackAns.no HNO.out rfl HB1.out
 | true=>
  have HMAY:Hid (MayB (secs xs)):=HBB.out.1 rfl;clear HBB;have hn8:xs.length<=8:=(by have:=HMAY.out.1;rwa[zaD]at this);have HIDS:Hid (∀x∈xs,x.id<=255):=fun x hx=>zov HMAY.out.2.1 x.sec (List.mem_map_of_mem hx);have HH0:=hid (zhX xs.length hn8);have hw8:IntKind.u8.wrap (xs.length:Int)=xs.length:=(by rw[IntKind.wrap_u8];omega);obtain ⟨i0,hi,hz0,hz1,hz2⟩:=info_parts Fd.info5;have hs1:=HB1.out.size;have kc:=fun (w:World) (C:Array Value) (n c:Nat)=>Lib.run_convert_bytes_const (P:=prog) w 22 5 C n c underlying22 underlying5;go_wp2_with (at_builtin;refine wpList_append_grows _ rfl _ _ 22 rfl 5 i0 (.int .u8 0) 1 1 underlying22 hi hz0 hz1 hz2 rfl (by decide) (some ⟨w1.heap.size,0,none⟩) 4 4 [.int .u8 84,.int .u8 82,.int .u8 73,.int .u8 86] rfl (fun h=>by cases h) rfl ?a1 ⟨w1.heap.size+1,0,none⟩ 2 2 [.int .u8 1,.int .u8 xs.length] rfl rfl ?a2 ?a3 (by decide) ?a4 (by decide) ?_)
  case a1=>
   intro b hb j u hj;cases hb
   rw[Fd.add_zero',World.cell?_alloc_past _ _ _ (by simp)];rw[World.cell?_alloc_mark];simpa using hj
  case a2=>
   intro j u hj
   match j,hj with
   | 0,hj=>simp at hj;subst hj;simp[Addr.add]
   | 1,hj=>simp at hj;subst hj;simp[Addr.add]
  case a3=>
   intro u hu;simp only[List.mem_cons,List.not_mem_nil,or_false]at hu;rcases hu with rfl | rfl<;>rfl
  case a4=>unfold maxLen;omega
  intro v2 w2 hown2 hg2;have hA0:Acc w w2 v2 [84,82,73,86,1,UInt8.ofNat xs.length]:=by
   refine ⟨?_,?_⟩
   · rw[HH0.out];exact zaj hown2 (by omega)
   · exact HB1.out.trans ((((Below.refl _ w1).alloc nL _).alloc (by simp) _).grown hg2 (by simp;omega) (fun k hk=>by cases hk) |>.mono hs1)
  have HA0:=hid hA0;clear hown2 hg2 hA0 kc HH0 hw8;go_wp2;go_loopw [4,5] (fun v4 v5 wr=>∃(k:Nat) (acc:List UInt8),k<=xs.length/\v5=.int .i64 k/\Hid (acc.length=6+7*k)/\Acc w wr v4 acc/\Hid (acc=[84,82,73,86,1,UInt8.ofNat xs.length]++hdsB ((secs xs).take k))) (fun _ v5 _=>xs.length-(RowKit.intOf v5).toNat)
  case atStart=>exact ⟨0,[84,82,73,86,1,UInt8.ofNat xs.length],Nat.zero_le _,rfl,hid (by rfl),HA0.out,hid (by rfl)⟩
  case round=>
   clear HA0;obtain ⟨k,acc,hk,rfl,HAL,hacc,HAC⟩:=hrel;have hal:acc.length<=62:=(by have:=HAL.out;omega);by_cases hlt:k<xs.length
   · obtain ⟨x,hx⟩:∃x,xs[k]?=some x:=⟨_,List.getElem?_eq_getElem hlt⟩;have hrow:=HROW.out wr hacc.below;obtain ⟨g,rfl,hg,hcap⟩:=zbn hrow.own (by omega);have hxm:x∈xs:=List.mem_of_getElem? hx;obtain ⟨hb1,hb2⟩:=HBS.out x hxm;have hb3:=HIDS.out x hxm;have HT:=hid (zcg xs k x hx);have HX:=hid hx;have HAT:Hid (∀W,Below w.heap.size w W->W.cell? ⟨g,k*2,none⟩=some (.int .i64 x.id)/\W.cell? ⟨g,k*2+1,none⟩=some (.slice x.A x.body.length x.c)):=fun W hW=>(HROW.out W hW).at_ k x hx;have HSG:Hid (∀W,Below w.heap.size w W->Fd.Seg W x.A x.body.length (Fd.bys x.body)):=fun W hW=>((HROW.out W hW).part x hxm).1;have hxc:=(hrow.part x hxm).2;obtain ⟨id,Ab,cb,body⟩:=x;unfold SecV.sec at HT;simp only at hb1 hb2 hb3 HT HAT HSG hxc;have HACC:=hid hacc;have HL:=hid fun w=>zb1 body.length w;have hw8i:IntKind.u8.wrap (id:Int)=id:=(by rw[IntKind.wrap_u8];omega);have hlz:(k:Int)<(xs.length:Int):=(by omega);have hB1:Below w.heap.size w wr.drew:=hacc.below.trans ⟨rfl,rfl,rfl,nL,fun _ _=>rfl⟩;have HBD:=hid hB1;have HAD:=hid (hacc.step (show Below wr.heap.size wr wr.drew from ⟨rfl,rfl,rfl,nL,fun _ _=>rfl⟩));clear hrow hx hxm hacc hB1;go_wp2_with fail
     refine sH 18 HAT.out HBD.out (fun hHeld=>?_);refine pU 0 ?_;refine pU 1 ?_;refine pU 2 ?_;refine pU 3 ?_;refine pU 4 ?_;refine tK 5 hHeld ?_;refine pU 6 ?_;refine pU 9 ?_;refine pU 10 ?_;refine pU 11 ?_;refine pU 12 ?_;refine tK 13 hHeld ?_;refine pU 14 ?_;refine oN 7 (fun K hK=>?_);refine vA (.slice (some ⟨wr.drew.heap.size,0,none⟩) 1 1) (wr.drew.alloc (.cells #[.int .u8 id] 5)) ?_;have HBE:=hid (HBD.out.alloc HBD.out.size (.cells #[.int .u8 id] 5));refine oU hK (HAT.out _ HBE.out) (fun hHeld=>?_);clear hK K;have hs2:=HBD.out.size;refine oN 8 (fun K hK=>?_);refine zap (by rfl) _ _ 22 (by rfl) w.heap.size 5 i0 (.int .u8 0) 1 1 underlying22 hi hz0 hz1 hz2 rfl (by omega) u4 acc.length (Fd.bys acc) (by rfl) (HAD.out.own.alloc _) (some ⟨wr.drew.heap.size,0,none⟩) 1 1 [.int .u8 id] (by rfl) ⟨rfl,fun _=>⟨_,rfl,World.news_of_block (heap_alloc_new wr.drew _)⟩⟩ (by simp[Value.oneCell']) (by unfold maxLen;omega) (by omega) HBE.out.size ?_;intro v2b w2b hown2 hg2
     have hA2:Acc w w2b v2b (acc++[UInt8.ofNat id]):=(HAD.out.step ((Below.refl _ wr.drew).alloc nL _)).put hg2 (by
      have e:((UInt8.ofNat id).toNat:Int)=id:=(by rw[UInt8.toNat_ofNat'];omega);have e2:Fd.bys [UInt8.ofNat id]=[.int .u8 (id:Int)]:=by
       show [Value.int .u8 ((UInt8.ofNat id).toNat:Int)]=_;rw[e]
      rw[e2];exact hown2)
     have A2:=hid hA2;have hl2:(acc++[UInt8.ofNat id]).length<=63:=(by rw[List.length_append];simp;omega);clear hown2 hg2 hA2 HAD HBE HBD HACC;refine oU hK (HAT.out _ A2.out.below) (fun hHeld=>?_);clear hK K;generalize hacc2:acc++[UInt8.ofNat id]=acc2 at A2 hl2;have HACC2:=hid hacc2;clear hacc2;refine oN 15 (fun K hK=>?_);refine cL func119 #[.int .i64 body.length] ?_;refine (HL.out _).mono ?_;rintro e w3 ⟨A3,c3,rfl,hown3,hb3⟩;refine ⟨_,rfl,?_⟩;have A3':=hid (A2.out.step hb3);have HO3:=hid hown3;have hs3:=A3'.out.below.size;clear hown3 hb3 A2 HL;refine oU hK (HAT.out _ A3'.out.below) (fun hHeld=>?_);clear hK K;refine oN 16 (fun K hK=>?_);refine zap (by rfl) _ _ 22 (by rfl) w.heap.size 5 i0 (.int .u8 0) 1 1 underlying22 hi hz0 hz1 hz2 rfl (by omega) v2b acc2.length (Fd.bys acc2) (by rfl) A3'.out.own A3 3 c3 (Fd.bys (w24 body.length)) (by rfl) (seg_k (Fd.Seg.of_own HO3.out)) (Fd.zaV _) (by unfold maxLen;omega) (by omega) hs3 ?_;intro v4b w4 hown4 hg4;have A4:=hid (A3'.out.put hg4 hown4);have hl4:(acc2++w24 body.length).length<=66:=(by rw[List.length_append];show acc2.length+3<=66;omega);clear hown4 hg4 A3' HO3;refine oU hK (HAT.out _ A4.out.below) (fun hHeld=>?_);clear hK K;refine pU 17 ?_;refine done_ (by kernel_rfl) ?_;clear hHeld;generalize hacc4:acc2++w24 body.length=acc4 at A4 hl4;have HACC4:=hid hacc4;clear hacc4;obtain ⟨q0,q1⟩:=HAT.out _ A4.out.below;have HC:=hid (zeO w4 Ab body.length cb body (HSG.out _ A4.out.below) rfl hxc (by omega));have HL:=hid fun w=>zb1 (crcN body) w;generalize hcr:crcN body=cr at HC HL;have HCR:=hid hcr;clear hcr;go_wp2_with fail
     refine HC.out.mono ?_;rintro e w6 ⟨rfl,hb6⟩;have A6:=hid (A4.out.step hb6);clear hb6 HC A4 q0 q1;go_wp2_with fail
     refine (HL.out _).mono ?_;rintro e w7 ⟨A8,c8,rfl,hown7,hb7⟩;have A7:=hid (A6.out.step hb7);have HO7:=hid hown7;have hs7:=A7.out.below.size;clear hown7 hb7 A6 HL;go_wp2_with (at_builtin;refine Fd.zah _ rfl _ _ 22 rfl w.heap.size 5 i0 (.int .u8 0) 1 underlying22 hi hz0 hz1 hz2 rfl _ acc4.length _ rfl A7.out.own A8 3 c8 (Fd.bys (w24 cr)) rfl (Fd.Seg.of_own HO7.out) (Fd.zaV _) ?f1 ?f2 hs7 ?_)
     case f1=>unfold maxLen;omega
     case f2=>omega
     intro v8 w8 hown8 hg8;have A9:=hid (A7.out.put hg8 hown8);clear hown8 hg8 A7 HO7;have HAC2:Hid (acc4++w24 cr=[84,82,73,86,1,UInt8.ofNat xs.length]++hdsB ((secs xs).take (k+1))):=by
      show acc4++w24 cr=_;rw[HT.out,zgR,<-List.append_assoc,<-HAC.out,<-HACC4.out,<-HACC2.out,<-HCR.out];unfold Bx.hdB;simp only[List.append_assoc,List.cons_append,List.nil_append]
     have HAL2:Hid ((acc4++w24 cr).length=6+7*(k+1)):=by
      show (acc4++w24 cr).length=_;rw[<-HACC4.out,<-HACC2.out];simp only[List.length_append,List.length_cons,List.length_nil];have e:∀n,(w24 n).length=3:=fun _=>rfl;rw[e,e,HAL.out];omega
     clear HX HACC2 HACC4 HCR HT HAT HSG;go_wp2;go_round
     case measure=>simp[RowKit.intOf];omega
     case rel=>exact ⟨k+1,_,by omega,by go_num,HAL2,A9.out,HAC2⟩
   · obtain rfl:k=xs.length:=(by omega);have HH:Hid (acc=headB (secs xs)):=by
      show acc=headB (secs xs);rw[HAC.out,List.take_of_length_le (by rw[zaD];exact nL)];unfold headB;rw[zaD]
     obtain ⟨A4,c4,rfl⟩:=Fd.zac hacc.own;have hc4:=Fd.own_le' hacc.own;have hA5:=hacc;have HC:=hid (zeO wr A4 acc.length c4 acc (Fd.Seg.of_own hA5.own) rfl hc4 (by omega));have A5:=hid hA5;have HL:=hid fun w=>zb1 (crcN acc) w;clear hacc hA5 HAC HAL;generalize hcr:crcN acc=cr at HC HL;have HCR:=hid hcr;clear hcr;go_wp2_with fail
     refine HC.out.mono ?_;rintro e w6 ⟨rfl,hb6⟩;have A6:=hid (A5.out.step hb6);clear hb6 HC A5;go_wp2_with fail
     refine (HL.out _).mono ?_;rintro e w7 ⟨A8,c8,rfl,hown7,hb7⟩;have A7:=hid (A6.out.step hb7);have HO7:=hid hown7;have hs7:=A7.out.below.size;clear hown7 hb7 A6 HL;go_wp2_with (at_builtin;refine Fd.zah _ rfl _ _ 22 rfl w.heap.size 5 i0 (.int .u8 0) 1 underlying22 hi hz0 hz1 hz2 rfl _ acc.length _ rfl A7.out.own A8 3 c8 (Fd.bys (w24 cr)) rfl (Fd.Seg.of_own HO7.out) (Fd.zaV _) ?f1 ?f2 hs7 ?_)
     case f1=>unfold maxLen;omega
     case f2=>omega
     intro v8 w8 hown8 hg8;have A9:=hid (A7.out.put hg8 hown8);have hl9:(acc++w24 cr).length<=65:=(by rw[List.length_append];show acc.length+3<=65;omega);have HH2:Hid (acc++w24 cr=headB (secs xs)++w24 (crcN (headB (secs xs)))):=by
      show acc++w24 cr=_;rw[<-HCR.out,HH.out]
     clear hown8 hg8 A7 HO7 HCR HH;generalize acc++w24 cr=acc9 at A9 hl9 HH2;go_wp2;go_loopw [4,6] (fun v4 v6 wr=>∃(k:Nat) (acc:List UInt8),k<=xs.length/\v6=.int .i64 k/\acc.length<=65+100000*k/\Acc w wr v4 acc/\Hid (acc=acc9++bodB ((secs xs).take k))) (fun _ v6 _=>xs.length-(RowKit.intOf v6).toNat)
     case atStart=>exact ⟨0,acc9,Nat.zero_le _,rfl,by omega,A9.out,hid (by show acc9=acc9++[];rw[List.append_nil])⟩
     case round=>
      clear A9;obtain ⟨k,acc,hk2,rfl,hal2,hacc,HAC⟩:=hrel;by_cases hlt:k<xs.length
      · obtain ⟨x,hx⟩:∃x,xs[k]?=some x:=⟨_,List.getElem?_eq_getElem hlt⟩;have hrow:=HROW.out wr hacc.below;obtain ⟨g,rfl,hg,hcap⟩:=zbn hrow.own (by omega);obtain ⟨a0,a1⟩:=hrow.at_ k x hx;have hxm:x∈xs:=List.mem_of_getElem? hx;obtain ⟨hb1,hb2⟩:=HBS.out x hxm;have HT:=hid (zcg xs k x hx);have HSEG:=hid (hrow.part x hxm).1;obtain ⟨id,Ab,cb,body⟩:=x;unfold SecV.sec at HT;simp only at a0 a1 hb1 hb2 HT HSEG;have hA1:=hid hacc;have hs1':=hA1.out.below.size;clear hrow hx hxm hacc;go_wp2_with (at_builtin;refine Fd.zah _ rfl _ _ 22 rfl w.heap.size 5 i0 (.int .u8 0) 1 underlying22 hi hz0 hz1 hz2 rfl _ acc.length _ rfl hA1.out.own Ab body.length cb (Fd.bys body) rfl HSEG.out (Fd.zaV _) ?g1 ?g2 hs1' ?_)
        case g1=>unfold maxLen;omega
        case g2=>omega
        intro v8 w8 hown8 hg8;have A9:=hid (hA1.out.put hg8 hown8);have HAC2:Hid (acc++body=acc9++bodB ((secs xs).take (k+1))):=by
         show acc++body=_;rw[HT.out,zg8,<-List.append_assoc,<-HAC.out]
        have hal3:(acc++body).length<=65+100000*(k+1):=(by rw[List.length_append];omega);clear hown8 hg8 hA1 HSEG HT HAC a0 a1;go_wp2;go_round
        case measure=>simp[RowKit.intOf];omega
        case rel=>exact ⟨k+1,_,by omega,by go_num,hal3,A9.out,HAC2⟩
      · obtain rfl:k=xs.length:=(by omega);have HE:Hid (acc=boxB (secs xs)):=by
         show acc=boxB (secs xs);rw[HAC.out,HH2.out,List.take_of_length_le (by rw[zaD];exact nL)];rfl
        have HA:=hid hacc;clear hacc HAC HH2;go_wp2;go_ret2;obtain ⟨A5,c5,rfl⟩:=Fd.zac HA.out.own;refine ⟨.inl ⟨HMAY.out,A5,c5,?_,?_⟩,HA.out.below⟩
        · rw[<-HE.out];rfl
        · rw[<-HE.out];exact HA.out.own
end Go.Proofs.YtjcpjopbgngihaaGreatDoor
end
