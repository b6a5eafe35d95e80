/- Proved on the way: The document's Width and Pack of numbers; The document's store: Encode; The document's Unpack of numbers; The document's store: Decode. Each theorem states its own conditions. -/
import Derived.Test.YtjcpjopbgngihaaGreatDoorM28
import Derived.Test.YtjcpjopbgngihaaGreatDoorM20
import Derived.Test.YtjcpjopbgngihaaGreatDoorM26
import Derived.Test.YtjcpjopbgngihaaGreatDoorM27
set_option maxHeartbeats 16000000
set_option maxRecDepth 1000000
set_option linter.unusedSimpArgs false
section
namespace Go.Proofs.YtjcpjopbgngihaaGreatDoor.Pk
open Tryz
open Go.RowKit Go.Proofs.YtjcpjopbgngihaaGreatDoorW.PrintWords Go.Proofs.YtjcpjopbgngihaaGreatDoorW.PrintLast Go.Proofs.YtjcpjopbgngihaaGreatDoorW.PrintMore Go.Proofs.YtjcpjopbgngihaaGreatDoor.PTopFile
theorem znz {k:Nat} {a b r:Int} (h:triviumref2_Width.l0 k a b=some r):∀m,triviumref2_Width.l0 (k+m) a b=some r
 | 0=>h
 | m+1=>triviumref2_Width.mono_l (k+m) _ _ _ (znz h m)
theorem znK {k:Nat} {a:List Int} {b c:Int} {r:Bool} (h:triviumref2_May.l0 k a b c=some r):∀m,triviumref2_May.l0 (k+m) a b c=some r
 | 0=>h
 | m+1=>(triviumref2_May.mono_l (k+m)).2 _ _ _ _ (znK h m)
theorem znG {k:Nat} {a:List Int} {b:Int} {c:List Int} {d:Int} {r:List Int × Int} (h:triviumref2_Pack.l0 k a b c d=some r):∀m,triviumref2_Pack.l0 (k+m) a b c d=some r
 | 0=>h
 | m+1=>(triviumref2_Pack.mono_l (k+m)).1 _ _ _ _ _ (znG h m)
theorem zf0:∀(m x c:Nat),x<2 ^ m->m<=62->c+m<=100->triviumref2_Width.l0 (m+1) (x:Int) (c:Int)=some ((c+Lib.bitLenAux m x:Nat):Int)
 | 0,x,c,h,_,_=>by
  obtain rfl:x=0:=(by simpa using h);unfold triviumref2_Width.l0;rw[if_neg (by omega)];rfl
 | m+1,x,c,h,hm,hc=>by
  unfold triviumref2_Width.l0;by_cases h0:x=0
  · subst h0;rw[if_neg (by omega)];show some _=some ((c+(if 0=0 then 0 else _):Nat):Int);rw[if_pos rfl];rfl
  · have e1:(x:Int) / 2=((x / 2:Nat):Int):=(by omega);have e2:wrap64 ((c:Int)+1)=((c+1:Nat):Int):=(by unfold wrap64;omega);rw[if_pos (by omega),e1,e2,zf0 m (x / 2) (c+1) (by rw[Nat.pow_succ]at h;omega) (by omega) (by omega)];show _=some ((c+(if x=0 then 0 else 1+Lib.bitLenAux m (x / 2)):Nat):Int);rw[if_neg h0]
    congr 2
    omega
theorem zie (k n:Nat) (hn:n<1048576) (hk:21<=k):triviumref2_Width.f k (n:Int)=some ((Lib.bitLen n:Nat):Int):=by
 have h:=zf0 20 n 0 hn (by omega) (by omega);have h2:=znz h (k-21);rw[show 20+1+(k-21)=k by omega]at h2;unfold triviumref2_Width.f Lib.bitLen;rw[Lib.bitLenAux_fuel 20 n hn 64 (by omega)];simpa using h2
theorem width5_calls (n:Nat) (hn:n<1048576) (w:World):Calls prog 28 #[.int .i64 n] w fun e w'=>e=.returned (.int .i64 (Lib.bitLen n:Nat))/\Below w.heap.size w w':=
 (triviumref2_Width.calls 21 (n:Int) _ w (zie 21 n hn nL)).mono fun _ _ h=>⟨h.1,h.2.below⟩
theorem zkY (l:List Nat) (w:Nat) (hl:∀x∈l,x<2 ^ w) (hw:w<=20) (hn:l.length<=1000):∀(j i:Nat),i+j=l.length->triviumref2_May.l0 (j+22) (ints l) (w:Int) (i:Int)=some true
 | 0,i,hi=>by
  unfold triviumref2_May.l0;rw[zaE,if_neg (by omega)]
 | j+1,i,hi=>by
  have hx:l.getD i 0<2 ^ w:=getD_lt hl (Nat.two_pow_pos _);have hx20:l.getD i 0<1048576:=Nat.lt_of_lt_of_le hx (show 2 ^ w<=2 ^ 20 from Nat.pow_le_pow_right (by decide) hw);have hb:=zbL hx hw;have e2:wrap64 ((i:Int)+1)=((i+1:Nat):Int):=w64s i (by omega);rw[show j+1+22=(j+22)+1 by omega];unfold triviumref2_May.l0;rw[zaE,if_pos (by omega),if_pos (by omega),zdT,if_neg (by omega),zie _ _ hx20 (by omega),Option.bind_some,if_neg (by omega),e2];exact zkY l w hl hw hn j (i+1) (by omega)
theorem may5_f (l:List Nat) (w k:Nat) (hl:∀x∈l,x<2 ^ w) (hw:w<=20) (hn:l.length<=1000) (hk:l.length+23<=k):triviumref2_May.f k (ints l) (w:Int)=some true:=by
 have h:=znK (zkY l w hl hw hn l.length 0 (by omega)) (k-(l.length+23));have hj:triviumref2_May.j0 k (ints l) (w:Int) false=some true:=by
  rw[show k=(l.length+22+(k-(l.length+23)))+1 by omega,triviumref2_May.j0,if_neg (by decide)];exact h
 unfold triviumref2_May.f;rw[if_neg (by omega),if_neg (by omega),zaE,dF (show ¬(l.length:Int) > 1000 by omega)];exact hj
theorem u64s (n:Nat) (h:n<18446744073709551616):IntKind.u64.wrap (n:Int)=(n:Int):=by rw[IntKind.wrap_u64];omega
theorem zgN (l:List Nat) (w i:Nat) (hl:∀x∈l,x<2 ^ w) (hw:w<=20) (hn:l.length<=1000) (hi:i<l.length):∀(m k F:Nat),k+m=w->
    triviumref2_Pack.l1 (F+m+1) (ints l) w (ints (pk l w (i*w+k))) i k=triviumref2_Pack.l0 F (ints l) w (ints (pk l w (i*w+w))) ((i:Int)+1)
 | 0,k,F,hk=>by
  obtain rfl:k=w:=(by omega);rw[triviumref2_Pack.l1,if_neg (by omega),w64 _ (by omega) (by omega)]
 | m+1,k,F,hk=>by
  have hiw:i*w<=1000*20:=Nat.mul_le_mul (by omega) hw;have hiw2:(i+1)*w<=l.length*w:=Nat.mul_le_mul_right w hi;rw[Nat.add_mul,Nat.one_mul]at hiw2;have hlt:(i*w+k) / 8<(pk l w (i*w+k)).length:=(by rw[zgu];omega);have hx:l.getD i 0<1048576:=Nat.lt_of_lt_of_le (getD_lt hl (Nat.two_pow_pos _)) (show 2 ^ w<=2 ^ 20 from Nat.pow_le_pow_right (by decide) hw);have q1:i*w<=9223372036854775807:=(by omega);have q2:i*w+k<=9223372036854775807:=(by omega);have q3:(i*w+k) / 8<=9223372036854775807:=(by omega);have q4:k<9223372036854775807:=(by omega);have q5:(i*w+k) % 8<8:=(by omega);have q7:k<18446744073709551616:=(by omega);have q8:(i*w+k) % 8<18446744073709551616:=(by omega);have c1:(k:Int)<(w:Int):=(by omega);have c2:(0:Int)<=(((i*w+k) / 8:Nat):Int):=(by omega);have c3:(((i*w+k) / 8:Nat):Int)<((pk l w (i*w+k)).length:Int):=(by omega);have c4:(0:Int)<=(k:Int):=(by omega);have c5:(0:Int)<=(((i*w+k) % 8:Nat):Int):=(by omega);have c6:(0:Int)<=(i:Int):=(by omega);have c7:(i:Int)<(l.length:Int):=(by omega);have hk20:k<=20:=(by omega);have hkw:k<w:=(by omega);have hk1:k+1+m=w:=(by omega);have hb:(pk l w (i*w+k)).getD ((i*w+k) / 8) 0<256:=getD_lt (pk_lt l w _) (by decide);have h7:((l.getD i 0).testBit k).toNat <<< ((i*w+k) % 8)<256:=by
   rw[Nat.shiftLeft_eq];have h1:((l.getD i 0).testBit k).toNat<=1:=Bool.toNat_le _;have hp:2 ^ ((i*w+k) % 8)<=2 ^ 7:=Nat.pow_le_pow_right (by decide) (by omega);have:=Nat.mul_le_mul h1 hp;omega
  have e0:wrap64 ((i:Int)*(w:Int))=((i*w:Nat):Int):=(by rw[<-Int.natCast_mul];exact w64n _ q1);have e1:wrap64 (((i*w:Nat):Int)+(k:Int))=((i*w+k:Nat):Int):=(by rw[<-Int.natCast_add];exact w64n _ q2);have e2:=div8 (i*w+k);have e3:=w64n _ q3;have e4:=mod8 (i*w+k);have e5:=w64s k q4;have e6:=znO (l.getD i 0) k ((i*w+k) % 8) hx hk20 q5;have e7:=u64s k q7;have e8:=u64s ((i*w+k) % 8) q8;rw[show F+(m+1)+1=(F+m+1)+1 from rfl,triviumref2_Pack.l1];simp only[e0,e1,e2,e3,e4,e5,e7,e8,Int.toNat_natCast,zdT,zaE,e6];rw[or8 _ _ hb h7,ints_set];rw[if_pos c1,if_pos c2,if_pos c3,if_pos c6,if_pos c7,if_pos c4,if_pos c5];have es:(pk l w (i*w+k)).set ((i*w+k) / 8) ((pk l w (i*w+k)).getD ((i*w+k) / 8) 0 ||| ((l.getD i 0).testBit k).toNat <<< ((i*w+k) % 8))=pk l w (i*w+(k+1)):=by
   rw[show i*w+(k+1)=(i*w+k)+1 from rfl,pk,setB,znP l w i k hkw]
  rw[es];exact zgN l w i hl hw hn hi m (k+1) F hk1
theorem zgy (l:List Nat) (w:Nat) (hl:∀x∈l,x<2 ^ w) (hw:w<=20) (hn:l.length<=1000):∀(m i:Nat),i+m=l.length->
    triviumref2_Pack.l0 (m*(w+2)+1) (ints l) w (ints (pk l w (i*w))) (i:Int)=some (ints (packB l w),0)
 | 0,i,h=>by
  obtain rfl:i=l.length:=(by omega);rw[Nat.zero_mul,Nat.zero_add,triviumref2_Pack.l0,zaE,if_neg (by omega)];rfl
 | m+1,i,h=>by
  have hi:i<l.length:=(by omega);have e:(m+1)*(w+2)+1=((m*(w+2)+1)+w+1)+1:=(by rw[Nat.add_mul];omega);rw[e,triviumref2_Pack.l0,zaE,if_pos (by omega)];have this:triviumref2_Pack.l1 (m*(w+2)+1+w+1) (ints l) w (ints (pk l w (i*w))) i 0=_:=zgN l w i hl hw hn hi w 0 (m*(w+2)+1) (by omega);rw[this];have ih:=zgy l w hl hw hn m (i+1) (by omega);rw[Nat.add_mul,Nat.one_mul]at ih;exact ih
theorem zom (l:List Nat) (w:Nat) (hl:∀x∈l,x<2 ^ w) (hw:w<=20) (hn:l.length<=1000) :
    ∃k,triviumref2_Pack.f k (ints l) (w:Int)=some (ints (packB l w),0):=by
 have hiw:l.length*w<=1000*20:=Nat.mul_le_mul hn hw;have q1:l.length*w<=9223372036854775807:=(by omega);have q2:l.length*w+7<=9223372036854775807:=(by omega);have q3:(l.length*w+7) / 8<=9223372036854775807:=(by omega);have c1:(0:Int)<=(((l.length*w+7) / 8:Nat):Int):=(by omega);have c2:(l.length*w+7) / 8<=281474976710656:=(by omega);have h:=zgy l w hl hw hn l.length 0 (by omega);have e5:ints (pk l w (0*w))=List.replicate ((l.length*w+7) / 8) 0:=(by rw[Nat.zero_mul];unfold pk ints;rw[List.map_replicate];rfl);rw[e5]at h;refine ⟨l.length*(w+2)+1+(l.length+23),?_⟩;have h2:=znG h (l.length+23);have e7:((l.length*w:Nat):Int)+7=((l.length*w+7:Nat):Int):=(by omega);unfold triviumref2_Pack.f;rw[may5_f l w _ hl hw hn (by omega),Option.bind_some,if_pos rfl,zaE,<-Int.natCast_mul,w64n _ q1,e7,w64n _ q2,div8,w64n _ q3,if_pos c1,Int.toNat_natCast,if_pos c2];exact h2
end Go.Proofs.YtjcpjopbgngihaaGreatDoor.Pk
namespace Go.Proofs.YtjcpjopbgngihaaGreatDoor
open Tryz
open Go.RowKit Go.Lib Pk
open Go.Proofs.YtjcpjopbgngihaaGreatDoorW.PrintWords (nums)
theorem zdU (A:Option Addr) (c:Nat) (l:List Nat) (d:Nat) (w:World) (h:Fd.Seg w A l.length (nums .i64 (ints l))) (hc:l.length<=c) (hl:∀x∈l,x<2 ^ d) (hd:d<=20) (hn:l.length<=1000) :
    Calls prog 77 #[.slice A l.length c,.int .i64 d] w fun e w'=>∃v,e=.returned (.tuple #[v,.int .i64 0])/\w'.ownsRow w.heap.size 5 1 v (packB l d).length (nums .u8 (ints (packB l d)))/\Below w.heap.size w w':=by
 obtain ⟨k,hk⟩:=zom l d hl hd hn;have h1:=PTopFile.triviumref2_Pack.calls k A c (ints l) (d:Int) _ _ w (by rw[zaE];exact C_int (by omega) h) (by rw[zaE];exact hc) hk;rw[zaE]at h1;refine Calls.mono h1 ?_;rintro e w' ⟨v,rfl,hr,hb⟩;have:=R_int hr;rw[zaE]at this;exact ⟨v,rfl,this,hb⟩
end Go.Proofs.YtjcpjopbgngihaaGreatDoor
end
section
namespace Go.Proofs.YtjcpjopbgngihaaGreatDoor
open Tryz
open Go.RowKit Go.Lib Tv Go.Sort
open Go.Proofs.YtjcpjopbgngihaaGreatDoorW.PrintLast
open Go.Proofs.YtjcpjopbgngihaaGreatDoorW.PrintWords (nums)
theorem hd5 (n:Nat):IntKind.u8.wrap (n:Int)=((UInt8.ofNat n).toNat:Int):=by
 rw[IntKind.wrap_u8,UInt8.toNat_ofNat'];omega
theorem hd6 (n:Nat):IntKind.u8.wrap ((n:Int) / 256)=((UInt8.ofNat (n / 256)).toNat:Int):=by
 rw[IntKind.wrap_u8,UInt8.toNat_ofNat'];omega
structure EncF (w W:World) (de:List UInt8) (p0 p1:Int) (s:Option Addr × Nat × Nat) (w':World):Prop where
 below:Below W.heap.size W w'
 own:w'.ownsRow W.heap.size 5 1 (.slice s.1 de.length s.2.1) de.length (Fd.bys de)
 lit:w'.heap[s.2.2]?=some (.cells #[.int .u8 p0,.int .u8 p1] 5 (0,0))
 ge:W.heap.size<=s.2.2
 ne:(Value.slice s.1 de.length s.2.1).ownBlock=none\/(Value.slice s.1 de.length s.2.1).ownBlock≠some s.2.2
theorem zeA (S:Nat) (v:Value) (L:List VTri) (ts:List VTm) (w:World) (h:RefIs w S v L ts) :
    Calls prog 32 #[.pointer (some ⟨S,0,none⟩)] w fun e w'=>∃A c,e=.returned (.slice A (fileN ts L).length c)/\w'.ownsRow w.heap.size 5 1 (.slice A (fileN ts L).length c) (fileN ts L).length (Fd.bys (fileN ts L))/\Below w.heap.size w w':=by
 obtain ⟨vE,vS,vI,hblk,hrowM,hrowS,hrowI⟩:=h.ex;obtain ⟨AT,cT,rfl⟩:=Fd.zac h.row;obtain ⟨AE,cE,rfl⟩:=Fd.zac hrowM;obtain ⟨AS,cS,rfl⟩:=Fd.zac hrowS;obtain ⟨AI,cI,rfl⟩:=Fd.zac hrowI;have hlm:(L.map (idsOf ts)).length=L.length:=List.length_map _;have hcS:=Fd.own_le' hrowS;have HROWI:Hid (∀w1,Below w.heap.size w w1->RowI w1 0 (.slice AI (L.map (idsOf ts)).length cI) (L.map (idsOf ts))):=fun w1 hb=>by
  have h1:=Fd.own_below hrowI hb;rw[<-hlm]at h1;exact h1
 have HSEGS:Hid (∀w1,Below w.heap.size w w1->Fd.Seg w1 AS ts.length (Fd.sts (tsS ts))):=fun w1 hb=>Fd.Seg.of_own (Fd.own_below hrowS hb);have HCELL:Hid (∀w1,Below w.heap.size w w1->w1.cell? ⟨S,1,none⟩=some (.slice AE ts.length cE)/\w1.cell? ⟨S,2,none⟩=some (.slice AS ts.length cS)/\w1.cell? ⟨S,3,none⟩=some (.slice AI L.length cI)):=fun w1 hb=>by
  have h1:=(hb.block S (Array.getElem?_eq_some_iff.1 hblk).1).trans hblk;refine ⟨?_,?_,?_⟩<;>rw[cell_of_heap h1]<;>rfl
 have hSP:=h.ok;have SP:=hid hSP;have htl:=hSP.tlen;have hll:=hSP.len;obtain ⟨s1,s2,s3⟩:=HCELL.out w br;clear h hblk hrowM hrowS hrowI hSP;obtain ⟨i3,hi3,hz30,hz31,hz32⟩:=ziU;go_enter func32,ntmps32
 go_wp2;go_loopw [3,4] (fun v3 v4 wr=>∃k:Nat,k<=L.length/\v4=.int .i64 k/\Below w.heap.size w wr/\wr.ownsRow w.heap.size 3 1 v3 (3*k) (((L.map (idsOf ts)).take k).flatMap encI)) (fun _ v4 _=>L.length-(RowKit.intOf v4).toNat)
 case atStart=>exact ⟨0,Nat.zero_le _,rfl,br,World.ownsRow_nil _ _ _ _⟩
 case round=>
  clear s1 s2 s3;obtain ⟨k,hk,rfl,hb,hown⟩:=hrel;have hcells:=HCELL.out wr hb;obtain ⟨s1,s2,s3⟩:=hcells;by_cases hlt:k<L.length
  · obtain ⟨x,hx⟩:∃x,(L.map (idsOf ts))[k]?=some x:=⟨_,List.getElem?_eq_getElem (by rw[hlm];exact hlt)⟩;have hrow:=HROWI.out wr hb;obtain ⟨g,rfl,hg,hcap⟩:∃g,AI=some ⟨g,0,none⟩/\g<wr.heap.size/\(L.map (idsOf ts)).length<=cI:=by
     rcases zai hrow with ⟨_,h⟩ | ⟨g,cap,hv,hB,hg,hc,_⟩
     · rw[hlm]at h;omega
     · cases hv;exact ⟨g,rfl,hg,hc⟩
    rw[hlm]at hcap;have HNEXT:=hid (zgA (L.map (idsOf ts)) k x hx);have HSX:Hid (∀W,Below w.heap.size w W->W.cell? ⟨S,3,none⟩=some (.slice (some ⟨g,0,none⟩) L.length cI)/\W.cell? ⟨g,k*3,none⟩=some (.int .i64 x.a)/\W.cell? ⟨g,k*3+1,none⟩=some (.int .i64 x.b)/\W.cell? ⟨g,k*3+2,none⟩=some (.int .i64 x.c)):=fun W hW=>by
     have h1:=(HROWI.out W hW).at_ k x hx;exact ⟨(HCELL.out W hW).2.2,h1⟩
    have HBD:Hid (Below w.heap.size w wr.drew):=hb.trans ⟨rfl,rfl,rfl,nL,fun _ _=>rfl⟩;have HOWN:=hid (Fd.own_below hown (show Below wr.heap.size wr wr.drew from ⟨rfl,rfl,rfl,nL,fun _ _=>rfl⟩));have hlz:(k:Int)<(L.length:Int):=(by omega);clear hrow hb hown hx hlm s1 s2;obtain ⟨xa,xb,xc⟩:=x;simp only at HSX HNEXT;go_wp2_with fail
    refine sH 28 HSX.out HBD.out (fun hHeld=>?_);refine pU 0 ?_;refine pU 1 ?_;refine pU 2 ?_;refine pU 3 ?_;refine tK 4 hHeld ?_;refine pU 5 ?_;refine pU 6 ?_;refine pU 7 ?_;refine tK 8 hHeld ?_;refine pU 9 ?_;refine pU 10 ?_;refine pU 11 ?_;refine tK 12 hHeld ?_;refine pU 13 ?_;refine pU 14 ?_;refine pU 15 ?_;refine tK 16 hHeld ?_;refine pU 17 ?_;refine pU 18 ?_;refine pU 19 ?_;refine tK 20 hHeld ?_;refine pU 21 ?_;refine pU 22 ?_;refine pU 23 ?_;refine tK 24 hHeld ?_;refine oN 25 (fun K hK=>?_);refine vA (.slice (some ⟨wr.drew.heap.size,0,none⟩) 3 3) (wr.drew.alloc (.cells #[.int .i64 xa,.int .i64 xb,.int .i64 xc] 3)) ?_;have HB3:=hid (HBD.out.alloc HBD.out.size (.cells #[.int .i64 xa,.int .i64 xb,.int .i64 xc] 3));refine oU hK (HSX.out _ HB3.out) (fun hHeld=>?_);clear hK K;refine oN 26 (fun K hK=>?_);refine zap (by rfl) _ _ 57 (by rfl) w.heap.size 3 i3 (.int .i64 0) 1 8 underlying57 hi3 hz30 hz31 hz32 rfl (by omega) u3 (3*k) _ (by rfl) (HOWN.out.alloc _) (some ⟨wr.drew.heap.size,0,none⟩) 3 3 [.int .i64 xa,.int .i64 xb,.int .i64 xc] (by rfl) ⟨rfl,fun _=>⟨_,rfl,World.news_of_block (heap_alloc_new wr.drew _)⟩⟩ (by simp[Value.oneCell']) (by unfold maxLen;omega) (by omega) HB3.out.size ?_;intro v4 w4 hown4 hg4;have HB4:=hid (HB3.out.grown hg4 HB3.out.size (fun j hj=>(HOWN.out.lt j hj).1));refine oU hK (HSX.out _ HB4.out) (fun hHeld=>?_);clear hK K;refine pU 27 ?_;refine done_ (by kernel_rfl) ?_;rw[<-HNEXT.out]at hown4;have OWN4:=hid hown4;clear hown4 hg4 HB3 HOWN HBD hHeld HSX HNEXT;go_wp2;go_round
    case measure=>simp[RowKit.intOf];omega
    case rel=>exact ⟨k+1,by omega,by go_num,HB4.out,OWN4.out⟩
  · obtain rfl:k=L.length:=(by omega);have hown6:wr.ownsRow w.heap.size 3 1 u3 (3*L.length) (nums .i64 (Pk.ints (rowN ts L))):=by
     rw[List.take_of_length_le (by rw[hlm];exact nL),zks]at hown;exact hown
    obtain ⟨A6,c6,rfl⟩:=Fd.zac hown6;have hc6:=Fd.own_le' hown6;have HO6:=hid hown6;have HB:=hid hb;have hbl:=zbs htl;have HRB:=hid SP.out.row_bits;have HW:=hid fun w=>Pk.width5_calls ts.length (by omega) w;have hrl:(rowN ts L).length=3*L.length:=(by rw[zbv];omega);have HPK:Hid (∀w5,Below wr.heap.size wr w5->Calls prog 77 #[.slice A6 (3*L.length) c6,.int .i64 (Lib.bitLen ts.length:Nat)] w5 fun e w'=>∃v,e=.returned (.tuple #[v,.int .i64 0])/\w'.ownsRow w5.heap.size 5 1 v (Pk.packB (rowN ts L) (Lib.bitLen ts.length)).length (nums .u8 (Pk.ints (Pk.packB (rowN ts L) (Lib.bitLen ts.length))))/\Below w5.heap.size w5 w'):=fun w5 hb5=>by
     have hseg:Fd.Seg w5 A6 (3*L.length) (nums .i64 (Pk.ints (rowN ts L))):=(Fd.Seg.of_own HO6.out).below hb5;have:=zdU A6 c6 (rowN ts L) (Lib.bitLen ts.length) w5 (by rw[hrl];exact hseg) (by rw[hrl];exact hc6) HRB.out (by omega) (by omega);rw[hrl]at this;exact this
    clear hrl hown hown6 hb;generalize hbn:Lib.bitLen ts.length=bn at HW HPK hbl HRB;have HBN:=hid hbn;clear hbn;go_wp2_with fail
    refine (HW.out _).mono ?_;rintro e w5 ⟨rfl,hb5⟩;have HPK5:=hid (HPK.out w5 hb5);have HB5:=hid (HB.out.trans (hb5.mono HB.out.size));have hs5:=HB5.out.size;clear hb5 HPK HW HB s1 s2 s3;go_wp2_with fail
    refine HPK5.out.mono ?_;rintro e w6 ⟨vp,rfl,hownp,hb6⟩;obtain ⟨Ap,cp,rfl⟩:=Fd.zac hownp;have HOP:=hid hownp;have HB6:=hid (HB5.out.trans (hb6.mono HB5.out.size));clear hownp hb6 HPK5 HB5;have hplen:(Pk.packB (rowN ts L) bn).length<=10000:=by
     rw[Pk.packB_len,zbv];have:=Nat.mul_le_mul (show L.length*3<=300 by omega) hbl;omega
    have hbody:2+(Pk.packB (rowN ts L) bn).length=(bodyN ts L).length:=(by rw[zel,HBN.out]);have hcells:Fd.bys (bodyN ts L)=[.int .u8 ((UInt8.ofNat (L.length / 256)).toNat:Int),.int .u8 ((UInt8.ofNat L.length).toNat:Int)]++Fd.bys ((Pk.packB (rowN ts L) bn).map UInt8.ofNat):=by
     unfold bodyN;rw[HBN.out];rfl
    have hpks:w6.ownsRow w.heap.size 5 1 (.slice Ap (Pk.packB (rowN ts L) bn).length cp) (Pk.packB (rowN ts L) bn).length (Fd.bys ((Pk.packB (rowN ts L) bn).map UInt8.ofNat)):=by
     rw[<-zcl];exact zaj HOP.out hs5
    have HBODY:=hid hbody;have HCELLS:=hid hcells;have HPKS:=hid hpks;clear hbody hcells hpks HOP;generalize Pk.packB (rowN ts L) bn=pb at hplen HBODY HCELLS HPKS ⊢;have HBD:Hid (Below w.heap.size w w6.drew):=HB6.out.trans ⟨rfl,rfl,rfl,nL,fun _ _=>rfl⟩;go_wp2_with fail
    refine sA 30 [] (fun w'=>w'.cell? ⟨S,2,none⟩=some (.slice AS ts.length cS)/\w'.cell? ⟨S,3,none⟩=some (.slice AI L.length cI)) ?_ (fun hHeld=>?_)
    · exact (HCELL.out _ HBD.out).2
    refine pU 0 ?_;refine pU 1 ?_;refine pU 2 ?_;refine tK 3 hHeld ?_;refine pU 6 ?_;refine pU 7 ?_;refine pU 8 ?_;refine tK 9 hHeld ?_;refine pU 10 ?_;refine pU 11 ?_;refine pU 12 ?_;refine pU 13 ?_;refine pU 14 ?_;refine pU 15 ?_;refine tK 16 hHeld ?_;refine pU 17 ?_;refine pU 18 ?_;refine pU 20 ?_;rw[hd6 L.length,hd5 L.length];generalize ((UInt8.ofNat (L.length / 256)).toNat:Int)=p0 at HCELLS ⊢;generalize ((UInt8.ofNat L.length).toNat:Int)=p1 at HCELLS ⊢;have hle7:(Fp.enc (texts ts)).length<=100000:=by
     have:=zfN (texts ts) 0 [] (zdz ts);rw[zdy]at this;show (Fp.encF 0 [] (texts ts)).length+1+1<=_;omega
    have HBT:Hid (∀W,Below w.heap.size w W->Calls prog 75 #[.slice AS ts.length cS] W fun e w'=>∃v,e=.returned v/\w'.ownsRow W.heap.size 5 1 v (Fp.enc (texts ts)).length (Fd.bys (Fp.enc (texts ts)))/\Below W.heap.size W w'):=fun W hW=>by
     have h1:=Fd.zbX AS cS (tsS ts) W (by rw[zaS];exact HSEGS.out W hW) SP.out.mayS;rw[zaS,zj6]at h1;exact h1
    have HFN:Hid (secN ts L=[⟨1,Fp.enc (texts ts)⟩,⟨2,bodyN ts L⟩]):=rfl;generalize hde:Fp.enc (texts ts)=de at HBT hle7 HFN;clear hde;have HPKD:=hid (Fd.own_below HPKS.out (show Below w6.heap.size w6 w6.drew from ⟨rfl,rfl,rfl,nL,fun _ _=>rfl⟩));clear HPKS HB6;generalize w6.drew=W at *;refine join_ (σ:=Option Addr × Nat × Nat) 9 #[true,true,true,true,true,true,true,true,true,true,true,true,true,true,true,true,true,true,true,true,true,false,false,false,false,false,false,false,false,false] (fun s=>[(61,.slice s.1 de.length s.2.1),(62,.agg #[.int .i64 1,.slice s.1 de.length s.2.1]),(76,.slice (some ⟨s.2.2,0,none⟩) 2 2)]) (EncF w W de p0 p1) ?_ (fun hJ=>?_);rotate_left
    ·
     refine tW 4 19 (fun K hK=>?_) (fun K hK=>?_)
     ·
      refine cL func75 #[.slice AS ts.length cS] ?_;refine (HBT.out _ HBD.out).mono ?_;rintro e w7 ⟨vd,rfl,hown7,hb7⟩;refine ⟨_,rfl,?_⟩;obtain ⟨Ad,cd,rfl⟩:=Fd.zac hown7;have HB7:=hid (HBD.out.trans (hb7.mono HBD.out.size));refine oU hK (HCELL.out _ HB7.out).2 (fun hHeld=>?_);clear hK K;refine pU 5 ?_;refine oN 19 (fun K hK=>?_);refine vA (.slice (some ⟨w7.heap.size,0,none⟩) 2 2) (w7.alloc (.cells #[.int .u8 p0,.int .u8 p1] 5)) ?_;have HB8:=hid (HB7.out.alloc HB7.out.size (.cells #[.int .u8 p0,.int .u8 p1] 5));refine oU hK (HCELL.out _ HB8.out).2 (fun hHeld=>?_);clear hK K;refine norm_ ?_ (hJ (Ad,cd,w7.heap.size) _ ⟨hb7.alloc hb7.size _,Fd.own_below hown7 ((Below.refl _ w7).alloc nL _),heap_alloc_new w7 _,hb7.size,?_⟩)
      · simp only[putAll,Act.put,List.setIfInBounds_toArray,List.set_cons_zero,List.set_cons_succ]
      · cases Ad with
        | none=>exact .inl rfl
        | some ad=>
         refine .inr fun hk=>?_;have h1:w7.heap.size<w7.heap.size:=(hown7.lt _ hk).2;omega
     ·
      refine vA (.slice (some ⟨W.heap.size,0,none⟩) 2 2) (W.alloc (.cells #[.int .u8 p0,.int .u8 p1] 5)) ?_;have HB7:=hid (HBD.out.alloc HBD.out.size (.cells #[.int .u8 p0,.int .u8 p1] 5));refine oU hK (HCELL.out _ HB7.out).2 (fun hHeld=>?_);clear hK K;have hlit:=heap_alloc_new W (.cells #[.int .u8 p0,.int .u8 p1] 5);have hb6:Below W.heap.size W (W.alloc (.cells #[.int .u8 p0,.int .u8 p1] 5)):=(Below.refl _ W).alloc nL _;have hsz:(W.alloc (.cells #[.int .u8 p0,.int .u8 p1] 5)).heap.size=W.heap.size+1:=(by simp);generalize W.alloc (.cells #[.int .u8 p0,.int .u8 p1] 5)=W1 at *;have HSZ:=hid hsz;have HLIT:=hid hlit;clear hsz hlit;refine oN 4 (fun K hK=>?_);refine cL func75 #[.slice AS ts.length cS] ?_;refine (HBT.out _ HB7.out).mono ?_;rintro e w7 ⟨vd,rfl,hown7,hb7⟩;refine ⟨_,rfl,?_⟩;obtain ⟨Ad,cd,rfl⟩:=Fd.zac hown7;have HB8:=hid (HB7.out.trans (hb7.mono HB7.out.size));refine oU hK (HCELL.out _ HB8.out).2 (fun hHeld=>?_);clear hK K;refine pU 5 ?_;refine norm_ ?_ (hJ (Ad,cd,W.heap.size) _ ⟨hb6.trans (hb7.mono hb6.size),zaj hown7 hb6.size,?_,nL,?_⟩)
      · simp only[putAll,Act.put,List.setIfInBounds_toArray,List.set_cons_zero,List.set_cons_succ]
      · exact (hb7.block _ (show W.heap.size<W1.heap.size by have:=HSZ.out;omega)).trans HLIT.out
      · cases Ad with
        | none=>exact .inl rfl
        | some ad=>
         refine .inr fun hk=>?_;have h1:W1.heap.size<=W.heap.size:=(hown7.lt _ hk).1;have:=HSZ.out;omega
    rintro ⟨Ad,cd,gb⟩ w8 hF;refine norm_ (by show putAll _ _=_;simp only[putAll,Act.put,List.setIfInBounds_toArray,List.set_cons_zero,List.set_cons_succ];rfl) ?_;have HF:=hid hF;have HB8:=hid (HBD.out.trans (hF.below.mono HBD.out.size));have HELD8:=hid (HCELL.out _ HB8.out).2;have HPK8:=hid (Fd.Seg.of_own (Fd.own_below HPKD.out hF.below))
    have hlit:w8.ownsRow W.heap.size 5 1 (.slice (some ⟨gb,0,none⟩) 2 2) 2 [.int .u8 p0,.int .u8 p1]:=
     ⟨rfl,.inr ⟨gb,2,_,rfl,hF.ge,hF.lit,nL,by decide,rfl,rfl⟩⟩
    have HLIT:=hid hlit;have hcd:=Fd.own_le' hF.own;have hsW:=hF.below.size;clear hF hlit HPKD hHeld;obtain ⟨i5,hi5,hz50,hz51,hz52⟩:=zle;refine oN 21 (fun K hK=>?_);refine zbH (by rfl) _ _ _ (by rfl) W.heap.size 5 i5 (.int .u8 0) 1 underlying22 hi5 hz50 hz51 hz52 rfl (.slice (some ⟨gb,0,none⟩) 2 2) 2 _ (by rfl) HLIT.out Ap pb.length cp _ (by rfl) HPK8.out (Fd.zaV _) (by unfold maxLen;omega) (by omega) hsW ?_;intro v9 w9 hown9 hg9;have HO9:=hid (HF.out.own.kept hg9 HF.out.ne);have HB9:=hid (HB8.out.grown hg9 HB8.out.size (fun j hj=>by have:=(HLIT.out.lt j hj).1;have:=HBD.out.size;omega));rw[HBODY.out,<-HCELLS.out]at hown9;obtain ⟨A9,c9,rfl⟩:=Fd.zac hown9;have hc9:=Fd.own_le' hown9;have HO7:=hid hown9;have hbl7:(bodyN ts L).length<=20000:=(by rw[<-HBODY.out];omega);clear hown9 hg9;refine oU hK (HCELL.out _ HB9.out).2 (fun hHeld=>?_);clear hK K;refine pU 22 ?_;generalize hbo:bodyN ts L=bo at HO7 hbl7 HFN hc9 HBODY HCELLS ⊢;clear hbo;refine oN 23 (fun K hK=>?_);have HB9':=hid HB9.out;refine vA (.slice (some ⟨w9.heap.size,0,none⟩) 2 2) (w9.alloc (.cells #[.int .i64 1,.slice Ad de.length cd,.int .i64 2,.slice A9 bo.length c9] 53)) ?_;have HBA:=hid (HB9.out.alloc HB9.out.size (.cells #[.int .i64 1,.slice Ad de.length cd,.int .i64 2,.slice A9 bo.length c9] 53));refine oU hK (HCELL.out _ HBA.out).2 (fun hHeld=>?_);clear hK K;obtain ⟨wa,hwa⟩:∃wa,w9.alloc (.cells #[.int .i64 1,.slice Ad de.length cd,.int .i64 2,.slice A9 bo.length c9] 53)=wa:=⟨_,rfl⟩;have hba:Below w9.heap.size w9 wa:=(by rw[<-hwa];exact br.alloc nL _);have hsec:SecRow wa w9.heap.size (.slice (some ⟨w9.heap.size,0,none⟩) 2 2) [⟨1,Ad,cd,de⟩,⟨2,A9,c9,bo⟩]:=by
     refine ⟨?_,?_⟩
     · rw[<-hwa];exact ⟨rfl,.inr ⟨w9.heap.size,2,_,rfl,nL,heap_alloc_new w9 _,nL,by decide,rfl,rfl⟩⟩
     · intro x hx;simp only[List.mem_cons,List.not_mem_nil,or_false]at hx;rcases hx with rfl | rfl
       · exact ⟨(Fd.Seg.of_own HO9.out).below hba,hcd⟩
       · exact ⟨(Fd.Seg.of_own HO7.out).below hba,hc9⟩
    have HP:=hid (zc0 [⟨1,Ad,cd,de⟩,⟨2,A9,c9,bo⟩] _ _ wa hsec (by
     intro x hx;simp only[List.mem_cons,List.not_mem_nil,or_false]at hx;rcases hx with rfl | rfl
     · exact ⟨hle7,by show 1<=1000000;omega⟩
     · exact ⟨by show bo.length<=100000;omega,by show 2<=1000000;omega⟩) (by show 2<=255;omega))
    rw[hwa]at HBA ⊢;clear hsec hwa hba hHeld HO7 HO9 HPK8 HLIT HF HB9;refine oN 24 (fun K hK=>?_);refine cL func73 #[.slice (some ⟨w9.heap.size,0,none⟩) 2 2] ?_;refine HP.out.mono ?_;rintro e w10 ⟨hor,hb10⟩;have HE:Hid (secs [⟨1,Ad,cd,de⟩,⟨2,A9,c9,bo⟩]=secN ts L):=by
     show secs [⟨1,Ad,cd,de⟩,⟨2,A9,c9,bo⟩]=secN ts L;rw[HFN.out];rfl
    rw[HE.out]at hor;rcases hor with ⟨_,A10,c10,rfl,hown10⟩ | ⟨hno,_⟩
    · have HO10:=hid (zaj hown10 HBA.out.size);have HB10:=hid (HBA.out.trans (hb10.mono HBA.out.size));clear hown10 hb10 HP;refine ⟨_,rfl,?_⟩;refine oU hK (HCELL.out _ HB10.out).2 (fun hHeld=>?_);clear hK K;refine pU 25 ?_;refine pU 26 ?_;refine pU 27 ?_;refine pU 28 ?_;refine pU 29 ?_;refine done_ (by kernel_rfl) ?_;clear hHeld;go_wp2;go_ret;exact ⟨A10,c10,rfl,HO10.out,HB10.out⟩
    · exact absurd SP.out.may hno
end Go.Proofs.YtjcpjopbgngihaaGreatDoor
end
section
namespace Go.Proofs.YtjcpjopbgngihaaGreatDoor
open Tryz
open Go.RowKit Go.Lib Go.Sort Pk
open Go.Proofs.YtjcpjopbgngihaaGreatDoorW.PrintLast
open Go.Proofs.YtjcpjopbgngihaaGreatDoorW.PrintWords (nums)
theorem zj4 (b:List Nat) (p j:Nat):∀w,(unN b p w).testBit j=(decide (j<w) && rdB b (p+j))
 | 0=>by simp[unN]
 | w+1=>by
  rw[<-un_or,Nat.testBit_or,zj4 b p j w,Nat.testBit_mul_two_pow,zf7];rcases Nat.lt_trichotomy j w with h | h | h
  · rw[dT h,dF (show ¬w<=j by omega),dT (show j<w+1 by omega)];simp
  · subst h;simp
  · rw[dF (show ¬j<w by omega),dF (show ¬j-w=0 by omega),dF (show ¬j<w+1 by omega)];simp
theorem zl2 (b:List Nat) (p d j:Nat) (h:j<d):unN b p d / 2 ^ j=2*(unN b p d / 2 ^ (j+1))+(rdB b (p+j)).toNat:=by
 have h1:unN b p d / 2 ^ (j+1)=unN b p d / 2 ^ j / 2:=(by rw[Nat.div_div_eq_div_mul,Nat.pow_succ]);have h2:(rdB b (p+j)).toNat=unN b p d / 2 ^ j % 2:=by
  rw[<-Nat.toNat_testBit,zj4,dT h,Bool.true_and]
 rw[h1,h2];omega
theorem zl0 (b:List Nat) (n d i:Nat) (h:i<n):(unp b n d).take (i+1)=(unp b n d).take i++[unN b (i*d) d]:=by
 rw[List.take_add_one]
 congr 1
 unfold unp;rw[List.getElem?_map,List.getElem?_range h];rfl
theorem or2 (x c:Nat) (hx:x<1048576) (hc:c<2):Go.bits .or .i64 ((2*x:Nat):Int) (c:Int)=((2*x+c:Nat):Int):=by
 rw[or64 _ _ (by omega) (by omega)];have:=Nat.two_pow_add_eq_or_of_lt (i:=1) (b:=c) (by omega) x;rw[show 2 ^ 1*x=2*x by omega]at this;rw[<-this]
theorem zfg (A:Option Addr) (c:Nat) (b:List UInt8) (n d:Nat) (w:World) (h:Fd.Seg w A b.length (Fd.bys b)) (hl:b.length<=20000) (hn:n<=1000) (hd:d<=20) :
    Calls prog 27 #[.slice A b.length c,.int .i64 n,.int .i64 d] w (PunAns w b n d):=by
 have hnd:n*d<=1000*20:=Nat.mul_le_mul hn hd;have HS:=hid h;clear h;have hwm:IntKind.i64.wrap ((n:Int)*(d:Int))=((n*d:Nat):Int):=by
  rw[<-Int.natCast_mul,IntKind.wrap_i64];omega
 obtain ⟨nd,hnd2⟩:∃nd,n*d=nd:=⟨_,rfl⟩;rw[hnd2]at hnd hwm;have HND:=hid hnd2;clear hnd2;have hw7:IntKind.i64.wrap ((nd:Int)+7)=((nd+7:Nat):Int):=(wI (by omega));obtain ⟨sz,hsz⟩:∃sz,(nd+7) / 8=sz:=⟨_,rfl⟩;have HSZE:=hid hsz;have hszb:sz<=3000:=(by omega);have hq8:((nd:Int)+7) / 8=(sz:Int):=(by omega);have hw8:IntKind.i64.wrap (Int.tdiv ((nd+7:Nat):Int) 8)=(sz:Int):=(by rw[div8,hsz,IntKind.wrap_i64];omega);have hdz:¬(20:Int)<(d:Int):=(by omega);have hnz:¬(1000:Int)<(n:Int):=(by omega);have hdz0:¬(d:Int)<0:=(by omega);have hnz0:¬(n:Int)<0:=(by omega);clear hsz;by_cases hE:b.length=sz
 · have hne:((b.length:Int) != (sz:Int))=false:=(by rw[bne_eq_false_iff_eq];omega);have HE:=hid hE;obtain ⟨i3,hi3,hz30,hz31,hz32⟩:=info_parts Fd.info3;clear hE;go_enter func27,ntmps27
   go_wp2;clear hw7 hw8 hq8 hwm hne;go_loopw [8,9] (fun v8 v9 wr=>∃i:Nat,i<=n/\v9=.int .i64 i/\wr.ownsRow w.heap.size 3 1 v8 i (nums .i64 (ints ((unp (natB b) n d).take i)))/\Below w.heap.size w wr) (fun _ v9 _=>n-(RowKit.intOf v9).toNat)
   case atStart=>exact ⟨0,Nat.zero_le _,rfl,World.ownsRow_nil _ _ _ _,br⟩
   case round=>
    obtain ⟨i,hi,rfl,hown,hb⟩:=hrel;by_cases hlt:i<n
    · obtain ⟨A8,c8,rfl⟩:=Fd.zac hown;have HOWN:=hid hown;have HB:=hid hb;obtain ⟨p,hp⟩:∃p,i*d=p:=⟨_,rfl⟩;have hpn:p+d<=nd:=by
       have:(i+1)*d<=n*d:=Nat.mul_le_mul_right d hlt;rw[Nat.add_mul,Nat.one_mul,hp,HND.out]at this;exact this
      have hwp:IntKind.i64.wrap ((i:Int)*(d:Int))=(p:Int):=by
       rw[<-Int.natCast_mul,hp,IntKind.wrap_i64];omega
      have HUT:Hid ((unp (natB b) n d).take (i+1)=(unp (natB b) n d).take i++[unN (natB b) p d]):=by
       show _=_;rw[zl0 _ _ _ _ hlt,hp]
      obtain ⟨N,hN⟩:∃N,unN (natB b) p d=N:=⟨_,rfl⟩;have hNl:=zeK (natB b) p d;rw[hN]at HUT hNl;have hd2:2 ^ d<=2 ^ 20:=Nat.pow_le_pow_right (by decide) hd;have hN20:N<1048576:=(by omega);have HN0:Hid (N / 2 ^ d=0):=Nat.div_eq_of_lt hNl;have HNH:=hid fun j (hj:j<d)=>(by have:=zl2 (natB b) p d j hj;rw[hN]at this;exact this);clear hown hb hp hN hNl hd2;go_wp2;go_loopw [10,11] (fun v10 v11 wk=>∃j:Nat,j<=d/\v10=.int .i64 ((N / 2 ^ j:Nat):Int)/\v11=.int .i64 ((j:Int)-1)/\wk=wr) (fun _ v11 _=>(RowKit.intOf v11+1).toNat)
      case atStart=>exact ⟨d,nL,by rw[HN0.out];rfl,by go_num,rfl⟩
      case round=>
       obtain ⟨j,hjd,rfl,rfl,rfl⟩:=hrel;cases j with
       | succ j=>
        have ej:((j+1:Nat):Int)-1=(j:Int):=(by omega);rw[ej];have hjlt:j<d:=(by omega);have hnh:=HNH.out j hjlt;obtain ⟨at_,hat⟩:∃at_,p+j=at_:=⟨_,rfl⟩;have hatb:at_<nd:=(by omega);have hsum:(p:Int)+(j:Int)=(at_:Int):=(by omega);have hl8:at_ / 8<b.length:=(by have h1:=HE.out;have h2:=HSZE.out;omega);obtain ⟨ad,rfl,hcell⟩:=(HS.out.below HB.out).byte hl8;have hbyte:(natB b).getD (at_ / 8) 0=b[at_ / 8].toNat:=ziM b _ hl8;have hrd:=zky (natB b) at_;rw[hat,hrd,hbyte]at hnh;have hbt:=b[at_ / 8].toNat_lt;have hxl:N / 2 ^ (j+1)<=N:=Nat.div_le_self _ _;obtain ⟨x,hx⟩:∃x,N / 2 ^ (j+1)=x:=⟨_,rfl⟩;obtain ⟨x2,hx2⟩:∃x2,N / 2 ^ j=x2:=⟨_,rfl⟩;obtain ⟨bt,hbte⟩:∃bt,b[at_ / 8].toNat=bt:=⟨_,rfl⟩;obtain ⟨a8,ha8⟩:∃a8,at_ / 8=a8:=⟨_,rfl⟩;obtain ⟨r8,hr8⟩:∃r8,at_ % 8=r8:=⟨_,rfl⟩;rw[hx,hx2,hbte,hr8]at hnh;rw[hbte]at hbt hcell;rw[ha8]at hcell;rw[hx]at hxl;obtain ⟨sv,hsv⟩:∃sv,bt / 2 ^ r8=sv:=⟨_,rfl⟩;rw[hsv]at hnh;obtain ⟨bit,hbit⟩:∃bit,sv % 2=bit:=⟨_,rfl⟩;rw[hbit]at hnh;have hsvl:sv<=bt:=(by rw[<-hsv];exact Nat.div_le_self _ _);have hbitl:bit<2:=(by rw[<-hbit];exact Nat.mod_lt _ (by decide));have hr8l:r8<8:=(by omega);have ha8l:a8<b.length:=(by rw[<-ha8];exact hl8);have f0:IntKind.i64.wrap (at_:Int)=(at_:Int):=(wI (by omega));have f1:(at_:Int) / 8=(a8:Int):=(by omega);have f2:(at_:Int) % 8=(r8:Int):=(by omega);have f4:(bt:Int) / 2 ^ r8=(sv:Int):=(by rw[<-hsv];norm_cast);have f5:Go.bits .and .u8 (sv:Int) 1=(bit:Int):=by
         have:=bits_mask .u8 8 (by decide) wraps_u8 1 (by decide) (sv:Int) (by omega) (by omega);rw[show ((2:Int) ^ 1-1)=1 from rfl]at this;rw[this,<-hbit];rfl
        have f6:IntKind.i64.wrap (bit:Int)=(bit:Int):=(wI (by omega));have f7:IntKind.i64.wrap ((x:Int)*2)=((2*x:Nat):Int):=(wI (by omega));have f8:Go.bits .or .i64 ((2*x:Nat):Int) (bit:Int)=(x2:Int):=(by rw[or2 x bit (by omega) hbitl,hnh]);have F8:Hid (Go.bits .or .i64 (2*(x:Int)) (bit:Int)=(x2:Int)):=by
         show Go.bits .or .i64 (2*(x:Int)) (bit:Int)=(x2:Int);rw[<-f8];rfl
        have g2:(a8:Int)<(b.length:Int):=(by omega);clear f8;have HX2:=hid hx2;rw[hx];clear hnh hx2 hx hbte ha8 hr8 hsv hbit hsvl hbitl hl8 hatb hat hbyte hrd hbt hxl ej;go_wp2;refine ⟨⟨j,by omega,?_,rfl,trivial⟩,?_⟩
        · rw[F8.out,HX2.out]
        · simp[RowKit.intOf]
       | zero=>
        have ej:((0:Nat):Int)-1 = -1:=(by omega);have en:N / 2 ^ 0=N:=(by rw[Nat.pow_zero,Nat.div_one]);rw[ej,en];clear ej en HNH HN0;go_wp2_with (at_builtin;refine wpList_append_own _ rfl _ _ 57 rfl w.heap.size 3 i3 (.int .i64 0) 1 8 underlying57 hi3 hz30 hz31 hz32 rfl (by decide) _ i (nums .i64 (ints ((unp (natB b) n d).take i))) rfl (HOWN.out.alloc _) ⟨wr.heap.size,0,none⟩ 1 1 [.int .i64 (N:Nat)] rfl rfl ?c1 ?c2 ?c3 ?c4 ?c5 ?_)
        case c1=>exact fun j u hj=>by rw[Fd.add_zero'];exact Fd.zbh wr _ 3 j u hj
        case c2=>intro u hu;simp at hu;subst hu;rfl
        case c3=>unfold maxLen;omega
        case c4=>omega
        case c5=>have:=HB.out.size;simp;omega
        intro v2 w5 hown2 hg2 _;have HB5:=hid ((HB.out.alloc HB.out.size _).grown hg2 (by have:=HB.out.size;simp;omega) (fun j hj=>(HOWN.out.lt j hj).1));have OWN5:Hid (w5.ownsRow w.heap.size 3 1 v2 (i+1) (nums .i64 (ints ((unp (natB b) n d).take (i+1))))):=by
         show World.ownsRow _ _ _ _ _ _ _;rw[HUT.out];have e:nums .i64 (ints ((unp (natB b) n d).take i++[N]))=nums .i64 (ints ((unp (natB b) n d).take i))++[.int .i64 (N:Nat)]:=by
          unfold ints nums;simp
         rw[e];exact hown2
        obtain ⟨A2,c2,rfl⟩:=Fd.zac hown2;clear hown2 hg2 HUT;go_wp2;go_roundw
        case rel=>exact ⟨i+1,by omega,by go_num,OWN5.out,HB5.out⟩
        case measure=>simp[RowKit.intOf];omega
    · obtain rfl:i=n:=(by omega);obtain ⟨g8,c8,rfl⟩:=Fd.zac hown;have hul:=zcF (natB b) i d;rw[List.take_of_length_le (by rw[hul];exact nL)]at hown;have hpk:=zdU g8 c8 (unp (natB b) i d) d wr (by rw[hul];exact Fd.Seg.of_own hown) (by rw[hul];exact Fd.own_le' hown) (zf5 _ _ _) hd (by rw[hul];exact hn);rw[hul]at hpk;have HPK:=hid hpk;have OWN:=hid hown;have HB:=hid hb;have hple:(packB (unp (natB b) i d) d).length<=100000:=by
       rw[packB_len,hul,HND.out];omega
      have HPI:=hid (pk_is (natB b) i d);have HPB:=hid (zcl (unp (natB b) i d) d);have HPL:=hid (fun x hx=>pk_lt (unp (natB b) i d) d _ x hx:∀x∈packB (unp (natB b) i d) d,x<256);have HUI:Hid (packB (unp (natB b) i d) d=natB b->PkIs (natB b) i d (unp (natB b) i d)):=fun h=>⟨zcF _ _ _,zf5 _ _ _,h⟩;have HCB:Hid (∀W,Below w.heap.size w W->(convert 22 9 (.slice A b.length c)).run prog W=.ok (.string (str b)) W):=fun W hW=>Fd.zaG _ _ _ _ _ (HS.out.below hW);clear hpk hown hb hul;generalize unp (natB b) i d=L at HPK OWN hple HPI HPB HPL HUI;generalize packB L d=P at HPK hple HPI HPB HPL HUI;go_wp2_with fail
      refine HPK.out.mono ?_;rintro e w3 ⟨vp,rfl,hownp,hb3⟩;obtain ⟨Ap,cp,rfl⟩:=Fd.zac hownp;have HB3:=hid (HB.out.trans (hb3.mono HB.out.size));have OWN3:=hid (zaj (Fd.own_below OWN.out hb3) nL);have hsp:Fd.Seg w3 Ap P.length (Fd.bys (P.map UInt8.ofNat)):=by
       rw[<-HPB.out];exact Fd.Seg.of_own hownp
      have q1:=Fd.zaG w3 Ap P.length cp (P.map UInt8.ofNat) hsp;have q2:=HCB.out w3 HB3.out;have hq:=zb4 (P.map UInt8.ofNat) b;clear hsp hownp hb3 HPK OWN;by_cases hPE:P.map UInt8.ofNat=b
      · have HOK:=hid (HUI.out (by rw[<-zdV P HPL.out,hPE]));rw[dT hPE]at hq;generalize str (P.map UInt8.ofNat)=s1 at q1 hq;generalize str b=s2 at q2 hq HCB;clear hPE;go_wp2;go_ret2;exact ⟨.inl ⟨L,_,_,HOK.out,rfl,OWN3.out⟩,HB3.out⟩
      · have HN:Hid (¬∃l,PkIs (natB b) i d l):=fun h=>hPE (ziL (by rw[zdV P HPL.out];exact HPI.out.1 h));rw[dF hPE]at hq;generalize str (P.map UInt8.ofNat)=s1 at q1 hq;generalize str b=s2 at q2 hq HCB;clear hPE;go_wp2;go_ret2;exact PunAns.no HN.out rfl HB3.out
 · have HN:=hid (zgt (b:=b) (n:=n) (d:=d) (by rw[HND.out,HSZE.out];exact hE));have hne:((b.length:Int) != (sz:Int))=true:=(by rw[bne_iff_ne];omega);clear hE;go_enter func27,ntmps27
   go_wp2;go_ret2;exact PunAns.no HN.out rfl br
end Go.Proofs.YtjcpjopbgngihaaGreatDoor
end
section
namespace Go.Proofs.YtjcpjopbgngihaaGreatDoor
open Tryz
open Go.RowKit Go.Lib Tv Go.Sort Pk
open Go.Proofs.YtjcpjopbgngihaaGreatDoorW.PrintLast
open Go.Proofs.YtjcpjopbgngihaaGreatDoorW.PrintWords (nums)
theorem zmj (t:VTm):shownV (str (shw t.1)).data.toList=some t.1:=by
 rw[zae];exact (za0 _ _).2 ⟨t.2,rfl⟩
theorem ShT.ofP (ts:List VTm):ShT (tsS ts) ts:=by
 simp only[ShT,tsS,List.map_map,Function.comp_def,zmj]
theorem zmK {b:Bs} {i j:Nat} {x:Bs} {p0 p1:UInt8} {q:Bs} {d:List ByteArray} (h:Bx.BxIs b [⟨i,x⟩,⟨j,p0::p1::q⟩]) (hd:Fd.Rd x d) (h2:¬∃T,ShT d T):¬IsFile b:=fun hf=>by
 obtain ⟨L,ts,_,_,rfl,_⟩:=hf.read h hd;exact h2 ⟨ts,ShT.ofP ts⟩
theorem TmsAns.two {w w':World} {d:List ByteArray} {e:Ending} (h:TmsAns w d e w'):∃v bk,e=.returned (.tuple #[v,.bool bk])/\((bk=true/\∃T,ShT d T/\RowM w' w.heap.size v T)\/(bk=false/\¬∃T,ShT d T))/\Below w.heap.size w w':=by
 rcases h with ⟨⟨T,v,rfl,h1,h2⟩ | ⟨h1,v,rfl⟩,hb⟩
 · exact ⟨v,true,rfl,.inl ⟨rfl,T,h1,h2⟩,hb⟩
 · exact ⟨v,false,rfl,.inr ⟨rfl,h1⟩,hb⟩
theorem zfy (A:Option Addr) (c:Nat) (b:Bs) (w:World) (hs:Fd.Seg w A b.length (Fd.bys b)) (hA:0<b.length->∃g,A=some ⟨g,0,none⟩) (hbig:b.length<=80000) (hc:b.length<=c) :
    Calls prog 25 #[.slice A b.length c] w (Fd.RefsAs w b):=by
 by_cases h2:b.length<2
 · exact Fd.zfz A c b w h2
 · obtain ⟨g,rfl⟩:=hA (by omega);exact Fd.zgr _ c b w hs (by omega) hbig hc
theorem or_n (a c:Nat) (ha:a<256) (hc:c<256):Go.bits .or .i64 ((a:Int)*256) (c:Int)=((a*256+c:Nat):Int):=by
 rw[show (a:Int)*256=((a*256:Nat):Int) by omega,or64 _ _ (by omega) (by omega)];have:=Nat.two_pow_add_eq_or_of_lt (i:=8) (b:=c) (by omega) a;rw[Nat.mul_comm]at this;rw[<-this]
theorem RefIs.below {w w1:World} {S:Nat} {v:Value} {L:List VTri} {ts:List VTm} (h:RefIs w S v L ts) (hb:Below w.heap.size w w1):RefIs w1 S v L ts:=by
 obtain ⟨vE,vS,vI,h0,h1,h2,h3⟩:=h.ex;exact ⟨⟨vE,vS,vI,(hb.block S (Array.getElem?_eq_some_iff.1 h0).1).trans h0,h1.below hb,Fd.own_below h2 hb,Fd.own_below h3 hb⟩,h.row.below hb,h.ok⟩
def RecAns (w:World) (b:Bs) (e:Ending) (w':World):Prop:=
 ((∃S v L ts,fileN ts L=b/\RefIs w' S v L ts/\e=.returned (.tuple #[.pointer (some ⟨S,0,none⟩),.int .i64 0]))\/(¬IsFile b/\e=.returned (.tuple #[.pointer none,.int .i64 2])))/\Below w.heap.size w w'
theorem RecAns.no {w w':World} {b:Bs} {e:Ending} (h:¬IsFile b) (he:e=.returned (.tuple #[.pointer none,.int .i64 2])) (hb:Below w.heap.size w w'):RecAns w b e w':=⟨.inr ⟨h,he⟩,hb⟩
theorem zeB (AA:Option Addr) (c:Nat) (b:Bs) (w:World) (h4:4<=w.heap.size) (hl:Lay w) (h:Fd.Seg w AA b.length (Fd.bys b)) (hc:b.length<=c) (hlen:b.length<=20000) :
    Calls prog 6 #[.slice AA b.length c] w (RecAns w b):=by
 have HUN:=hid (zes AA c b w h hc hlen);have HS:=hid h;have HLA:=hid hl;clear h hl;go_enter func6,ntmps6
 go_wp2_with fail
 refine HUN.out.mono ?_;rintro e w1 ⟨⟨xs,v,hbx,rfl,hrow,hpart⟩ | ⟨hno,rfl⟩,hb1⟩
 case inr=>
  have HN:=hid (zkR hno);have HB1:=hid hb1;clear hno hb1;go_wp2;go_ret2;exact RecAns.no HN.out rfl HB1.out
 obtain ⟨Ax,cx,rfl⟩:=Fd.zac hrow.own;have HB1:=hid hb1;have HBX:=hid hbx;have HROW:=hid hrow;have HPART:=hid hpart;clear hb1 hbx hrow hpart HUN;by_cases h2:xs.length=2
 case neg=>
  have HN:=hid (znJ HBX.out (by rw[zaD];exact h2));have hz:((xs.length:Int) != 2)=true:=(by rw[bne_iff_ne];omega);generalize xs.length=xl at hz;clear h2 HBX HROW HPART;go_wp2;go_ret2;exact RecAns.no HN.out rfl HB1.out
 obtain ⟨x0,x1,rfl⟩:∃x0 x1,xs=[x0,x1]:=by
  match xs,h2 with
  | [x0,x1],_=>exact ⟨x0,x1,rfl⟩
 clear h2;obtain ⟨gx,rfl,_,_⟩:=zbn HROW.out.own (by simp);obtain ⟨ci0,ca0⟩:=HROW.out.at_ 0 x0 rfl;obtain ⟨ci1,ca1⟩:=HROW.out.at_ 1 x1 rfl;obtain ⟨p0h,p0c⟩:=HROW.out.part x0 (by simp);obtain ⟨p1h,p1c⟩:=HROW.out.part x1 (by simp);obtain ⟨l0,a0⟩:=HPART.out x0 (by simp);obtain ⟨l1,a1⟩:=HPART.out x1 (by simp);obtain ⟨i0,A0,c0,b0⟩:=x0;obtain ⟨i1,A1,c1,b1⟩:=x1;simp only at ci0 ca0 ci1 ca1 p0h p0c p1h p1c l0 a0 l1 a1;have hbx:Bx.BxIs b [⟨i0,b0⟩,⟨i1,b1⟩]:=HBX.out;have HBX2:=hid hbx;clear hbx HBX HROW HPART ci0 ci1;rw[show ([⟨i0,A0,c0,b0⟩,⟨i1,A1,c1,b1⟩]:List SecV).length=2 from rfl];by_cases h22:b1.length<2
 case pos=>
  have HN:=hid (zkP HBX2.out h22);have hz:(b1.length:Int)<2:=(by omega);clear h22;go_wp2;go_ret2;exact RecAns.no HN.out rfl HB1.out
 have hz:¬(b1.length:Int)<2:=(by omega);obtain ⟨p0,p1,q,rfl⟩:∃p0 p1 q,b1=p0::p1::q:=by
  match b1,h22 with
  | p0::p1::q,_=>exact ⟨p0,p1,q,rfl⟩
  | [_],h=>exact absurd (by simp) h
  | [],h=>exact absurd (by simp) h
 obtain ⟨blen,hblen⟩:∃blen,(p0::p1::q).length=blen:=⟨_,rfl⟩;have hbq:blen=q.length+2:=(by rw[<-hblen];simp);obtain ⟨g1,rfl⟩:=a1 (by simp);have hk0:w1.cell? ⟨g1,0,none⟩=some (.int .u8 (p0.toNat:Int)):=by
  obtain ⟨ad,e,h⟩:=p1h.byte (k:=0) (by simp);cases e
  exact h
 have hk1:w1.cell? ⟨g1,1,none⟩=some (.int .u8 (p1.toNat:Int)):=by
  obtain ⟨ad,e,h⟩:=p1h.byte (k:=1) (by simp);cases e
  rw[Fd.add_zero']at h;exact h
 have HQS:Hid (Fd.Seg w1 (some ⟨g1,2,none⟩) q.length (Fd.bys q)):=by
  have:=Fd.zbJ p1h 2 q.length (by simp;omega);rw[show (List.drop 2 (p0::p1::q)).take q.length=q from by simp]at this;exact this
 have HRD:=hid (zfy A0 c0 b0 w1 p0h a0 (by omega) p0c);have HK0:=hid hk0;have HK1:=hid hk1;rw[hblen]at hz p1c l1 ca1;have HCA:=hid ca1;clear hk0 hk1 h22 p0h p1h a0 a1;clear hblen;go_wp2_with fail
 refine HRD.out.mono ?_;rintro e w2 hra;obtain ⟨vr,er,rfl,hor,hb2⟩:∃vr er,e=.returned (.tuple #[vr,.int .i64 er])/\((∃d A c,Fd.Rd b0 d/\vr=.slice A d.length c/\er=0/\Fd.Seg w2 A d.length (Fd.sts d))\/((¬∃l,Fd.Rd b0 l)/\er=2))/\Below w1.heap.size w1 w2:=by
  rcases hra with ⟨⟨l,A,c,h1,rfl,h2⟩ | ⟨h1,rfl⟩,hb⟩
  · exact ⟨_,_,rfl,.inl ⟨l,A,c,h1,rfl,rfl,h2⟩,hb⟩
  · exact ⟨_,_,rfl,.inr ⟨h1,rfl⟩,hb⟩
 have HB2:=hid (HB1.out.trans (hb2.mono HB1.out.size));have HQ2:=hid (HQS.out.below hb2);have HOR:=hid hor;have HQL:=hid hbq;have HCA2:Hid (∀W,Below w2.heap.size w2 W->W.cell? ⟨gx,1*2+1,none⟩=some (.slice (some ⟨g1,0,none⟩) blen c1)):=fun W hW=>zaa (zaa HCA.out hb2) hW;have k0:=zaa HK0.out hb2;have k1:=zaa HK1.out hb2;have ca2:=HCA2.out w2 br;have ha:=p0.toNat_lt;have hb:=p1.toNat_lt;have z0:(0:Int)<(blen:Int):=(by omega);have z1:(1:Int)<(blen:Int):=(by omega);have y0:0<blen:=(by omega);have y1:1<blen:=(by omega);obtain ⟨n,hn⟩:∃n,p0.toNat*256+p1.toNat=n:=⟨_,rfl⟩;have HNE:=hid hn;have hor2:=or_n p0.toNat p1.toNat ha hb;rw[hn]at hor2;have hnn:n<=65535:=(by omega);generalize p0.toNat=a at k0 ha hor2;generalize p1.toNat=cc at k1 hb hor2;have hwa:IntKind.i64.wrap (a:Int)=a:=(wI (by omega));have hwc:IntKind.i64.wrap (cc:Int)=cc:=(wI (by omega));have hwb:IntKind.i64.wrap ((a:Int)*256)=(a:Int)*256:=(wI (by omega));clear HK0 HK1 HRD hbq ha hb hn hor hb2 HQS HB1 HCA ca1;go_wp2;go_quiet (fail)
 have hbd:Below w2.heap.size w2 (w2.drewN nq):=⟨rfl,rfl,rfl,nL,fun _ _=>rfl⟩;have HB3:=hid (HB2.out.trans (hbd.mono HB2.out.size));have HQ3:=hid (HQ2.out.below hbd);have HCA3:Hid (∀W,Below (w2.drewN nq).heap.size (w2.drewN nq) W->W.cell? ⟨gx,1*2+1,none⟩=some (.slice (some ⟨g1,0,none⟩) blen c1)):=fun W hW=>HCA2.out W (hbd.trans hW);have HOR3:Hid ((∃d A c,Fd.Rd b0 d/\vr=.slice A d.length c/\er=0/\Fd.Seg (w2.drewN nq) A d.length (Fd.sts d))\/((¬∃l,Fd.Rd b0 l)/\er=2)):=by
  rcases HOR.out with ⟨d,A,c,h1,h2,h3,h4⟩ | h
  · exact .inl ⟨d,A,c,h1,h2,h3,h4.below hbd⟩
  · exact .inr h
 clear k0 k1 ca2 hwa hwb hwc hor2 hbd HB2 HQ2 HCA2 HOR;generalize w2.drewN nq=w3 at HB3 HQ3 HCA3 HOR3 ⊢;rcases HOR3.out with ⟨d,Ad,cd,hrd,rfl,rfl,hsd⟩ | ⟨hno,rfl⟩
 case inr=>
  have HN:=hid (no_rd HBX2.out hno);clear hno;go_wp2;go_ret2;exact RecAns.no HN.out rfl HB3.out
 have HRDD:=hid hrd;have hdl:=hrd.1.1;have HSD:=hid hsd;clear HOR3 hrd hsd;by_cases h100:100<n
 · have HN:=hid (no_n HBX2.out (by rw[HNE.out];exact h100));have hgt:decide ((100:Int)<(n:Int))=true:=dT (by omega);clear h100;go_wp2;go_ret2;exact RecAns.no HN.out rfl HB3.out
 have hgt:decide ((100:Int)<(n:Int))=false:=dF (by omega);have hdsz:∀s∈d,s.size<=40000:=by
  intro s hs;obtain ⟨i,hi,rfl⟩:=List.mem_iff_getElem.1 hs;have:=(HRDD.out.1.2 i hi).2.2.1;omega
 have HTE:=hid (zfl Ad cd d w3 (by have:=HB3.out.size;omega) (HLA.out.below HB3.out) HSD.out hdsz (by omega));clear hdsz;go_wp2_with fail
 refine HTE.out.mono ?_;rintro e w4 hta;obtain ⟨vt,bk,rfl,hort,hb4⟩:=hta.two;have HB4:=hid (HB3.out.trans (hb4.mono HB3.out.size));have HQ4:=hid (HQ3.out.below hb4);have HCA4:Hid (∀W,Below w4.heap.size w4 W->W.cell? ⟨gx,1*2+1,none⟩=some (.slice (some ⟨g1,0,none⟩) blen c1)):=fun W hW=>HCA3.out W (hb4.trans (hW.mono hb4.size));have HORT:=hid hort;clear hta hort hb4 HTE HB3 HQ3 HCA3;have z2:(2:Int)<=(blen:Int):=(by omega);have y2:2<=blen:=(by omega);have f3:IntKind.i64.wrap (3*(n:Int))=3*(n:Int):=(wI (by omega));obtain ⟨Aq,hAq⟩:∃Aq:Option Addr,(if c1=2 then some (⟨g1,0,none⟩:Addr) else some ⟨g1,2,none⟩)=Aq:=⟨_,rfl⟩;have HSQ:Hid (Fd.Seg w4 Aq q.length (Fd.bys q)):=by
  show Fd.Seg w4 Aq q.length (Fd.bys q);rw[<-hAq];by_cases h2:c1=2
  · rw[if_pos h2];have hq0:q.length=0:=(by have:=HQL.out;omega);obtain rfl:q=[]:=List.eq_nil_of_length_eq_zero hq0;exact ⟨rfl,fun h=>absurd h (by simp)⟩
  · rw[if_neg h2];exact HQ4.out
 go_wp2_with fail
 refine sA 16 [] (fun W=>W.cell? ⟨gx,1*2+1,none⟩=some (.slice (some ⟨g1,0,none⟩) blen c1)) ?_ (fun hHeld=>?_)
 · exact HCA4.out _ br.drew
 refine pU 0 ?_;refine pU 1 ?_;refine pU 2 ?_;refine tK 3 hHeld ?_;refine pU 4 ?_;refine pU 5 ?_;refine pU 6 ?_;refine pU 7 ?_;refine pU 8 ?_;refine oN 9 (fun K hK=>?_);refine cL func28 #[.int .i64 d.length] ?_;refine (width5_calls d.length (by omega) _).mono ?_;rintro e w5 ⟨rfl,hb5⟩;refine ⟨_,rfl,?_⟩;have hb5':Below w4.heap.size w4 w5:=br.drew.trans hb5;have HB5:=hid (HB4.out.trans (hb5'.mono HB4.out.size));have HQ5:=hid (HSQ.out.below hb5');refine oU hK (HCA4.out _ hb5') (fun hHeld=>?_);clear hK K;have hqe:q.length=blen-2:=(by have:=HQL.out;omega);have hpu:=zfg Aq (c1-2) q (3*n) (Lib.bitLen d.length) w5 HQ5.out (by omega) (by omega) (by have:=zbs hdl;omega);rw[hqe,show ((3*n:Nat):Int)=3*(n:Int) by omega]at hpu;have HPU:=hid hpu;have HORT5:Hid ((bk=true/\∃T,ShT d T/\RowM w5 w3.heap.size vt T)\/(bk=false/\¬∃T,ShT d T)):=by
  rcases HORT.out with ⟨h1,T,h2,h3⟩ | h
  · exact .inl ⟨h1,T,h2,h3.below hb5'⟩
  · exact .inr h
 clear hpu hqe hb5 hb5' HB4 HQ4 HQ5 HSQ HCA4 HORT;refine oN 10 (fun K hK=>?_);refine cL func27 #[.slice Aq (blen-2) (c1-2),.int .i64 (3*(n:Int)),.int .i64 (Lib.bitLen d.length:Nat)] ?_;refine HPU.out.mono ?_;rintro e w6 hpun;obtain ⟨vr,er,rfl,hor,hb6⟩:=hpun.two;refine ⟨_,rfl,?_⟩;have HB6:=hid (HB5.out.trans (hb6.mono HB5.out.size));have HOR:=hid hor;have HORT6:Hid ((bk=true/\∃T,ShT d T/\RowM w6 w3.heap.size vt T)\/(bk=false/\¬∃T,ShT d T)):=by
  rcases HORT5.out with ⟨h1,T,h2,h3⟩ | h
  · exact .inl ⟨h1,T,h2,h3.below hb6⟩
  · exact .inr h
 have hcell6:=hHeld;have HC6:=hid (zaa hcell6 hb6);clear hor hpun HPU hcell6 HORT5 HB5 hb6;refine oU hK HC6.out (fun hHeld=>?_);clear hK K;refine pU 11 ?_;refine pU 12 ?_;refine pU 13 ?_;refine pU 14 ?_;refine pU 15 ?_;refine done_ (by kernel_rfl) ?_;clear hHeld f3 HC6;rcases HORT6.out with ⟨rfl,T,hT,hrT⟩ | ⟨rfl,hno⟩
 case inr=>
  have HN:=hid (zmK HBX2.out HRDD.out hno);clear hno HORT6 HOR;go_wp2;go_ret2;exact RecAns.no HN.out rfl HB6.out
 have HSHT:=hid hT;have HRT:=hid hrT;clear hT hrT HORT6;rcases HOR.out with ⟨l,Ar,cr,hpk,rfl,rfl,hrow⟩ | ⟨hno,rfl⟩
 case inr=>
  have HN:=hid (no_pk HBX2.out HRDD.out HNE.out hno);clear hno HOR;go_wp2;go_ret2;exact RecAns.no HN.out rfl HB6.out
 have HPK:=hid hpk;obtain ⟨AT,cT,rfl⟩:=Fd.zac HRT.out;have htl:=HSHT.out.len;have HTR:=hid (zdv d T Ar AT cr cT w3.heap.size n (ints l) w6 (HLA.out.below HB6.out) HSHT.out HRT.out (by omega) (zaj hrow (Nat.zero_le _)) (by have:=of_decide_eq_false hgt;omega));clear hpk hrow HOR htl;rw[show 3*(n:Int)=((3*n:Nat):Int) by omega];go_wp2_with fail
 refine HTR.out.mono ?_;rintro e w7 ⟨⟨ts,v7,rfl,hmap,hok,hown⟩ | ⟨hno,v7,rfl⟩,hb7⟩
 case inr=>
  have HN:=hid (zkN HBX2.out HRDD.out HNE.out HPK.out hno);have HB7:=hid (HB6.out.trans (hb7.mono HB6.out.size));clear hno hb7;go_wp2;go_ret2;exact RecAns.no HN.out rfl HB7.out
 have HB7:=hid (HB6.out.trans (hb7.mono HB6.out.size));obtain ⟨A0L,rfl⟩:=zf3 hok;have hlen0:A0L.length=n:=by
  have:=congrArg List.length hmap;simp at this;omega
 have hrv:RowV w7 w6.heap.size v7 A0L:=by
  unfold RowV;rw[List.length_map,List.flatMap_map]at hown;exact hown
 have hn100:n<=100:=(by have:=of_decide_eq_false hgt;omega);have HSO:=hid (zhw A0L v7 w6.heap.size w7 hrv (by omega));have HMAP:=hid hmap;clear hown hrv hok hmap hb7 HTR;go_wp2_with fail
 refine HSO.out.mono ?_;rintro e w8 ⟨v8,r,rfl,hsort,hrl,hrow8,hb8⟩;have HB8:=hid (HB7.out.trans (hb8.mono HB7.out.size));have HOF:=hid (zjw r v8 w8 (zaj hrow8 (Nat.zero_le _)) hsort.1 (by omega));have HSORT:Hid (SortOf A0L r):=hid hsort;clear hrow8 hsort hb8 HSO;go_wp2_with fail
 refine HOF.out.mono ?_;rintro e w9 ⟨S,ts,rfl,hst,hb9⟩;have HB9:=hid (HB8.out.trans (hb9.mono HB8.out.size));have HST:=hid hst;clear hst hb9 HOF;have HEN:Hid (∀W,Below w9.heap.size w9 W->Calls prog 32 #[.pointer (some ⟨S,0,none⟩)] W fun e w'=>∃A c,e=.returned (.slice A (fileN ts r).length c)/\w'.ownsRow W.heap.size 5 1 (.slice A (fileN ts r).length c) (fileN ts r).length (Fd.bys (fileN ts r))/\Below W.heap.size W w'):=fun W hW=>zeA S v8 r ts W (HST.out.below hW);have HCV:Hid (∀W,Below w9.heap.size w9 W->(convert 22 9 (.slice AA b.length c)).run prog W=.ok (.string (str b)) W):=fun W hW=>Fd.zaG W _ _ c b (HS.out.below (HB9.out.trans (hW.mono HB9.out.size)));generalize b.length=bl at hc hlen HCV ⊢;go_wp2_with fail
 refine sA 6 [] (fun W=>(convert 22 9 (.slice AA bl c)).run prog W=.ok (.string (str b)) W) ?_ (fun hHeld=>?_)
 · exact HCV.out _ br.drew
 refine pU 0 ?_;refine pU 3 ?_;refine tK 4 hHeld ?_;refine oN 1 (fun K hK=>?_);refine cL func32 #[.pointer (some ⟨S,0,none⟩)] ?_;refine (HEN.out _ br.drew).mono ?_;rintro e w10 ⟨A9,c9,rfl,hown9,hb10⟩;refine ⟨_,rfl,?_⟩;have hb10':Below w9.heap.size w9 w10:=br.drew.trans hb10;have HB10:=hid (HB9.out.trans (hb10'.mono HB9.out.size));have HST10:=hid (HST.out.below hb10');have HCV10:=hid (HCV.out _ hb10');have hcv:=Fd.zaG w10 A9 _ c9 _ (Fd.Seg.of_own hown9);clear hown9 hb10 hb10' HEN HST HCV;refine oU hK HCV10.out (fun hHeld=>?_);clear hK K;refine oN 2 (fun K hK=>?_);refine vA (.string (str (fileN ts r))) (w10) ?_;refine oU hK HCV10.out (fun hHeld=>?_);clear hK K;refine pU 5 ?_;refine done_ (by kernel_rfl) ?_;clear hHeld hcv HCV10;have heq:=zb4 (fileN ts r) b;by_cases hE:fileN ts r=b
 · rw[dT hE]at heq;rw[heq];have HEE:=hid hE;clear hE;go_wp2;go_ret2;exact ⟨.inl ⟨S,v8,r,ts,HEE.out,HST10.out,rfl⟩,HB10.out⟩
 · rw[dF hE]at heq;rw[heq];have HN:=hid (zkO HBX2.out HRDD.out HNE.out HPK.out HMAP.out HSORT.out HST10.out.ok hE);clear hE;go_wp2;go_ret2;exact RecAns.no HN.out rfl HB10.out
end Go.Proofs.YtjcpjopbgngihaaGreatDoor
end
