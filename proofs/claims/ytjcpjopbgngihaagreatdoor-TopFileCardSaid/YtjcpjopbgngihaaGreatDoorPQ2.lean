/- Functions of the program and their contracts, as the kit's print tool wrote them, cut by a program of mine; each theorem states its own conditions. -/
import Derived.Test.YtjcpjopbgngihaaGreatDoorPQ1
set_option maxHeartbeats 16000000
set_option maxRecDepth 1000000
set_option linter.unusedSimpArgs false
set_option linter.unusedVariables false
section
namespace Go.Proofs.YtjcpjopbgngihaaGreatDoor.PTopFile
open Tryz
open Go.RowKit Go.Proofs.YtjcpjopbgngihaaGreatDoorW.PrintWords Go.Proofs.YtjcpjopbgngihaaGreatDoorW.PrintLast Go.Proofs.YtjcpjopbgngihaaGreatDoorW.PrintMore
section
attribute [local go_sem] zaz zax zaJ zaI zam zal zay zaw
mutual
def triviumref9_Sum.l0:Nat->List Int->Int->Int->Option (Int)
 | 0,_,_,_=>none
 | k+1,x0,x3,x4=>if x4<(x0.length:Int) then (if 0<=x4 then (triviumref9_Sum.l1 k x0 (Go.bits .xor .i64 x3 (wrap64 ((wrap64 (rd x0 x4))*65536))) x4 0) else (none)) else (some x3)
def triviumref9_Sum.l1:Nat->List Int->Int->Int->Int->Option (Int)
 | 0,_,_,_,_=>none
 | k+1,x0,x3,x4,x5=>if x5<8 then (if (wrap64 (x3*2))>=16777216 then (triviumref9_Sum.l1 k x0 (Go.bits .xor .i64 (wrap64 (x3*2)) 25578747) x4 (wrap64 (x5+1))) else (triviumref9_Sum.l1 k x0 (wrap64 (x3*2)) x4 (wrap64 (x5+1)))) else (triviumref9_Sum.l0 k x0 x3 (wrap64 (x4+1)))
end
def triviumref9_Sum.f (k:Nat) (l0:List Int):Option (Int):=triviumref9_Sum.l0 k l0 11994318 0
theorem triviumref9_Sum.calls (k:Nat) (A0:Option Addr) (c0:Nat) (l0:List Int) (r:Int) (w:World) (hr0:Kd.C (Kd.int .u8) w A0 l0.length l0) (hc0:l0.length<=c0) (h:triviumref9_Sum.f k l0=some r) :
    Calls Tryz.prog 120 #[.slice A0 l0.length c0] w fun e w'=>e=.returned (.int .i64 r)/\Drawn0 w w':=by
 have HR0:=Aside0.mk hr0;have HC0:=Aside0.mk hc0;clear hr0 hc0;have H:(triviumref9_Sum.l0 k l0 11994318 0)=some r:=h;clear h;have H':=Aside0.mk H;clear H;go_enter func120,ntmps120
 go_wp2;go_loopg [3,4] k (fun kq v3 v4 w'=>∃(x3_1:Int) (x4_1:Int),v3=.int .i64 x3_1/\v4=.int .i64 x4_1/\Aside0 (triviumref9_Sum.l0 kq l0 x3_1 x4_1=some r)/\Aside0 (kq<=k)/\Drawn0 w w')
 case atStart=>exact ⟨(11994318),(0),(by first | rfl | (simp;done) | (simp[*];done)),(by first | rfl | (simp;done) | (simp[*];done)),H',⟨Nat.le_refl _⟩,by repeat (first | exact Drawn0.refl _ | apply Drawn0.step)⟩
 case round=>
  clear H';(try clear c1);obtain ⟨x3_1,x4_1,rfl,rfl,HA,HK1,⟨m1,rfl⟩⟩:=hrel;cases gk with
  | zero=>exact absurd HA.out (by simp[triviumref9_Sum.l0])
  | succ k1=>
   have H:=HA.out;clear HA;simp only[triviumref9_Sum.l0]at H;by_cases c2:x4_1<(l0.length:Int)
   · rw[if_pos c2]at H;have c2b0:decide (x4_1<(l0.length:Int))=true:=decide_eq_true c2;clear c2;by_cases c3:0<=x4_1
     · rw[if_pos c3]at H;have c3b0:decide (0<=x4_1)=true:=decide_eq_true c3;clear c3;have H':=Aside0.mk H;clear H;have p272:0<=(x4_1:Int):=of_decide_eq_true (by first | (with_reducible assumption) | assumption);have q272:x4_1<(l0.length:Int):=of_decide_eq_true (by first | (with_reducible assumption) | assumption);obtain ⟨ad272,e272,hx272_0⟩:=Kd.zbl HR0.out x4_1 p272 q272;cases e272
       replace p272:=eq_true p272
       replace q272:=eq_true q272
       go_wp2;go_loopg [3,5] k1 (fun kq v3 v5 w'=>∃(x3_2:Int) (x5_2:Int),v3=.int .i64 x3_2/\v5=.int .i64 x5_2/\Aside0 (triviumref9_Sum.l1 kq l0 x3_2 x4_1 x5_2=some r)/\Aside0 (kq<=k1)/\Drawn0 w w')
       case atStart=>exact ⟨(Go.bits .xor .i64 x3_1 (wrap64 ((wrap64 (rd l0 x4_1))*65536))),(0),(by first | rfl | (simp;done) | (simp[*];done)),(by first | rfl | (simp;done) | (simp[*];done)),H',⟨Nat.le_refl _⟩,by repeat (first | exact Drawn0.refl _ | apply Drawn0.step)⟩
       case round=>
        clear H';(try clear c1);(try clear c2);(try clear c2b0);(try clear p2);(try clear q2);(try clear hx2);(try clear c3);(try clear c3b0);(try clear hx272_0);(try clear p272);(try clear q272);obtain ⟨x3_2,x5_2,rfl,rfl,HA,HK2,⟨m2,rfl⟩⟩:=hrel;cases gk with
        | zero=>exact absurd HA.out (by simp[triviumref9_Sum.l1])
        | succ k2=>
         have H:=HA.out;clear HA;simp only[triviumref9_Sum.l1]at H;by_cases c4:x5_2<8
         · rw[if_pos c4]at H;have c4b0:decide (x5_2<8)=true:=decide_eq_true c4;clear c4;by_cases c5:(wrap64 (x3_2*2))>=16777216
           · rw[if_pos c5]at H;have c5b0:decide (16777216<=(wrap64 (x3_2*2)))=true:=decide_eq_true c5;clear c5;have H':=Aside0.mk H;clear H;go_wp2;go_roundg k2
             case measure=>have:=HK1.out;have:=HK2.out;omega
             case rel=>exact ⟨(Go.bits .xor .i64 (wrap64 (x3_2*2)) 25578747),(wrap64 (x5_2+1)),(by first | rfl | (simp;done) | (simp[*];done)),(by first | rfl | (simp;done) | (simp[*];done)),H',⟨by have:=HK1.out;have:=HK2.out;omega⟩,by repeat (first | exact Drawn0.refl _ | apply Drawn0.step)⟩
           · rw[if_neg c5]at H;have c5b0:decide (16777216<=(wrap64 (x3_2*2)))=false:=decide_eq_false c5;clear c5;have H':=Aside0.mk H;clear H;go_wp2;go_roundg k2
             case measure=>have:=HK1.out;have:=HK2.out;omega
             case rel=>exact ⟨(wrap64 (x3_2*2)),(wrap64 (x5_2+1)),(by first | rfl | (simp;done) | (simp[*];done)),(by first | rfl | (simp;done) | (simp[*];done)),H',⟨by have:=HK1.out;have:=HK2.out;omega⟩,by repeat (first | exact Drawn0.refl _ | apply Drawn0.step)⟩
         · rw[if_neg c4]at H;have c4b0:decide (x5_2<8)=false:=decide_eq_false c4;clear c4;have H':=Aside0.mk H;clear H;go_wp2;go_roundg k2
           case measure=>have:=HK1.out;have:=HK2.out;omega
           case rel=>exact ⟨(x3_2),(wrap64 (x4_1+1)),(by first | rfl | (simp;done) | (simp[*];done)),(by first | rfl | (simp;done) | (simp[*];done)),H',⟨by have:=HK1.out;have:=HK2.out;omega⟩,by repeat (first | exact Drawn0.refl _ | apply Drawn0.step)⟩
     · rw[if_neg c3]at H;exact absurd H (by simp)
   · rw[if_neg c2]at H;have c2b0:decide (x4_1<(l0.length:Int))=false:=decide_eq_false c2;clear c2;obtain rfl:=Option.some.inj H;go_wp2;go_ret;exact ⟨by first | rfl | (simp;done) | (simp[*];done),by repeat (first | exact Drawn0.refl _ | apply Drawn0.step)⟩
end
section
attribute [local go_sem] zaz zax zaJ zaI zam zal zay zaw
def triviumref10_three.f (a0:Int):Option (List Int):=some (([(a0 / 65536) % 256,(a0 / 256) % 256,(a0) % 256]:List Int))
theorem triviumref10_three.calls (a0:Int) (r:List Int) (w:World) (h:triviumref10_three.f a0=some r) :
    Calls Tryz.prog 119 #[.int .i64 a0] w fun e w'=>∃v0_:Value,e=.returned (v0_)/\Kd.R (Kd.int .u8) 5 w' w.heap.size (fun _=>True) v0_ r/\Below w.heap.size w w':=by
 have HB:=Aside0.mk (Below.refl w.heap.size w);have H:(some (([(a0 / 65536) % 256,(a0 / 256) % 256,(a0) % 256]:List Int)))=some r:=h;clear h;obtain ⟨y269,hy269⟩:∃y_:List Int,y_=(([(a0 / 65536) % 256,(a0 / 256) % 256,(a0) % 256]:List Int)):=⟨_,rfl⟩
 replace H:(some y269)=some r:=by first | (rw[hy269];with_reducible exact H) | (have H2_:=(Option.bind_some _ _).symm.trans H;rw[hy269];with_reducible exact H2_) | (have H2_:=(Option.bind_some _ _).symm.trans H;with_reducible exact H2_) | with_reducible exact H | (rw[hy269];exact H) | exact H
 have Ny269:=Aside0.mk hy269;clear hy269;obtain rfl:=Option.some.inj H;go_enter func119,ntmps119
 go_wp2_with (first | ((with_reducible refine zdi (N:=11) rfl ?_);refine Kd.R_lit (Kd.int .u8) _ 5 ?hg (N:=11) ?hd (xs:=([(a0 / 65536) % 256,(a0 / 256) % 256,(a0) % 256]:List Int)) (inner:=[.int .u8 ((a0 / 65536) % 256),.int .u8 ((a0 / 256) % 256),.int .u8 ((a0) % 256)]) (ok:=fun _=>True) (okp:=fun _=>True) ?hr ?hp (fun _ hk=>hk) trivial (Below.refl _ _) (Nat.le_refl _) (by simp) ?_;(case hd=>rfl);(case hg=>rfl);(case hr=>first | (go_simp;done) | (go_simp;rfl));(case hp=>exact (Reps.one (show Kd.M (Kd.int .u8) _ _ _ ((a0 / 65536) % 256) [.int .u8 ((a0 / 65536) % 256)] from rfl) (Reps.one (show Kd.M (Kd.int .u8) _ _ _ ((a0 / 256) % 256) [.int .u8 ((a0 / 256) % 256)] from rfl) (Reps.one (show Kd.M (Kd.int .u8) _ _ _ ((a0) % 256) [.int .u8 ((a0) % 256)] from rfl) (Reps.none _ _)))));intro v270 w2 ho3 hb hg_ hnew_;clear hg_ hnew_;(first | rw[<-Ny269.out]at ho3 | (simp only[Int.reduceToNat]at ho3;rw[<-Ny269.out]at ho3));have n0_:=Aside0.mk (Kd.zeo ho3 (zbV (by repeat (first | (with_reducible first | exact HB.out | apply zag | apply zad | apply zaf) | exact HB.out))));have n1_:=Aside0.mk (zbt (by repeat (first | (with_reducible first | exact HB.out | apply zag | apply zad | apply zaf) | exact HB.out)) hb);clear HB;have HO271:=n0_;have HB:=n1_;clear n0_ n1_;clear hb ho3))
 go_ret;exact ⟨_,by first | rfl | (simp[zat,zas]<;>rfl) | (simp[*,zat,zas]<;>rfl),by (with_reducible repeat (first | apply Kd.R_alloc | apply Kd.R_drewN | apply Kd.za3));exact HO271.out,by repeat (first | (with_reducible first | exact HB.out | apply zag | apply zad | apply zaf) | exact HB.out)⟩
end
section
attribute [local go_sem] zaz zax zaJ zaI zam zal zay zaw
def bytes_Equal.f (l0:List Int) (l1:List Int):Option (Bool):=some ((strOfNums l0).toList == (strOfNums l1).toList)
theorem bytes_Equal.calls (A0:Option Addr) (c0:Nat) (l0:List Int) (A1:Option Addr) (c1:Nat) (l1:List Int) (r:Bool) (w:World) (hr0:Kd.C (Kd.int .u8) w A0 l0.length l0) (hc0:l0.length<=c0) (hr1:Kd.C (Kd.int .u8) w A1 l1.length l1) (hc1:l1.length<=c1) (h:bytes_Equal.f l0 l1=some r) :
    Calls Tryz.prog 23 #[.slice A0 l0.length c0,.slice A1 l1.length c1] w fun e w'=>e=.returned (.bool r)/\Drawn0 w w':=by
 have HR0:=Aside0.mk hr0;have HC0:=Aside0.mk hc0;clear hr0 hc0;have HR1:=Aside0.mk hr1;have HC1:=Aside0.mk hc1;clear hr1 hc1;have H:(some ((strOfNums l0).toList == (strOfNums l1).toList))=some r:=h;clear h;obtain rfl:=Option.some.inj H;have hcv3:=Kd.C_string (P:=Tryz.prog) (A:=A0) (c:=c0) underlying22 underlying5 underlying9 HR0.out;have hcv4:=Kd.C_string (P:=Tryz.prog) (A:=A1) (c:=c1) underlying22 underlying5 underlying9 HR1.out;go_enter func23,ntmps23
 go_wp2;go_ret;exact ⟨by first | rfl | (simp;done) | (simp[*];done),by repeat (first | exact Drawn0.refl _ | apply Drawn0.step)⟩
end
section
attribute [local go_sem] zaz zax zaJ zaI zam zal zay zaw
def triviumref4_label.l0:Nat->ByteArray->Int->Option (Bool)
 | 0,_,_=>none
 | k+1,x0,x3=>if x3<(x0.size:Int) then (if 0<=x3 then ((triviumref4_Alnum.f (bt x0 x3)).bind fun t363=>(if t363=true then (triviumref4_label.l0 k x0 (wrap64 (x3+1))) else (some false))) else (none)) else (if (x0.size:Int)>=1 then (some (decide ((x0.size:Int)<=8))) else (some false))
def triviumref4_label.f (k:Nat) (a0:ByteArray):Option (Bool):=triviumref4_label.l0 k a0 0
theorem triviumref4_label.calls (k:Nat) (a0:ByteArray) (r:Bool) (w:World) (h:triviumref4_label.f k a0=some r) :
    Calls Tryz.prog 175 #[.string a0] w fun e w'=>e=.returned (.bool r)/\Drawn0 w w':=by
 have H:(triviumref4_label.l0 k a0 0)=some r:=h;clear h;have H':=Aside0.mk H;clear H;go_enter func175,ntmps175
 go_wp2;go_loopg [3] k (fun kq v3 w'=>∃(x3_1:Int),v3=.int .i64 x3_1/\Aside0 (triviumref4_label.l0 kq a0 x3_1=some r)/\Aside0 (kq<=k)/\Drawn0 w w')
 case atStart=>exact ⟨(0),(by first | rfl | (simp;done) | (simp[*];done)),H',⟨Nat.le_refl _⟩,by repeat (first | exact Drawn0.refl _ | apply Drawn0.step)⟩
 case round=>
  clear H';(try clear c1);obtain ⟨x3_1,rfl,HA,HK1,⟨m1,rfl⟩⟩:=hrel;cases gk with
  | zero=>exact absurd HA.out (by simp[triviumref4_label.l0])
  | succ k1=>
   have H:=HA.out;clear HA;simp only[triviumref4_label.l0]at H;by_cases c2:x3_1<(a0.size:Int)
   · rw[if_pos c2]at H;have c2b0:decide (x3_1<(a0.size:Int))=true:=decide_eq_true c2;clear c2;by_cases c3:0<=x3_1
     · rw[if_pos c3]at H;have c3b0:decide (0<=x3_1)=true:=decide_eq_true c3;clear c3
       replace H:=Option.bind_eq_some_iff.mp H
       obtain ⟨t363,A50,H⟩:=H
       replace H:(if t363=true then (triviumref4_label.l0 k1 a0 (wrap64 (x3_1+1))) else (some false))=some r:=H
       have A5:=Aside0.mk A50;clear A50;by_cases c6:t363=true
       · subst c6;have H1:(triviumref4_label.l0 k1 a0 (wrap64 (x3_1+1)))=some r:=(by rw[if_pos rfl]at H;exact H);clear H;have H:=H1;clear H1;have H':=Aside0.mk H;clear H;have p4:0<=(x3_1:Int):=of_decide_eq_true (by first | (with_reducible assumption) | assumption);have q4:x3_1<(a0.size:Int):=of_decide_eq_true (by first | (with_reducible assumption) | assumption);have hx4:=bt_at a0 x3_1
         replace p4:=eq_true p4
         replace q4:=eq_true q4
         go_wp2_with (first | ((with_reducible refine zaK (f:=210) rfl ?_);refine zcv (some 13) rfl rfl func210 (by kernel_rfl) rfl #[.int .u8 (bt a0 x3_1)] rfl (by (try simp only[List.map_toArray,List.map_cons,List.map_nil]);first | done | rfl | (simp only[List.length_drop,List.length_take];rfl)) ?_;(with_reducible refine (triviumref4_Alnum.calls (bt a0 x3_1) true _ A5.out).mono ?_);rintro e w' ⟨rfl,⟨nd,rfl⟩⟩;refine ⟨_,rfl,?_⟩))
         go_roundg k1
         case measure=>have:=HK1.out;omega
         case rel=>exact ⟨(wrap64 (x3_1+1)),(by first | rfl | (simp;done) | (simp[*];done)),H',⟨by have:=HK1.out;omega⟩,by repeat (first | exact Drawn0.refl _ | apply Drawn0.step)⟩
       · replace c6:=Bool.eq_false_iff.mpr c6
         subst c6;have H1:(some false)=some r:=(by rw[if_neg (show ¬(false=true) by decide)]at H;exact H);clear H;have H:=H1;clear H1;obtain rfl:=Option.some.inj H;have p4:0<=(x3_1:Int):=of_decide_eq_true (by first | (with_reducible assumption) | assumption);have q4:x3_1<(a0.size:Int):=of_decide_eq_true (by first | (with_reducible assumption) | assumption);have hx4:=bt_at a0 x3_1
         replace p4:=eq_true p4
         replace q4:=eq_true q4
         go_wp2_with (first | ((with_reducible refine zaK (f:=210) rfl ?_);refine zcv (some 13) rfl rfl func210 (by kernel_rfl) rfl #[.int .u8 (bt a0 x3_1)] rfl (by (try simp only[List.map_toArray,List.map_cons,List.map_nil]);first | done | rfl | (simp only[List.length_drop,List.length_take];rfl)) ?_;(with_reducible refine (triviumref4_Alnum.calls (bt a0 x3_1) false _ A5.out).mono ?_);rintro e w' ⟨rfl,⟨nd,rfl⟩⟩;refine ⟨_,rfl,?_⟩))
         go_ret;exact ⟨by first | rfl | (simp;done) | (simp[*];done),by repeat (first | exact Drawn0.refl _ | apply Drawn0.step)⟩
     · rw[if_neg c3]at H;exact absurd H (by simp)
   · rw[if_neg c2]at H;have c2b0:decide (x3_1<(a0.size:Int))=false:=decide_eq_false c2;clear c2;by_cases c7:(a0.size:Int)>=1
     · rw[if_pos c7]at H;have c7b0:decide (1<=(a0.size:Int))=true:=decide_eq_true c7;have c7b1:decide (1<=a0.size)=true:=decide_eq_true (by omega);clear c7;obtain rfl:=Option.some.inj H;go_wp2;go_ret;exact ⟨by first | rfl | (simp;done) | (simp[*];done),by repeat (first | exact Drawn0.refl _ | apply Drawn0.step)⟩
     · rw[if_neg c7]at H;have c7b0:decide (1<=(a0.size:Int))=false:=decide_eq_false c7;have c7b1:decide (1<=a0.size)=false:=decide_eq_false (by omega);clear c7;obtain rfl:=Option.some.inj H;go_wp2;go_ret;exact ⟨by first | rfl | (simp;done) | (simp[*];done),by repeat (first | exact Drawn0.refl _ | apply Drawn0.step)⟩
end
section
attribute [local go_sem] zaz zax zaJ zaI zam zal zay zaw
def triviumref4_iriRune.f (a0:Int):Option (Bool):=if a0=34 then (some false) else (if a0=60 then (some false) else (if a0=62 then (some false) else (if a0=92 then (some false) else (if a0=94 then (some false) else (if a0=96 then (some false) else (if a0=123 then (some false) else (if a0=124 then (some false) else (if a0=125 then (some false) else (if a0>=33 then (if a0<=126 then (some true) else (some (decide (a0>=160)))) else (some (decide (a0>=160))))))))))))
theorem triviumref4_iriRune.calls (a0:Int) (r:Bool) (w:World) (h:triviumref4_iriRune.f a0=some r) :
    Calls Tryz.prog 212 #[.int .i32 a0] w fun e w'=>e=.returned (.bool r)/\Drawn0 w w':=by
 unfold triviumref4_iriRune.f at h;repeat' split at h
 all_goals first
 | (exfalso;omega)
 | (obtain rfl:=Option.some.inj h
    clear h
    (try simp only[ge_iff_le,Int.not_le]at *)
    go_enter func212,ntmps212
    go_wp2;go_ret;exact ⟨by first | rfl | (simp;done) | (simp[*];done) | (simp[*];omega),by repeat (first | exact Drawn0.refl _ | apply Drawn0.step)⟩)
end
section
attribute [local go_sem] zaz zax zaJ zaI zam zal zay zaw
def triviumref2_Width.l0:Nat->Int->Int->Option (Int)
 | 0,_,_=>none
 | k+1,x0,x3=>if x0 > 0 then (triviumref2_Width.l0 k (x0 / 2) (wrap64 (x3+1))) else (some x3)
def triviumref2_Width.f (k:Nat) (a0:Int):Option (Int):=triviumref2_Width.l0 k a0 0
theorem triviumref2_Width.mono_l:∀k,(∀y0 y1,LeO (triviumref2_Width.l0 k y0 y1) (triviumref2_Width.l0 (k+1) y0 y1))
 | 0=>fun _ _ r h=>by simp[triviumref2_Width.l0]at h
 | k+1=>by
  have ih0:=triviumref2_Width.mono_l k
  · intro y0 y1;unfold triviumref2_Width.l0;repeat' first
    | (with_reducible exact ih0 _ _)
    | (with_reducible exact LeO.refl _)
    | (with_reducible exact LeO.none _)
    | (with_reducible refine LeO.ite ?_ ?_)
    | (with_reducible refine LeO.bind ?_ (fun _=>?_))
    | exact ih0 _ _
    | exact LeO.none _
    | refine LeO.ite ?_ ?_
    | refine LeO.bind ?_ (fun _=>?_)
theorem triviumref2_Width.mono:∀a0 k,LeO (triviumref2_Width.f k a0) (triviumref2_Width.f (k+1) a0):=by
 intro a0 k;have ih0:=triviumref2_Width.mono_l k;unfold triviumref2_Width.f
 repeat' first
     | (with_reducible exact ih0 _ _)
     | (with_reducible exact LeO.refl _)
     | (with_reducible exact LeO.none _)
     | (with_reducible refine LeO.ite ?_ ?_)
     | (with_reducible refine LeO.bind ?_ (fun _=>?_))
     | exact ih0 _ _
     | exact LeO.none _
     | refine LeO.ite ?_ ?_
     | refine LeO.bind ?_ (fun _=>?_)
theorem triviumref2_Width.calls (k:Nat) (a0:Int) (r:Int) (w:World) (h:triviumref2_Width.f k a0=some r) :
    Calls Tryz.prog 28 #[.int .i64 a0] w fun e w'=>e=.returned (.int .i64 r)/\Drawn0 w w':=by
 have H:(triviumref2_Width.l0 k a0 0)=some r:=h;clear h;have H':=Aside0.mk H;clear H;go_enter func28,ntmps28
 go_wp2;go_loopg [0,3] k (fun kq v0 v3 w'=>∃(x0_1:Int) (x3_1:Int),v0=.int .i64 x0_1/\v3=.int .i64 x3_1/\Aside0 (triviumref2_Width.l0 kq x0_1 x3_1=some r)/\Aside0 (kq<=k)/\Drawn0 w w')
 case atStart=>exact ⟨(a0),(0),(by first | rfl | (simp;done) | (simp[*];done)),(by first | rfl | (simp;done) | (simp[*];done)),H',⟨Nat.le_refl _⟩,by repeat (first | exact Drawn0.refl _ | apply Drawn0.step)⟩
 case round=>
  clear H';obtain ⟨x0_1,x3_1,rfl,rfl,HA,HK1,⟨m1,rfl⟩⟩:=hrel;cases gk with
  | zero=>exact absurd HA.out (by simp[triviumref2_Width.l0])
  | succ k1=>
   have H:=HA.out;clear HA;simp only[triviumref2_Width.l0]at H;by_cases c2:x0_1 > 0
   · rw[if_pos c2]at H;have c2b0:decide (0<x0_1)=true:=decide_eq_true c2;clear c2;have H':=Aside0.mk H;clear H;go_wp2;go_roundg k1
     case measure=>have:=HK1.out;omega
     case rel=>exact ⟨(x0_1 / 2),(wrap64 (x3_1+1)),(by first | rfl | (simp;done) | (simp[*];done)),(by first | rfl | (simp;done) | (simp[*];done)),H',⟨by have:=HK1.out;omega⟩,by repeat (first | exact Drawn0.refl _ | apply Drawn0.step)⟩
   · rw[if_neg c2]at H;have c2b0:decide (0<x0_1)=false:=decide_eq_false c2;clear c2;obtain rfl:=Option.some.inj H;go_wp2;go_ret;exact ⟨by first | rfl | (simp;done) | (simp[*];done),by repeat (first | exact Drawn0.refl _ | apply Drawn0.step)⟩
end
section
attribute [local go_sem] zaz zax zaJ zaI zam zal zay zaw
mutual
def triviumref2_May.j0:Nat->List Int->Int->Bool->Option (Bool)
 | 0,_,_,_=>none
 | k+1,x0,x1,x16=>if x16=true then (some false) else (triviumref2_May.l0 k x0 x1 0)
def triviumref2_May.l0:Nat->List Int->Int->Int->Option (Bool)
 | 0,_,_,_=>none
 | k+1,x0,x1,x5=>if x5<(x0.length:Int) then (if 0<=x5 then (if (rd x0 x5)<0 then (some false) else ((triviumref2_Width.f k (rd x0 x5)).bind fun t382=>(if t382 > x1 then (some false) else (triviumref2_May.l0 k x0 x1 (wrap64 (x5+1)))))) else (none)) else (some true)
end
def triviumref2_May.f (k:Nat) (l0:List Int) (a1:Int):Option (Bool):=if a1<0 then (triviumref2_May.j0 k l0 a1 true) else (if a1 > 20 then (triviumref2_May.j0 k l0 a1 true) else (triviumref2_May.j0 k l0 a1 (decide ((l0.length:Int) > 1000))))
theorem triviumref2_May.mono_l:∀k,(∀y0 y1 y2,LeO (triviumref2_May.j0 k y0 y1 y2) (triviumref2_May.j0 (k+1) y0 y1 y2))/\(∀y0 y1 y2,LeO (triviumref2_May.l0 k y0 y1 y2) (triviumref2_May.l0 (k+1) y0 y1 y2))
 | 0=>⟨fun _ _ _ r h=>by simp[triviumref2_May.j0]at h,fun _ _ _ r h=>by simp[triviumref2_May.l0]at h⟩
 | k+1=>by
  obtain ⟨ih0,ih1⟩:=triviumref2_May.mono_l k;refine ⟨?_,?_⟩
  · intro y0 y1 y2;unfold triviumref2_May.j0;repeat' first
    | (with_reducible exact ih0 _ _ _)
    | (with_reducible exact ih1 _ _ _)
    | (with_reducible exact triviumref2_Width.mono _ _)
    | (with_reducible exact LeO.refl _)
    | (with_reducible exact LeO.none _)
    | (with_reducible refine LeO.ite ?_ ?_)
    | (with_reducible refine LeO.bind ?_ (fun _=>?_))
    | exact ih0 _ _ _
    | exact ih1 _ _ _
    | exact triviumref2_Width.mono _ _
    | exact LeO.none _
    | refine LeO.ite ?_ ?_
    | refine LeO.bind ?_ (fun _=>?_)
  · intro y0 y1 y2;unfold triviumref2_May.l0;repeat' first
    | (with_reducible exact ih0 _ _ _)
    | (with_reducible exact ih1 _ _ _)
    | (with_reducible exact triviumref2_Width.mono _ _)
    | (with_reducible exact LeO.refl _)
    | (with_reducible exact LeO.none _)
    | (with_reducible refine LeO.ite ?_ ?_)
    | (with_reducible refine LeO.bind ?_ (fun _=>?_))
    | exact ih0 _ _ _
    | exact ih1 _ _ _
    | exact triviumref2_Width.mono _ _
    | exact LeO.none _
    | refine LeO.ite ?_ ?_
    | refine LeO.bind ?_ (fun _=>?_)
theorem triviumref2_May.mono:∀a0 a1 k,LeO (triviumref2_May.f k a0 a1) (triviumref2_May.f (k+1) a0 a1):=by
 intro a0 a1 k;obtain ⟨ih0,ih1⟩:=triviumref2_May.mono_l k;unfold triviumref2_May.f
 repeat' first
     | (with_reducible exact ih0 _ _ _)
     | (with_reducible exact ih1 _ _ _)
     | (with_reducible exact triviumref2_Width.mono _ _)
     | (with_reducible exact LeO.refl _)
     | (with_reducible exact LeO.none _)
     | (with_reducible refine LeO.ite ?_ ?_)
     | (with_reducible refine LeO.bind ?_ (fun _=>?_))
     | exact ih0 _ _ _
     | exact ih1 _ _ _
     | exact triviumref2_Width.mono _ _
     | exact LeO.none _
     | refine LeO.ite ?_ ?_
     | refine LeO.bind ?_ (fun _=>?_)
theorem triviumref2_May.calls (k:Nat) (A0:Option Addr) (c0:Nat) (l0:List Int) (a1:Int) (r:Bool) (w:World) (hr0:Kd.C (Kd.int .i64) w A0 l0.length l0) (hc0:l0.length<=c0) (h:triviumref2_May.f k l0 a1=some r) :
    Calls Tryz.prog 123 #[.slice A0 l0.length c0,.int .i64 a1] w fun e w'=>e=.returned (.bool r)/\Drawn0 w w':=by
 have HR0:=Aside0.mk hr0;have HC0:=Aside0.mk hc0;clear hr0 hc0;have H:(if a1<0 then (triviumref2_May.j0 k l0 a1 true) else (if a1 > 20 then (triviumref2_May.j0 k l0 a1 true) else (triviumref2_May.j0 k l0 a1 (decide ((l0.length:Int) > 1000)))))=some r:=h;clear h;have HC3:=Aside0.mk H;clear H;go_enter func123,ntmps123
 go_upto_region 1 with (fail)
 go_cut [16] (fun v16 wc=>∃(kq:Nat) (x16_2:Bool),v16=.bool x16_2/\Aside0 (triviumref2_May.j0 kq l0 a1 x16_2=some r)/\Aside0 (kq<=k)/\Drawn0 w wc)
 case first=>
  have H:=HC3.out;clear HC3;by_cases c4:a1<0
  · rw[if_pos c4]at H;have c4b0:decide (a1<0)=true:=decide_eq_true c4;clear c4
    (first | rw[c4b0] | (simp only[i64_w,i32_w];rw[c4b0]) | skip)
    have H':=Aside0.mk H;clear H;go_wp2;go_meet
    case rel=>exact ⟨_,(true),(by first | rfl | (simp;done) | (simp[*];done)),H',⟨by first | omega | exact Nat.le_refl _⟩,by repeat (first | exact Drawn0.refl _ | apply Drawn0.step)⟩
  · rw[if_neg c4]at H;have c4b0:decide (a1<0)=false:=decide_eq_false c4;clear c4
    (first | rw[c4b0] | (simp only[i64_w,i32_w];rw[c4b0]) | skip)
    by_cases c5:a1 > 20
    · rw[if_pos c5]at H;have c5b0:decide (20<a1)=true:=decide_eq_true c5;clear c5;have H':=Aside0.mk H;clear H;go_wp2;go_meet
      case rel=>exact ⟨_,(true),(by first | rfl | (simp;done) | (simp[*];done)),H',⟨by first | omega | exact Nat.le_refl _⟩,by repeat (first | exact Drawn0.refl _ | apply Drawn0.step)⟩
    · rw[if_neg c5]at H;have c5b0:decide (20<a1)=false:=decide_eq_false c5;clear c5;have H':=Aside0.mk H;clear H;go_wp2;go_meet
      case rel=>exact ⟨_,(decide ((l0.length:Int) > 1000)),(by first | rfl | (simp;done) | (simp[*];done)),H',⟨by first | omega | exact Nat.le_refl _⟩,by repeat (first | exact Drawn0.refl _ | apply Drawn0.step)⟩
 case rest=>
  clear HC3;(try clear c1);(try clear p2);(try clear c4);(try clear c4b0);(try clear c5);(try clear c5b0);obtain ⟨kq,x16_2,rfl,HA,HJ2,⟨mc2,rfl⟩⟩:=hcut;cases kq with
  | zero=>exact absurd HA.out (by simp[triviumref2_May.j0])
  | succ kj2=>
   have H:=HA.out;clear HA;simp only[triviumref2_May.j0]at H;by_cases c6:x16_2=true
   · subst c6;have H1:(some false)=some r:=(by rw[if_pos rfl]at H;exact H);clear H;have H:=H1;clear H1;obtain rfl:=Option.some.inj H;go_wp2;go_ret;exact ⟨by first | rfl | (simp;done) | (simp[*];done),by repeat (first | exact Drawn0.refl _ | apply Drawn0.step)⟩
   · replace c6:=Bool.eq_false_iff.mpr c6
     subst c6;have H1:(triviumref2_May.l0 kj2 l0 a1 0)=some r:=(by rw[if_neg (show ¬(false=true) by decide)]at H;exact H);clear H;have H:=H1;clear H1;have H':=Aside0.mk H;clear H;go_wp2;go_loopg [5] kj2 (fun kq v5 w'=>∃(x5_2:Int),v5=.int .i64 x5_2/\Aside0 (triviumref2_May.l0 kq l0 a1 x5_2=some r)/\Aside0 (kq<=kj2)/\Drawn0 w w')
     case atStart=>exact ⟨(0),(by first | rfl | (simp;done) | (simp[*];done)),H',⟨Nat.le_refl _⟩,by repeat (first | exact Drawn0.refl _ | apply Drawn0.step)⟩
     case round=>
      clear H';(try clear c1);(try clear c2);(try clear p2);(try clear c4);(try clear c4b0);(try clear c5);(try clear c5b0);(try clear c6);(try clear p2);obtain ⟨x5_2,rfl,HA,HK2,⟨m2,rfl⟩⟩:=hrel;cases gk with
      | zero=>exact absurd HA.out (by simp[triviumref2_May.l0])
      | succ k2=>
       have H:=HA.out;clear HA;simp only[triviumref2_May.l0]at H;by_cases c7:x5_2<(l0.length:Int)
       · rw[if_pos c7]at H;have c7b0:decide (x5_2<(l0.length:Int))=true:=decide_eq_true c7;clear c7;by_cases c8:0<=x5_2
         · rw[if_pos c8]at H;have c8b0:decide (0<=x5_2)=true:=decide_eq_true c8;clear c8;by_cases c9:(rd l0 x5_2)<0
           · rw[if_pos c9]at H;have c9b0:decide ((rd l0 x5_2)<0)=true:=decide_eq_true c9;clear c9;obtain rfl:=Option.some.inj H;have p380:0<=(x5_2:Int):=of_decide_eq_true (by first | (with_reducible assumption) | assumption);have q380:x5_2<(l0.length:Int):=of_decide_eq_true (by first | (with_reducible assumption) | assumption);obtain ⟨ad380,e380,hx380_0⟩:=Kd.zbl HR0.out x5_2 p380 q380;cases e380
             replace p380:=eq_true p380
             replace q380:=eq_true q380
             go_wp2;go_ret;exact ⟨by first | rfl | (simp;done) | (simp[*];done),by repeat (first | exact Drawn0.refl _ | apply Drawn0.step)⟩
           · rw[if_neg c9]at H;have c9b0:decide ((rd l0 x5_2)<0)=false:=decide_eq_false c9;clear c9
             replace H:=Option.bind_eq_some_iff.mp H
             obtain ⟨t382,A100,H⟩:=H
             replace H:(if t382 > a1 then (some false) else (triviumref2_May.l0 k2 l0 a1 (wrap64 (x5_2+1))))=some r:=H
             have A10:=Aside0.mk A100;clear A100;by_cases c11:t382 > a1
             · rw[if_pos c11]at H;have c11b0:decide (a1<t382)=true:=decide_eq_true c11;clear c11;obtain rfl:=Option.some.inj H;have p380:0<=(x5_2:Int):=of_decide_eq_true (by first | (with_reducible assumption) | assumption);have q380:x5_2<(l0.length:Int):=of_decide_eq_true (by first | (with_reducible assumption) | assumption);obtain ⟨ad380,e380,hx380_0⟩:=Kd.zbl HR0.out x5_2 p380 q380;cases e380
               replace p380:=eq_true p380
               replace q380:=eq_true q380
               have p381:0<=(x5_2:Int):=of_decide_eq_true (by first | (with_reducible assumption) | assumption);have q381:x5_2<(l0.length:Int):=of_decide_eq_true (by first | (with_reducible assumption) | assumption);obtain ⟨ad381,e381,hx381_0⟩:=Kd.zbl HR0.out x5_2 p381 q381;obtain rfl:ad380=ad381:=(by injection e381)
               replace p381:=eq_true p381
               replace q381:=eq_true q381
               go_wp2_with (first | (go_at_call 28;(with_reducible refine (triviumref2_Width.calls k2 (rd l0 x5_2) t382 _ A10.out).mono ?_);rintro e w' ⟨rfl,⟨nd,rfl⟩⟩))
               go_ret;exact ⟨by first | rfl | (simp;done) | (simp[*];done),by repeat (first | exact Drawn0.refl _ | apply Drawn0.step)⟩
             · rw[if_neg c11]at H;have c11b0:decide (a1<t382)=false:=decide_eq_false c11;clear c11;have H':=Aside0.mk H;clear H;have p380:0<=(x5_2:Int):=of_decide_eq_true (by first | (with_reducible assumption) | assumption);have q380:x5_2<(l0.length:Int):=of_decide_eq_true (by first | (with_reducible assumption) | assumption);obtain ⟨ad380,e380,hx380_0⟩:=Kd.zbl HR0.out x5_2 p380 q380;cases e380
               replace p380:=eq_true p380
               replace q380:=eq_true q380
               have p381:0<=(x5_2:Int):=of_decide_eq_true (by first | (with_reducible assumption) | assumption);have q381:x5_2<(l0.length:Int):=of_decide_eq_true (by first | (with_reducible assumption) | assumption);obtain ⟨ad381,e381,hx381_0⟩:=Kd.zbl HR0.out x5_2 p381 q381;obtain rfl:ad380=ad381:=(by injection e381)
               replace p381:=eq_true p381
               replace q381:=eq_true q381
               go_wp2_with (first | (go_at_call 28;(with_reducible refine (triviumref2_Width.calls k2 (rd l0 x5_2) t382 _ A10.out).mono ?_);rintro e w' ⟨rfl,⟨nd,rfl⟩⟩))
               go_roundg k2
               case measure=>have:=HJ2.out;have:=HK2.out;omega
               case rel=>exact ⟨(wrap64 (x5_2+1)),(by first | rfl | (simp;done) | (simp[*];done)),H',⟨by have:=HJ2.out;have:=HK2.out;omega⟩,by repeat (first | exact Drawn0.refl _ | apply Drawn0.step)⟩
         · rw[if_neg c8]at H;exact absurd H (by simp)
       · rw[if_neg c7]at H;have c7b0:decide (x5_2<(l0.length:Int))=false:=decide_eq_false c7;clear c7;obtain rfl:=Option.some.inj H;go_wp2;go_ret;exact ⟨by first | rfl | (simp;done) | (simp[*];done),by repeat (first | exact Drawn0.refl _ | apply Drawn0.step)⟩
end
section
attribute [local go_sem] zaz zax zaJ zaI zam zal zay zaw
mutual
def triviumref2_Pack.l0:Nat->List Int->Int->List Int->Int->Option (List Int × Int)
 | 0,_,_,_,_=>none
 | k+1,x0,x1,x6,x7=>if x7<(x0.length:Int) then (triviumref2_Pack.l1 k x0 x1 x6 x7 0) else (some (x6,0))
def triviumref2_Pack.l1:Nat->List Int->Int->List Int->Int->Int->Option (List Int × Int)
 | 0,_,_,_,_,_=>none
 | k+1,x0,x1,x6,x7,x8=>if x8<x1 then (if 0<=(wrap64 (Int.tdiv (wrap64 ((wrap64 (x7*x1))+x8)) 8)) then (if (wrap64 (Int.tdiv (wrap64 ((wrap64 (x7*x1))+x8)) 8))<(x6.length:Int) then (if 0<=x7 then (if x7<(x0.length:Int) then (if 0<=(IntKind.u64.wrap (x8)) then (if 0<=(IntKind.u64.wrap (Int.tmod (wrap64 ((wrap64 (x7*x1))+x8)) 8)) then (triviumref2_Pack.l1 k x0 x1 (x6.set ((wrap64 (Int.tdiv (wrap64 ((wrap64 (x7*x1))+x8)) 8)):Int).toNat (Go.bits .or .u8 (rd x6 (wrap64 (Int.tdiv (wrap64 ((wrap64 (x7*x1))+x8)) 8))) (shl .u8 ((Go.bits .and .i64 (shr .i64 (rd x0 x7) (IntKind.u64.wrap (x8))) 1) % 256) (IntKind.u64.wrap (Int.tmod (wrap64 ((wrap64 (x7*x1))+x8)) 8))))) x7 (wrap64 (x8+1))) else (none)) else (none)) else (none)) else (none)) else (none)) else (none)) else (triviumref2_Pack.l0 k x0 x1 x6 (wrap64 (x7+1)))
end
def triviumref2_Pack.f (k:Nat) (l0:List Int) (a1:Int):Option (List Int × Int):=(triviumref2_May.f k l0 a1).bind fun t383=>(if t383=true then (if 0<=(wrap64 (Int.tdiv (wrap64 ((wrap64 ((l0.length:Int)*a1))+7)) 8)) then (if (wrap64 (Int.tdiv (wrap64 ((wrap64 ((l0.length:Int)*a1))+7)) 8):Int).toNat<=281474976710656 then (triviumref2_Pack.l0 k l0 a1 (List.replicate (wrap64 (Int.tdiv (wrap64 ((wrap64 ((l0.length:Int)*a1))+7)) 8):Int).toNat 0) 0) else (none)) else (none)) else (some (([]:List Int),1)))
theorem triviumref2_Pack.mono_l:∀k,(∀y0 y1 y2 y3,LeO (triviumref2_Pack.l0 k y0 y1 y2 y3) (triviumref2_Pack.l0 (k+1) y0 y1 y2 y3))/\(∀y0 y1 y2 y3 y4,LeO (triviumref2_Pack.l1 k y0 y1 y2 y3 y4) (triviumref2_Pack.l1 (k+1) y0 y1 y2 y3 y4))
 | 0=>⟨fun _ _ _ _ r h=>by simp[triviumref2_Pack.l0]at h,fun _ _ _ _ _ r h=>by simp[triviumref2_Pack.l1]at h⟩
 | k+1=>by
  obtain ⟨ih0,ih1⟩:=triviumref2_Pack.mono_l k;refine ⟨?_,?_⟩
  · intro y0 y1 y2 y3;unfold triviumref2_Pack.l0;repeat' first
    | (with_reducible exact ih0 _ _ _ _)
    | (with_reducible exact ih1 _ _ _ _ _)
    | (with_reducible exact triviumref2_May.mono _ _ _)
    | (with_reducible exact LeO.refl _)
    | (with_reducible exact LeO.none _)
    | (with_reducible refine LeO.ite ?_ ?_)
    | (with_reducible refine LeO.bind ?_ (fun _=>?_))
    | exact ih0 _ _ _ _
    | exact ih1 _ _ _ _ _
    | exact triviumref2_May.mono _ _ _
    | exact LeO.none _
    | refine LeO.ite ?_ ?_
    | refine LeO.bind ?_ (fun _=>?_)
  · intro y0 y1 y2 y3 y4;unfold triviumref2_Pack.l1;repeat' first
    | (with_reducible exact ih0 _ _ _ _)
    | (with_reducible exact ih1 _ _ _ _ _)
    | (with_reducible exact triviumref2_May.mono _ _ _)
    | (with_reducible exact LeO.refl _)
    | (with_reducible exact LeO.none _)
    | (with_reducible refine LeO.ite ?_ ?_)
    | (with_reducible refine LeO.bind ?_ (fun _=>?_))
    | exact ih0 _ _ _ _
    | exact ih1 _ _ _ _ _
    | exact triviumref2_May.mono _ _ _
    | exact LeO.none _
    | refine LeO.ite ?_ ?_
    | refine LeO.bind ?_ (fun _=>?_)
def triviumref2_Pack.T11:Bool × List (List Nat × List Nat):=(true,[([],[]),([],[]),([1],[1]),([],[]),([],[]),([4],[4]),([3,5],[3,5]),([6],[6]),([],[]),([],[]),([8,9],[8,9]),([10],[10]),([],[]),([12],[12]),([11,13],[11,13]),([14],[14]),([15],[15]),([],[]),([17],[17]),([18],[18]),([16,19],[16,19]),([7,20],[7,20]),([0,2,0,1,2,3,4,5,6,7,8,9,10,11,12,13,14,15,16,17,18,19,20,21],[0,2]),([22,21,0,1,2,3,4,5,6,7,8,9,10,11,12,13,14,15,16,17,18,19,20,21],[21,22])])
def triviumref2_Pack.B11:List Nat:=[0,0,2,0,0,16,56,120,0,0,768,1792,0,4096,16128,32512,65280,0,131072,393216,1048320,2097144,4194303,8388607]
theorem triviumref2_Pack.tab11:rtab .any (opsOf f77 11)=triviumref2_Pack.T11:=by kernel_rfl
theorem triviumref2_Pack.bits11:waitsOk triviumref2_Pack.T11.2 triviumref2_Pack.B11=true:=by kernel_rfl
theorem triviumref2_Pack.calls (k:Nat) (A0:Option Addr) (c0:Nat) (l0:List Int) (a1:Int) (r1:List Int) (r2:Int) (w:World) (hr0:Kd.C (Kd.int .i64) w A0 l0.length l0) (hc0:l0.length<=c0) (h:triviumref2_Pack.f k l0 a1=some (r1,r2)) :
    Calls Tryz.prog 77 #[.slice A0 l0.length c0,.int .i64 a1] w fun e w'=>∃v0_:Value,e=.returned (.tuple #[v0_,.int .i64 r2])/\Kd.R (Kd.int .u8) 5 w' w.heap.size (fun _=>True) v0_ r1/\Below w.heap.size w w':=by
 have HR0:=Aside0.mk hr0;have HC0:=Aside0.mk hc0;clear hr0 hc0;have HB:=Aside0.mk (Below.refl w.heap.size w);have H:((triviumref2_May.f k l0 a1).bind fun t383=>(if t383=true then (if 0<=(wrap64 (Int.tdiv (wrap64 ((wrap64 ((l0.length:Int)*a1))+7)) 8)) then (if (wrap64 (Int.tdiv (wrap64 ((wrap64 ((l0.length:Int)*a1))+7)) 8):Int).toNat<=281474976710656 then (triviumref2_Pack.l0 k l0 a1 (List.replicate (wrap64 (Int.tdiv (wrap64 ((wrap64 ((l0.length:Int)*a1))+7)) 8):Int).toNat 0) 0) else (none)) else (none)) else (some (([]:List Int),1))))=some (r1,r2):=h;clear h
 replace H:=Option.bind_eq_some_iff.mp H
 obtain ⟨t383,A30,H⟩:=H
 replace H:(if t383=true then (if 0<=(wrap64 (Int.tdiv (wrap64 ((wrap64 ((l0.length:Int)*a1))+7)) 8)) then (if (wrap64 (Int.tdiv (wrap64 ((wrap64 ((l0.length:Int)*a1))+7)) 8):Int).toNat<=281474976710656 then (triviumref2_Pack.l0 k l0 a1 (List.replicate (wrap64 (Int.tdiv (wrap64 ((wrap64 ((l0.length:Int)*a1))+7)) 8):Int).toNat 0) 0) else (none)) else (none)) else (some (([]:List Int),1)))=some (r1,r2):=H
 have A3:=Aside0.mk A30;clear A30;by_cases c4:t383=true
 · subst c4;have H1:(if 0<=(wrap64 (Int.tdiv (wrap64 ((wrap64 ((l0.length:Int)*a1))+7)) 8)) then (if (wrap64 (Int.tdiv (wrap64 ((wrap64 ((l0.length:Int)*a1))+7)) 8):Int).toNat<=281474976710656 then (triviumref2_Pack.l0 k l0 a1 (List.replicate (wrap64 (Int.tdiv (wrap64 ((wrap64 ((l0.length:Int)*a1))+7)) 8):Int).toNat 0) 0) else (none)) else (none))=some (r1,r2):=(by rw[if_pos rfl]at H;exact H);clear H;have H:=H1;clear H1;obtain ⟨ji5,hji5⟩:∃j_:Int,(wrap64 (Int.tdiv (wrap64 ((wrap64 ((l0.length:Int)*a1))+7)) 8))=j_:=⟨_,rfl⟩
   replace H:(if 0<=(ji5) then (if (ji5:Int).toNat<=281474976710656 then (triviumref2_Pack.l0 k l0 a1 (List.replicate (ji5:Int).toNat 0) 0) else (none)) else (none))=some (r1,r2):=by first | (rw[hji5]at H;exact H) | (simp only[hji5]at H ⊢;exact H)
   (try rw[hji5]at A3)
   have hji5w:(IntKind.i64.wrap (Int.tdiv (wrap64 ((wrap64 ((l0.length:Int)*a1))+7)) 8))=ji5:=(i64_w _).trans hji5;by_cases c6:0<=(ji5)
   · rw[if_pos c6]at H;have c6b0:=eq_true c6;have c6b1:decide (0<=(ji5))=true:=decide_eq_true c6;clear c6;by_cases c7:(ji5:Int).toNat<=281474976710656
     · rw[if_pos c7]at H;have c7b0:=eq_true c7;have c7b1:decide ((ji5:Int).toNat<=281474976710656)=true:=decide_eq_true c7;clear c7;obtain ⟨y384,hy384⟩:∃y_:List Int,y_=(List.replicate (ji5:Int).toNat 0):=⟨_,rfl⟩
       replace H:(triviumref2_Pack.l0 k l0 a1 y384 0)=some (r1,r2):=by first | (rw[hy384];with_reducible exact H) | (have H2_:=(Option.bind_some _ _).symm.trans H;rw[hy384];with_reducible exact H2_) | (have H2_:=(Option.bind_some _ _).symm.trans H;with_reducible exact H2_) | with_reducible exact H | (rw[hy384];exact H) | exact H
       have Ny384:=Aside0.mk hy384;clear hy384;have H':=Aside0.mk H;clear H;go_enter func77,ntmps77
       go_wp2_with (first | ((with_reducible refine zaK (f:=123) rfl ?_);refine zcv (some 12) rfl rfl func123 (by kernel_rfl) rfl #[.slice A0 l0.length c0,.int .i64 a1] rfl (by (try simp only[List.map_toArray,List.map_cons,List.map_nil]);first | done | rfl | (simp only[List.length_drop,List.length_take];rfl)) ?_;(with_reducible refine (triviumref2_May.calls k _ _ l0 a1 true _ ?side1 ?side2 A3.out).mono ?_);(case side1=>repeat (first | exact HR0.out | (with_reducible refine Kd.C_alloc ?_ _) | (with_reducible refine Kd.C_drewN ?_ _) | (with_reducible refine Kd.C_drew ?_)));(case side2=>exact HC0.out);rintro e w' ⟨rfl,⟨nd,rfl⟩⟩;refine ⟨_,rfl,?_⟩) | ((with_reducible refine zdi (N:=20) rfl ?_);refine Kd.znY (Kd.int .u8) _ 5 rfl (N:=20) rfl 22 _ _ rfl ji5 rfl rfl underlying22 (.int .u8 0) 1 info5 rfl (by decide) (by omega) 0 (ok:=fun _=>True) (okp:=fun _=>True) rfl (fun _ hk=>hk) trivial (of_decide_eq_true (by first | (with_reducible assumption) | assumption)) (Nat.le_trans (Nat.mul_le_mul_right _ (of_decide_eq_true (by first | (with_reducible assumption) | assumption):ji5.toNat<=281474976710656)) (by omega)) (Below.refl _ _) (Nat.le_refl _) ?_;intro v385 w8 ho9 hb hg_ hnew_;clear hg_ hnew_;(first | rw[<-Ny384.out]at ho9 | (simp only[Int.reduceToNat]at ho9;rw[<-Ny384.out]at ho9));have n0_:=Aside0.mk (Kd.zeo ho9 (zbV (by repeat (first | (with_reducible first | exact HB.out | apply zag | apply zad | apply zaf) | exact HB.out))));have n1_:=Aside0.mk (zbt (by repeat (first | (with_reducible first | exact HB.out | apply zag | apply zad | apply zaf) | exact HB.out)) hb);clear HB;have HO386:=n0_;have HB:=n1_;clear n0_ n1_;clear hb ho9))
       go_loopg [7] k (fun kq v7 w'=>∃(x6_1:List Int) (x7_1:Int),v7=.int .i64 x7_1/\Aside0 (triviumref2_Pack.l0 kq l0 a1 x6_1 x7_1=some (r1,r2))/\Aside0 (kq<=k)/\Aside0 (Kd.R (Kd.int .u8) 5 w' w.heap.size (fun _=>True) v385 x6_1)/\Aside0 (Below w.heap.size w w'))
       case atStart=>exact ⟨(y384),(0),(by first | rfl | (simp;done) | (simp[*];done)),H',⟨Nat.le_refl _⟩,⟨by (with_reducible repeat (first | apply Kd.R_alloc | apply Kd.R_drewN | apply Kd.za3));exact HO386.out⟩,⟨by repeat (first | (with_reducible first | exact HB.out | apply zag | apply zad | apply zaf) | exact HB.out)⟩⟩
       case round=>
        clear H';(try clear c1);(try clear p2);(try clear c4);(try clear c6);(try clear c6b0);(try clear c6b1);(try clear p6);(try clear c7);(try clear c7b0);(try clear c7b1);obtain ⟨x6_1,x7_1,rfl,HA,HK1,HO_6,HB⟩:=hrel;cases gk with
        | zero=>exact absurd HA.out (by simp[triviumref2_Pack.l0])
        | succ k1=>
         have H:=HA.out;clear HA;simp only[triviumref2_Pack.l0]at H;by_cases c10:x7_1<(l0.length:Int)
         · rw[if_pos c10]at H;have c10b0:decide (x7_1<(l0.length:Int))=true:=decide_eq_true c10;clear c10;have H':=Aside0.mk H;clear H;go_wp2;go_loopg [8] k1 (fun kq v8 w'=>∃(x6_2:List Int) (x8_2:Int),v8=.int .i64 x8_2/\Aside0 (triviumref2_Pack.l1 kq l0 a1 x6_2 x7_1 x8_2=some (r1,r2))/\Aside0 (kq<=k1)/\Aside0 (Kd.R (Kd.int .u8) 5 w' w.heap.size (fun _=>True) v385 x6_2)/\Aside0 (Below w.heap.size w w'))
           case atStart=>exact ⟨(x6_1),(0),(by first | rfl | (simp;done) | (simp[*];done)),H',⟨Nat.le_refl _⟩,⟨by (with_reducible repeat (first | apply Kd.R_alloc | apply Kd.R_drewN | apply Kd.za3));exact HO_6.out⟩,⟨by repeat (first | (with_reducible first | exact HB.out | apply zag | apply zad | apply zaf) | exact HB.out)⟩⟩
           case round=>
            clear H';(try clear c1);(try clear p2);(try clear c4);(try clear c6);(try clear c6b0);(try clear c6b1);(try clear p6);(try clear c7);(try clear c7b0);(try clear c7b1);(try clear c10);(try clear c10b0);(try clear p2);(try clear p6);obtain ⟨x6_2,x8_2,rfl,HA,HK2,HO_6,HB⟩:=hrel;cases gk with
            | zero=>exact absurd HA.out (by simp[triviumref2_Pack.l1])
            | succ k2=>
             have H:=HA.out;clear HA;simp only[triviumref2_Pack.l1]at H;by_cases c11:x8_2<a1
             · rw[if_pos c11]at H;have c11b0:decide (x8_2<a1)=true:=decide_eq_true c11;clear c11;obtain ⟨ji12,hji12⟩:∃j_:Int,(wrap64 (Int.tdiv (wrap64 ((wrap64 (x7_1*a1))+x8_2)) 8))=j_:=⟨_,rfl⟩
               replace H:(if 0<=(ji12) then (if (ji12)<(x6_2.length:Int) then (if 0<=x7_1 then (if x7_1<(l0.length:Int) then (if 0<=(IntKind.u64.wrap (x8_2)) then (if 0<=(IntKind.u64.wrap (Int.tmod (wrap64 ((wrap64 (x7_1*a1))+x8_2)) 8)) then (triviumref2_Pack.l1 k2 l0 a1 (x6_2.set ((ji12):Int).toNat (Go.bits .or .u8 (rd x6_2 (ji12)) (shl .u8 ((Go.bits .and .i64 (shr .i64 (rd l0 x7_1) (IntKind.u64.wrap (x8_2))) 1) % 256) (IntKind.u64.wrap (Int.tmod (wrap64 ((wrap64 (x7_1*a1))+x8_2)) 8))))) x7_1 (wrap64 (x8_2+1))) else (none)) else (none)) else (none)) else (none)) else (none)) else (none))=some (r1,r2):=by first | (rw[hji12]at H;exact H) | (simp only[hji12]at H ⊢;exact H)
               have hji12w:(IntKind.i64.wrap (Int.tdiv (wrap64 ((wrap64 (x7_1*a1))+x8_2)) 8))=ji12:=(i64_w _).trans hji12;by_cases c13:0<=(ji12)
               · rw[if_pos c13]at H;have c13b0:decide (0<=(ji12))=true:=decide_eq_true c13;clear c13;by_cases c14:(ji12)<(x6_2.length:Int)
                 · rw[if_pos c14]at H;have c14b0:decide ((ji12)<(x6_2.length:Int))=true:=decide_eq_true c14;clear c14;by_cases c15:0<=x7_1
                   · rw[if_pos c15]at H;have c15b0:decide (0<=x7_1)=true:=decide_eq_true c15;clear c15;by_cases c16:x7_1<(l0.length:Int)
                     · rw[if_pos c16]at H;have c16b0:decide (x7_1<(l0.length:Int))=true:=decide_eq_true c16;clear c16;obtain ⟨ji17,hji17⟩:∃j_:Int,(IntKind.u64.wrap (x8_2))=j_:=⟨_,rfl⟩
                       replace H:(if 0<=(ji17) then (if 0<=(IntKind.u64.wrap (Int.tmod (wrap64 ((wrap64 (x7_1*a1))+x8_2)) 8)) then (triviumref2_Pack.l1 k2 l0 a1 (x6_2.set ((ji12):Int).toNat (Go.bits .or .u8 (rd x6_2 (ji12)) (shl .u8 ((Go.bits .and .i64 (shr .i64 (rd l0 x7_1) (ji17)) 1) % 256) (IntKind.u64.wrap (Int.tmod (wrap64 ((wrap64 (x7_1*a1))+x8_2)) 8))))) x7_1 (wrap64 (x8_2+1))) else (none)) else (none))=some (r1,r2):=by first | (rw[hji17]at H;exact H) | (simp only[hji17]at H ⊢;exact H)
                       by_cases c18:0<=(ji17)
                       · rw[if_pos c18]at H;have c18b0:=eq_true c18;have c18b1:decide (0<=(ji17))=true:=decide_eq_true c18;clear c18;obtain ⟨ji19,hji19⟩:∃j_:Int,(shr .i64 (rd l0 x7_1) (ji17))=j_:=⟨_,rfl⟩
                         replace H:(if 0<=(IntKind.u64.wrap (Int.tmod (wrap64 ((wrap64 (x7_1*a1))+x8_2)) 8)) then (triviumref2_Pack.l1 k2 l0 a1 (x6_2.set ((ji12):Int).toNat (Go.bits .or .u8 (rd x6_2 (ji12)) (shl .u8 ((Go.bits .and .i64 (ji19) 1) % 256) (IntKind.u64.wrap (Int.tmod (wrap64 ((wrap64 (x7_1*a1))+x8_2)) 8))))) x7_1 (wrap64 (x8_2+1))) else (none))=some (r1,r2):=by first | (rw[hji19]at H;exact H) | (simp only[hji19]at H ⊢;exact H)
                         have hji19_:((rd l0 x7_1) / 2 ^ min (ji17).toNat 64)=ji19:=hji19;have hji19z:(ji17)<=64->((rd l0 x7_1) / 2 ^ (ji17).toNat)=ji19:=zgh hji19;obtain ⟨ji20,hji20⟩:∃j_:Int,(IntKind.u64.wrap (Int.tmod (wrap64 ((wrap64 (x7_1*a1))+x8_2)) 8))=j_:=⟨_,rfl⟩
                         replace H:(if 0<=(ji20) then (triviumref2_Pack.l1 k2 l0 a1 (x6_2.set ((ji12):Int).toNat (Go.bits .or .u8 (rd x6_2 (ji12)) (shl .u8 ((Go.bits .and .i64 (ji19) 1) % 256) (ji20)))) x7_1 (wrap64 (x8_2+1))) else (none))=some (r1,r2):=by first | (rw[hji20]at H;exact H) | (simp only[hji20]at H ⊢;exact H)
                         by_cases c21:0<=(ji20)
                         · rw[if_pos c21]at H;have c21b0:=eq_true c21;have c21b1:decide (0<=(ji20))=true:=decide_eq_true c21;clear c21;obtain ⟨ji22,hji22⟩:∃j_:Int,(shl .u8 ((Go.bits .and .i64 (ji19) 1) % 256) (ji20))=j_:=⟨_,rfl⟩
                           replace H:(triviumref2_Pack.l1 k2 l0 a1 (x6_2.set ((ji12):Int).toNat (Go.bits .or .u8 (rd x6_2 (ji12)) (ji22))) x7_1 (wrap64 (x8_2+1)))=some (r1,r2):=by first | (rw[hji22]at H;exact H) | (simp only[hji22]at H ⊢;exact H)
                           have hji22_:(IntKind.u8.wrap (((Go.bits .and .i64 (ji19) 1) % 256)*2 ^ min (ji20).toNat 8))=ji22:=hji22;have hji22z:(ji20)<=8->(IntKind.u8.wrap (((Go.bits .and .i64 (ji19) 1) % 256)*2 ^ (ji20).toNat))=ji22:=zgj hji22;obtain ⟨y389,hy389⟩:∃y_:List Int,y_=(x6_2.set ((ji12):Int).toNat (Go.bits .or .u8 (rd x6_2 (ji12)) (ji22))):=⟨_,rfl⟩
                           replace H:(triviumref2_Pack.l1 k2 l0 a1 y389 x7_1 (wrap64 (x8_2+1)))=some (r1,r2):=by first | (rw[hy389];with_reducible exact H) | (have H2_:=(Option.bind_some _ _).symm.trans H;rw[hy389];with_reducible exact H2_) | (have H2_:=(Option.bind_some _ _).symm.trans H;with_reducible exact H2_) | with_reducible exact H | (rw[hy389];exact H) | exact H
                           have Ny389:=Aside0.mk hy389;clear hy389;have H':=Aside0.mk H;clear H;try go_wp2
                           have n0_:=Aside0.mk (Kd.za3 HO_6.out);have n1_:=Aside0.mk (zaf HB.out);clear HO_6;clear HB;have HO_6:=n0_;have HB:=n1_;clear n0_ n1_;obtain ⟨Ao25,co25,eo25⟩:=Kd.zlS HO_6.out
                           (first | subst eo25 | (injection eo25 with f1_ f2_ f3_;have f4_:=f1_.symm;have f5_:=f3_.symm;clear f1_ f2_ f3_;subst f4_;subst f5_))
                           have p387:0<=((ji12):Int):=of_decide_eq_true (by first | (with_reducible assumption) | assumption);have q387:(ji12)<(x6_2.length:Int):=of_decide_eq_true (by first | (with_reducible assumption) | assumption);obtain ⟨ad387,e387,hx387_0⟩:=Kd.zbl (Kd.zdm HO_6.out).2.2 (ji12) p387 q387;cases e387
                           replace p387:=eq_true p387
                           replace q387:=eq_true q387
                           have p388:0<=(x7_1:Int):=of_decide_eq_true (by first | (with_reducible assumption) | assumption);have q388:x7_1<(l0.length:Int):=of_decide_eq_true (by first | (with_reducible assumption) | assumption);obtain ⟨ad388,e388,hx388_0⟩:=Kd.zbl HR0.out x7_1 p388 q388;have hw388_0:=hx388_0;cases e388
                           replace hx388_0:=(HB.out.cell (World.block_lt_of_cell? w _ hx388_0)).trans hx388_0
                           replace p388:=eq_true p388
                           replace q388:=eq_true q388
                           have p23:0<=((ji12):Int):=of_decide_eq_true (by first | (with_reducible assumption) | assumption);have q23:((ji12):Int)<((x6_2.length:Int):Int):=of_decide_eq_true (by first | (with_reducible assumption) | assumption);obtain ⟨go23,co23,eo23,gb23,gl23,cl23,HG23⟩:=Kd.znZ HO_6.out (by omega)
                           (first | cases eo23 | (injection eo23 with ea_ en_ ec_;(first | subst ea_ | (injection ea_ with ea_;subst ea_));subst ec_;clear en_))
                           have GB23:=Aside0.mk gb23;have GG23:=Aside0.mk HG23;clear gb23 gl23 HG23
                           (first | simp only[add_plain]at hx387_0 | skip)
                           obtain ⟨hx23_0,hf23_0⟩:=Kd.zlT 0 HO_6.out ((ji12):Int) p23 q23
                           replace p23:=eq_true p23
                           replace q23:=eq_true q23
                           have HP26:=Kd.znV HO_6.out ((ji12):Int) (Go.bits .or .u8 (rd x6_2 (ji12)) (ji22));rw[<-Ny389.out]at HP26;have HQ26:=Aside0.mk HP26;clear HP26;refine zbI (n:=24) (S:=fun w'=>w'.cell? ⟨go23,((ji12)).toNat,none⟩=some (.int .u8 (rd x6_2 (ji12)))/\w'.cell? (ad388.add (x7_1).toNat)=some (.int .i64 (rd l0 x7_1))) (ds:=[23]) #[false,false,false,false,false,false,false,false,false,false,false,false,false,false,false,false,false,false,false,false,false,false,false,false] (by kernel_rfl) rfl rfl ⟨hx387_0,((HB.out.cell (World.block_lt_of_cell? w _ hw388_0)).trans hw388_0)⟩ (fun hHeld=>?_);refine zfZ triviumref2_Pack.tab11 triviumref2_Pack.bits11 (fun HT_ HW_=>?_)
                           generalize wr.drew=w24 at HO_6 HB GG23 HQ26 hf23_0 hx23_0 hx387_0 hx388_0 hHeld ⊢;refine pX 0 HT_.out ?_;refine pX 1 HT_.out ?_;refine pX 2 HT_.out ?_;refine pX 3 HT_.out ?_;refine pX 4 HT_.out ?_;refine pX 5 HT_.out ?_;refine pX 6 HT_.out ?_;refine pX 8 HT_.out ?_;refine pX 9 HT_.out ?_;refine pX 10 HT_.out ?_;refine pX 12 HT_.out ?_;refine pX 13 HT_.out ?_;refine pX 17 HT_.out ?_;refine pX 18 HT_.out ?_;refine pX 19 HT_.out ?_;refine tX 7 HT_.out HW_.out hHeld ?_;refine tX 11 HT_.out HW_.out hHeld ?_;refine pX 14 HT_.out ?_;refine pX 15 HT_.out ?_;refine pX 16 HT_.out ?_;refine pX 20 HT_.out ?_;refine pX 21 HT_.out ?_;refine pX 22 HT_.out ?_;refine last_ (i:=23) (N:=none) #[true,true,true,true,true,true,true,true,true,true,true,true,true,true,true,true,true,true,true,true,true,true,true,true] rfl rfl (znH HT_.out (by kernel_rfl)) (by decide) (fun K hK=>?_);refine skip_ (w1:=?_) (by rfl) rfl ?_ ?_;rotate_left
                           · go_simp;rfl
                           refine hK.out _ _ ?_;clear hK K;refine done_ (zlG HT_.out (by kernel_rfl)) ?_;try go_wp2
                           go_roundg k2
                           case measure=>have:=HK1.out;have:=HK2.out;omega
                           case rel=>exact ⟨(y389),(wrap64 (x8_2+1)),(by first | rfl | (simp;done) | (simp[*];done)),H',⟨by have:=HK1.out;have:=HK2.out;omega⟩,⟨by (with_reducible repeat (first | apply Kd.R_alloc | apply Kd.R_drewN | apply Kd.za3));first | exact HQ26.out | (have h_:=HQ26.out;rw[<-hji22_,IntKind.wrap_u8]at h_;exact h_)⟩,⟨by repeat (first | (with_reducible first | exact HB.out | apply zag | apply zad | apply zaf | refine zha ?_ GB23.out) | exact HB.out)⟩⟩
                         · rw[if_neg c21]at H;exact absurd H (by simp)
                       · rw[if_neg c18]at H;exact absurd H (by simp)
                     · rw[if_neg c16]at H;exact absurd H (by simp)
                   · rw[if_neg c15]at H;exact absurd H (by simp)
                 · rw[if_neg c14]at H;exact absurd H (by simp)
               · rw[if_neg c13]at H;exact absurd H (by simp)
             · rw[if_neg c11]at H;have c11b0:decide (x8_2<a1)=false:=decide_eq_false c11;clear c11;have H':=Aside0.mk H;clear H;go_wp2;go_roundg k2
               case measure=>have:=HK1.out;have:=HK2.out;omega
               case rel=>exact ⟨(x6_2),(wrap64 (x7_1+1)),(by first | rfl | (simp;done) | (simp[*];done)),H',⟨by have:=HK1.out;have:=HK2.out;omega⟩,⟨by (with_reducible repeat (first | apply Kd.R_alloc | apply Kd.R_drewN | apply Kd.za3));exact HO_6.out⟩,⟨by repeat (first | (with_reducible first | exact HB.out | apply zag | apply zad | apply zaf) | exact HB.out)⟩⟩
         · rw[if_neg c10]at H;have c10b0:decide (x7_1<(l0.length:Int))=false:=decide_eq_false c10;clear c10;simp only[Option.some.injEq,Prod.mk.injEq]at H;obtain ⟨rfl,rfl⟩:=H;go_wp2;go_ret2;exact ⟨_,by first | rfl | (simp[zat,zas]<;>rfl) | (simp only[<-hji5];first | rfl | (simp[zat,zas]<;>rfl)) | (simp[*,zat,zas]<;>rfl),by (with_reducible repeat (first | apply Kd.R_alloc | apply Kd.R_drewN | apply Kd.za3));exact HO_6.out,by repeat (first | (with_reducible first | exact HB.out | apply zag | apply zad | apply zaf) | exact HB.out)⟩
     · rw[if_neg c7]at H;exact absurd H (by simp)
   · rw[if_neg c6]at H;exact absurd H (by simp)
 · replace c4:=Bool.eq_false_iff.mpr c4
   subst c4;have H1:(some (([]:List Int),1))=some (r1,r2):=(by rw[if_neg (show ¬(false=true) by decide)]at H;exact H);clear H;have H:=H1;clear H1;simp only[Option.some.injEq,Prod.mk.injEq]at H;obtain ⟨rfl,rfl⟩:=H;go_enter func77,ntmps77
   go_wp2_with (first | ((with_reducible refine zaK (f:=123) rfl ?_);refine zcv (some 12) rfl rfl func123 (by kernel_rfl) rfl #[.slice A0 l0.length c0,.int .i64 a1] rfl (by (try simp only[List.map_toArray,List.map_cons,List.map_nil]);first | done | rfl | (simp only[List.length_drop,List.length_take];rfl)) ?_;(with_reducible refine (triviumref2_May.calls k _ _ l0 a1 false _ ?side1 ?side2 A3.out).mono ?_);(case side1=>repeat (first | exact HR0.out | (with_reducible refine Kd.C_alloc ?_ _) | (with_reducible refine Kd.C_drewN ?_ _) | (with_reducible refine Kd.C_drew ?_)));(case side2=>exact HC0.out);rintro e w' ⟨rfl,⟨nd,rfl⟩⟩;refine ⟨_,rfl,?_⟩))
   go_ret2;exact ⟨_,by first | rfl | (simp[zat,zas]<;>rfl) | (simp[*,zat,zas]<;>rfl),by first | exact Kd.R_nil _ _ _ _ _ | exact Kd.N_nil _ _ _ _ _ | exact Kd.V_nil _ _ _ _ _ | exact Kd.Q_nil _ _ _ _ _ | exact Kd.S_nil _ _ _ _ _,by repeat (first | (with_reducible first | exact HB.out | apply zag | apply zad | apply zaf) | exact HB.out)⟩
end
end Go.Proofs.YtjcpjopbgngihaaGreatDoor.PTopFile
end
