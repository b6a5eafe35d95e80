/- Functions of the program and their contracts, as the kit's print tool wrote them, cut by a program of mine; each theorem states its own conditions. -/
import Derived.Test.YtaeiifngjglchaaGreatDoorPQ1
set_option maxHeartbeats 16000000
set_option maxRecDepth 1000000
set_option linter.unusedSimpArgs false
set_option linter.unusedVariables false
section
namespace Go.Proofs.YtaeiifngjglchaaGreatDoor.PTopFile
open Go.Proofs.Tryz
open Go.RowKit Go.Proofs.YtaeiifngjglchaaGreatDoorW.PrintWords Go.Proofs.YtaeiifngjglchaaGreatDoorW.PrintLast Go.Proofs.YtaeiifngjglchaaGreatDoorW.PrintMore
section
attribute [local go_sem] zaB zaz zaQ zaP zav zau zaA zay
mutual
def crc_Sum.l0:Nat->Int->List (List Int)->Int->Int->Option (Int)
 | 0,_,_,_,_=>none
 | k+1,x3,x8,x9,x10=>if x10<x9 then (if 0<=x10 then (if x10<(x8.length:Int) then (crc_Sum.l1 k x3 x8 x9 x10 (rd_L5 x8 x10) ((rd_L5 x8 x10).length:Int) 0) else (none)) else (none)) else (some x3)
def crc_Sum.l1:Nat->Int->List (List Int)->Int->Int->List Int->Int->Int->Option (Int)
 | 0,_,_,_,_,_,_,_=>none
 | k+1,x3,x8,x9,x10,x14,x15,x16=>if x16<x15 then (if 0<=x16 then (if x16<(x14.length:Int) then ((crc_one.f k x3 (rd x14 x16)).bind fun t340=>(crc_Sum.l1 k t340 x8 x9 x10 x14 x15 (wrap64 (x16+1)))) else (none)) else (none)) else (crc_Sum.l0 k x3 x8 x9 (wrap64 (x10+1)))
end
def crc_Sum.f (k:Nat) (l0:List (List Int)):Option (Int):=crc_Sum.l0 k 11994318 l0 (l0.length:Int) 0
theorem crc_Sum.calls (k:Nat) (A0:Option Addr) (c0:Nat) (l0:List (List Int)) (r:Int) (w:World) (hr0:Kd.C (Kd.slice 5 (Kd.int .u8)) w A0 l0.length l0) (hc0:l0.length<=c0) (h:crc_Sum.f k l0=some r) :
    Calls Tryz.prog 102 #[.slice A0 l0.length c0] w fun e w'=>e=.returned (.int .i64 r)/\Drawn0 w w':=by
 have HR0:=Aside0.mk hr0;have HC0:=Aside0.mk hc0;clear hr0 hc0;have H:(crc_Sum.l0 k 11994318 l0 (l0.length:Int) 0)=some r:=h;clear h;have H':=Aside0.mk H;clear H;go_enter func102,ntmps102
 go_wp2;go_loopg [3,10] k (fun kq v3 v10 w'=>∃(x3_1:Int) (x10_1:Int),v3=.int .i64 x3_1/\v10=.int .i64 x10_1/\Aside0 (crc_Sum.l0 kq x3_1 l0 (l0.length:Int) x10_1=some r)/\Aside0 (kq<=k)/\Drawn0 w w')
 case atStart=>exact ⟨(11994318),(0),(by first | rfl | (simp;done) | (simp[*];done)),(by first | rfl | (simp;done) | (simp[*];done)),H',⟨Nat.le_refl _⟩,by repeat (first | exact Drawn0.refl _ | apply Drawn0.step)⟩
 case round=>
  clear H';(try clear c1);obtain ⟨x3_1,x10_1,rfl,rfl,HA,HK1,⟨m1,rfl⟩⟩:=hrel;cases gk with
  | zero=>exact absurd HA.out (by simp[crc_Sum.l0])
  | succ k1=>
   have H:=HA.out;clear HA;simp only[crc_Sum.l0]at H;by_cases c2:x10_1<(l0.length:Int)
   · rw[if_pos c2]at H;have c2b0:decide (x10_1<(l0.length:Int))=true:=decide_eq_true c2;clear c2;by_cases c3:0<=x10_1
     · rw[if_pos c3]at H;have c3b0:decide (0<=x10_1)=true:=decide_eq_true c3;clear c3;by_cases c4:x10_1<(l0.length:Int)
       · rw[if_pos c4]at H;have c4b0:decide (x10_1<(l0.length:Int))=true:=decide_eq_true c4;clear c4;have H':=Aside0.mk H;clear H;have p338:0<=(x10_1:Int):=of_decide_eq_true (by first | (with_reducible assumption) | assumption);have q338:x10_1<(l0.length:Int):=of_decide_eq_true (by first | (with_reducible assumption) | assumption);obtain ⟨ad338,A338_0,c338_0,e338,hx338_0,hl338_0,hi338_0⟩:=at_L5 HR0.out x10_1 p338 q338;cases e338
         have HR338_0:=Aside0.mk hi338_0;have HC338_0:=Aside0.mk hl338_0;clear hi338_0 hl338_0
         replace p338:=eq_true p338
         replace q338:=eq_true q338
         go_wp2;go_loopg [3,16] k1 (fun kq v3 v16 w'=>∃(x3_2:Int) (x16_2:Int),v3=.int .i64 x3_2/\v16=.int .i64 x16_2/\Aside0 (crc_Sum.l1 kq x3_2 l0 (l0.length:Int) x10_1 (rd_L5 l0 x10_1) ((rd_L5 l0 x10_1).length:Int) x16_2=some r)/\Aside0 (kq<=k1)/\Drawn0 w w')
         case atStart=>exact ⟨(x3_1),(0),(by first | rfl | (simp;done) | (simp[*];done)),(by first | rfl | (simp;done) | (simp[*];done)),H',⟨Nat.le_refl _⟩,by repeat (first | exact Drawn0.refl _ | apply Drawn0.step)⟩
         case round=>
          clear H';(try clear c1);(try clear c2);(try clear c2b0);(try clear p2);(try clear c3);(try clear c3b0);(try clear p3);(try clear q3);(try clear hx3);(try clear c4);(try clear c4b0);(try clear hx338_0);(try clear p338);(try clear q338);obtain ⟨x3_2,x16_2,rfl,rfl,HA,HK2,⟨m2,rfl⟩⟩:=hrel;cases gk with
          | zero=>exact absurd HA.out (by simp[crc_Sum.l1])
          | succ k2=>
           have H:=HA.out;clear HA;simp only[crc_Sum.l1]at H;by_cases c5:x16_2<((rd_L5 l0 x10_1).length:Int)
           · rw[if_pos c5]at H;have c5b0:decide (x16_2<((rd_L5 l0 x10_1).length:Int))=true:=decide_eq_true c5;clear c5;by_cases c6:0<=x16_2
             · rw[if_pos c6]at H;have c6b0:decide (0<=x16_2)=true:=decide_eq_true c6;clear c6;by_cases c7:x16_2<((rd_L5 l0 x10_1).length:Int)
               · rw[if_pos c7]at H;have c7b0:decide (x16_2<((rd_L5 l0 x10_1).length:Int))=true:=decide_eq_true c7;clear c7
                 replace H:=Option.bind_eq_some_iff.mp H
                 obtain ⟨t340,A80,H⟩:=H
                 replace H:(crc_Sum.l1 k2 t340 l0 (l0.length:Int) x10_1 (rd_L5 l0 x10_1) ((rd_L5 l0 x10_1).length:Int) (wrap64 (x16_2+1)))=some r:=H
                 have A8:=Aside0.mk A80;clear A80;have H':=Aside0.mk H;clear H;have p339:0<=(x16_2:Int):=of_decide_eq_true (by first | (with_reducible assumption) | assumption);have q339:x16_2<((rd_L5 l0 x10_1).length:Int):=of_decide_eq_true (by first | (with_reducible assumption) | assumption);obtain ⟨ad339,e339,hx339_0⟩:=Kd.zeQ HR338_0.out x16_2 p339 q339;cases e339
                 replace p339:=eq_true p339
                 replace q339:=eq_true q339
                 go_wp2_with (first | ((with_reducible refine zaR (f:=150) rfl ?_);refine zdS (some 22) rfl rfl func150 (by kernel_rfl) rfl #[.int .i64 x3_2,.int .u8 (rd (rd_L5 l0 x10_1) x16_2)] rfl (by (try simp only[List.map_toArray,List.map_cons,List.map_nil]);first | done | rfl | (simp only[List.length_drop,List.length_take];rfl)) ?_;(with_reducible refine (crc_one.calls k2 x3_2 (rd (rd_L5 l0 x10_1) x16_2) t340 _ A8.out).mono ?_);rintro e w' ⟨rfl,⟨nd,rfl⟩⟩;refine ⟨_,rfl,?_⟩))
                 go_roundg k2
                 case measure=>have:=HK1.out;have:=HK2.out;omega
                 case rel=>exact ⟨(t340),(wrap64 (x16_2+1)),(by first | rfl | (simp;done) | (simp[*];done)),(by first | rfl | (simp;done) | (simp[*];done)),H',⟨by have:=HK1.out;have:=HK2.out;omega⟩,by repeat (first | exact Drawn0.refl _ | apply Drawn0.step)⟩
               · rw[if_neg c7]at H;exact absurd H (by simp)
             · rw[if_neg c6]at H;exact absurd H (by simp)
           · rw[if_neg c5]at H;have c5b0:decide (x16_2<((rd_L5 l0 x10_1).length:Int))=false:=decide_eq_false c5;clear c5;have H':=Aside0.mk H;clear H;go_wp2;go_roundg k2
             case measure=>have:=HK1.out;have:=HK2.out;omega
             case rel=>exact ⟨(x3_2),(wrap64 (x10_1+1)),(by first | rfl | (simp;done) | (simp[*];done)),(by first | rfl | (simp;done) | (simp[*];done)),H',⟨by have:=HK1.out;have:=HK2.out;omega⟩,by repeat (first | exact Drawn0.refl _ | apply Drawn0.step)⟩
       · rw[if_neg c4]at H;exact absurd H (by simp)
     · rw[if_neg c3]at H;exact absurd H (by simp)
   · rw[if_neg c2]at H;have c2b0:decide (x10_1<(l0.length:Int))=false:=decide_eq_false c2;clear c2;obtain rfl:=Option.some.inj H;go_wp2;go_ret;exact ⟨by first | rfl | (simp;done) | (simp[*];done),by repeat (first | exact Drawn0.refl _ | apply Drawn0.step)⟩
end
section
attribute [local go_sem] zaB zaz zaQ zaP zav zau zaA zay
def box_laid.f (a0:Int):Option (List Int):=some (([(a0 / 65536) % 256,(a0 / 256) % 256,(a0) % 256]:List Int))
theorem box_laid.calls (a0:Int) (r:List Int) (w:World) (h:box_laid.f a0=some r) :
    Calls Tryz.prog 101 #[.int .i64 a0] w fun e w'=>∃v0_:Value,e=.returned (v0_)/\Kd.R (Kd.int .u8) 5 w' w.heap.size (fun _=>True) v0_ r/\Below w.heap.size w w':=by
 have HB:=Aside0.mk (Below.refl w.heap.size w);have H:(some (([(a0 / 65536) % 256,(a0 / 256) % 256,(a0) % 256]:List Int)))=some r:=h;clear h;obtain ⟨y335,hy335⟩:∃y_:List Int,y_=(([(a0 / 65536) % 256,(a0 / 256) % 256,(a0) % 256]:List Int)):=⟨_,rfl⟩
 replace H:(some y335)=some r:=by first | (rw[hy335];with_reducible exact H) | (have H2_:=(Option.bind_some _ _).symm.trans H;rw[hy335];with_reducible exact H2_) | (have H2_:=(Option.bind_some _ _).symm.trans H;with_reducible exact H2_) | with_reducible exact H | (rw[hy335];exact H) | exact H
 have Ny335:=Aside0.mk hy335;clear hy335;obtain rfl:=Option.some.inj H;go_enter func101,ntmps101
 go_wp2_with (first | ((with_reducible refine ziu (N:=11) rfl ?_);refine Kd.R_lit (Kd.int .u8) _ 5 ?hg (N:=11) ?hd (xs:=([(a0 / 65536) % 256,(a0 / 256) % 256,(a0) % 256]:List Int)) (inner:=[.int .u8 ((a0 / 65536) % 256),.int .u8 ((a0 / 256) % 256),.int .u8 ((a0) % 256)]) (ok:=fun _=>True) (okp:=fun _=>True) ?hr ?hp (fun _ hk=>hk) trivial (Below.refl _ _) (Nat.le_refl _) (by simp) ?_;(case hd=>rfl);(case hg=>rfl);(case hr=>first | (go_simp;done) | (go_simp;rfl));(case hp=>exact (Reps.one (show Kd.M (Kd.int .u8) _ _ _ ((a0 / 65536) % 256) [.int .u8 ((a0 / 65536) % 256)] from rfl) (Reps.one (show Kd.M (Kd.int .u8) _ _ _ ((a0 / 256) % 256) [.int .u8 ((a0 / 256) % 256)] from rfl) (Reps.one (show Kd.M (Kd.int .u8) _ _ _ ((a0) % 256) [.int .u8 ((a0) % 256)] from rfl) (Reps.none _ _)))));intro v336 w2 ho3 hb hg_ hnew_;clear hg_ hnew_;(first | rw[<-Ny335.out]at ho3 | (simp only[Int.reduceToNat]at ho3;rw[<-Ny335.out]at ho3));have n0_:=Aside0.mk (Kd.zhU ho3 (zeP (by repeat (first | (with_reducible first | exact HB.out | apply zak | apply zae | apply zaj) | exact HB.out))));have n1_:=Aside0.mk (zcH (by repeat (first | (with_reducible first | exact HB.out | apply zak | apply zae | apply zaj) | exact HB.out)) hb);clear HB;have HO337:=n0_;have HB:=n1_;clear n0_ n1_;clear hb ho3))
 go_ret;exact ⟨_,by first | rfl | (simp[zaJ,zaI]<;>rfl) | (simp[*,zaJ,zaI]<;>rfl),by (with_reducible repeat (first | apply Kd.R_alloc | apply Kd.R_drewN | apply Kd.zbP));exact HO337.out,by repeat (first | (with_reducible first | exact HB.out | apply zak | apply zae | apply zaj) | exact HB.out)⟩
end
section
attribute [local go_sem] zaB zaz zaQ zaP zav zau zaA zay
def box_number.f (l0:List Int):Option (Int):=if 0<(l0.length:Int) then (if 1<(l0.length:Int) then (if 2<(l0.length:Int) then (some (Go.bits .or .i64 (Go.bits .or .i64 (wrap64 ((wrap64 (rd l0 0))*65536)) (wrap64 ((wrap64 (rd l0 1))*256))) (wrap64 (rd l0 2)))) else (none)) else (none)) else (none)
theorem box_number.calls (A0:Option Addr) (c0:Nat) (l0:List Int) (r:Int) (w:World) (hr0:Kd.C (Kd.int .u8) w A0 l0.length l0) (hc0:l0.length<=c0) (h:box_number.f l0=some r) :
    Calls Tryz.prog 78 #[.slice A0 l0.length c0] w fun e w'=>e=.returned (.int .i64 r)/\Drawn0 w w':=by
 have HR0:=Aside0.mk hr0;have HC0:=Aside0.mk hc0;clear hr0 hc0;have H:(if 0<(l0.length:Int) then (if 1<(l0.length:Int) then (if 2<(l0.length:Int) then (some (Go.bits .or .i64 (Go.bits .or .i64 (wrap64 ((wrap64 (rd l0 0))*65536)) (wrap64 ((wrap64 (rd l0 1))*256))) (wrap64 (rd l0 2)))) else (none)) else (none)) else (none))=some r:=h;clear h;by_cases c2:0<(l0.length:Int)
 · rw[if_pos c2]at H;have c2b0:decide (0<(l0.length:Int))=true:=decide_eq_true c2;have c2b1:decide (0<l0.length)=true:=decide_eq_true (by omega);clear c2;by_cases c3:1<(l0.length:Int)
   · rw[if_pos c3]at H;have c3b0:decide (1<(l0.length:Int))=true:=decide_eq_true c3;have c3b1:decide (1<l0.length)=true:=decide_eq_true (by omega);clear c3;by_cases c4:2<(l0.length:Int)
     · rw[if_pos c4]at H;have c4b0:decide (2<(l0.length:Int))=true:=decide_eq_true c4;have c4b1:decide (2<l0.length)=true:=decide_eq_true (by omega);clear c4;obtain rfl:=Option.some.inj H;have p352:0<=(0:Int):=(by omega);have q352:0<(l0.length:Int):=of_decide_eq_true (by first | (with_reducible assumption) | assumption);obtain ⟨ad352,e352,hx352_0⟩:=Kd.zeQ HR0.out 0 p352 q352;cases e352
       have qi352:(0<l0.length)=True:=eq_true (by omega)
       (try rw[show ((0:Int)).toNat=0 from rfl]at hx352_0)
       (try rw[Addr.add_zero']at hx352_0)
       replace p352:=eq_true p352
       replace q352:=eq_true q352
       have p353:0<=(1:Int):=(by omega);have q353:1<(l0.length:Int):=of_decide_eq_true (by first | (with_reducible assumption) | assumption);obtain ⟨ad353,e353,hx353_0⟩:=Kd.zeQ HR0.out 1 p353 q353;obtain rfl:ad352=ad353:=(by injection e353)
       (try simp only[show (1:Int).toNat=1 from rfl,Nat.reduceMul,Nat.reduceEqDiff,Go.Addr.add,↓reduceIte]at hx353_0)
       have qi353:(1<l0.length)=True:=eq_true (by omega)
       (try rw[show ((1:Int)).toNat=1 from rfl]at hx353_0)
       replace p353:=eq_true p353
       replace q353:=eq_true q353
       have p354:0<=(2:Int):=(by omega);have q354:2<(l0.length:Int):=of_decide_eq_true (by first | (with_reducible assumption) | assumption);obtain ⟨ad354,e354,hx354_0⟩:=Kd.zeQ HR0.out 2 p354 q354;obtain rfl:ad352=ad354:=(by injection e354)
       (try simp only[show (2:Int).toNat=2 from rfl,Nat.reduceMul,Nat.reduceEqDiff,Go.Addr.add,↓reduceIte]at hx354_0)
       have qi354:(2<l0.length)=True:=eq_true (by omega)
       (try rw[show ((2:Int)).toNat=2 from rfl]at hx354_0)
       replace p354:=eq_true p354
       replace q354:=eq_true q354
       go_enter func78,ntmps78
       go_wp2;repeat (go_quiet (fail);try go_wp2)
       go_ret;exact ⟨by first | rfl | (simp;done) | (simp[*];done),by repeat (first | exact Drawn0.refl _ | apply Drawn0.step)⟩
     · rw[if_neg c4]at H;exact absurd H (by simp)
   · rw[if_neg c3]at H;exact absurd H (by simp)
 · rw[if_neg c2]at H;exact absurd H (by simp)
end
end Go.Proofs.YtaeiifngjglchaaGreatDoor.PTopFile
end
