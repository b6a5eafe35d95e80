/- Functions of the program and their contracts, as the kit's print tool wrote them, cut by a program of mine; each theorem states its own conditions. -/
import Derived.Test.YtaeiifngjglchaaGreatDoorPW3
import Derived.Test.YtaeiifngjglchaaGreatDoorPL1
import Derived.Test.YtaeiifngjglchaaGreatDoorPS1
set_option maxHeartbeats 16000000
set_option maxRecDepth 1000000
set_option linter.unusedSimpArgs false
set_option linter.unusedVariables false
section
namespace Go.Proofs.YtaeiifngjglchaaGreatDoor.PTopFile
open Go.Proofs.Tryz
open Go.RowKit Go.Proofs.YtaeiifngjglchaaGreatDoorW.PrintWords Go.Proofs.YtaeiifngjglchaaGreatDoorW.PrintLast Go.Proofs.YtaeiifngjglchaaGreatDoorW.PrintMore
section
attribute [local go_sem] zaB zaz zaQ zaP zav zau zaA zay
def errW:Option Int->Value
 | none=>.nilIface
 | some c=>.iface 0 (.int .i64 c)
theorem zaJ:errW none=.nilIface:=rfl
theorem zaI (c:Int):errW (some c)=.iface 0 (.int .i64 c):=rfl
theorem info3:(Tryz.prog.info? 3).map (fun i=>(i.zero,i.size,i.bytes))=some (some (.int .i64 0),1,8):=by kernel_rfl
theorem info5:(Tryz.prog.info? 5).map (fun i=>(i.zero,i.size,i.bytes))=some (some (.int .u8 0),1,1):=by kernel_rfl
structure S62 where
 f0:Int
 f1:ByteArray
 f2:ByteArray
structure S110 where
 f0:S62
 f1:S62
 f2:S62
def rd_L5 (xs:List (List Int)) (i:Int):(List Int):=xs.getD i.toNat ([]:List Int)
theorem at_L5 {w:World} {A:Option Addr} {n:Nat} {xs:List (List Int)} (h:Kd.C (Kd.slice 5 (Kd.int .u8)) w A n xs) (i:Int) (h0:0<=i) (h1:i<n):∃ad A0 c0,A=some ad/\w.cell? (ad.add i.toNat)=some (.slice A0 (rd_L5 xs i).length c0)/\(rd_L5 xs i).length<=c0/\(Kd.int .u8).C w A0 (rd_L5 xs i).length (rd_L5 xs i):=by
 obtain ⟨ad,c,e,_,hK,hc0⟩:=Kd.C_get h ([]:List Int) i h0 h1;have hc:∀j u,c[j]?=some u->w.cell? (ad.add (i.toNat*1+j))=some u:=hc0;obtain ⟨A0,c0,rfl,l0,g0⟩:=hK;exact ⟨ad,A0,c0,e,by have hq:=hc 0 _ rfl;rwa[Nat.mul_one,Nat.add_zero]at hq,l0,g0⟩
structure S85 where
 f0:Int
 f1:(List Int)
theorem eqA62 (d:Nat) (w:World) (x0 y0:Int) (x1 y1:ByteArray) (x2 y2:ByteArray) :
    (Op.equalIn (d+2) 62 (.agg #[.int .i64 x0,.string x1,.string x2]) (.agg #[.int .i64 y0,.string y1,.string y2])).run Tryz.prog w=.ok (x0 == y0 && (x1.toList == y1.toList && (x2.toList == y2.toList))) w:=by
 refine znf underlying62 (by kernel_rfl) ?_;refine zc1 (by rfl) (by go_simp;rfl) (by go_simp;rfl) (by go_simp) ?_;refine zc1 (by rfl) (by go_simp;rfl) (by go_simp;rfl) (by go_simp) ?_;exact ziw (by rfl) (by go_simp;rfl) (by go_simp;rfl) (by go_simp)
theorem eqA110 (d:Nat) (w:World) (x0 y0:Int) (x1 y1:ByteArray) (x2 y2:ByteArray) (x3 y3:Int) (x4 y4:ByteArray) (x5 y5:ByteArray) (x6 y6:Int) (x7 y7:ByteArray) (x8 y8:ByteArray) :
    (Op.equalIn (d+3) 110 (.agg #[.int .i64 x0,.string x1,.string x2,.int .i64 x3,.string x4,.string x5,.int .i64 x6,.string x7,.string x8]) (.agg #[.int .i64 y0,.string y1,.string y2,.int .i64 y3,.string y4,.string y5,.int .i64 y6,.string y7,.string y8])).run Tryz.prog w=.ok ((x0 == y0 && (x1.toList == y1.toList && (x2.toList == y2.toList))) && ((x3 == y3 && (x4.toList == y4.toList && (x5.toList == y5.toList))) && ((x6 == y6 && (x7.toList == y7.toList && (x8.toList == y8.toList)))))) w:=by
 refine znf underlying110 (by kernel_rfl) ?_;refine zc1 (by rfl) (by go_simp) (by go_simp) (eqA62 (d+0) w _ _ _ _ _ _) ?_;refine zc1 (by rfl) (by go_simp) (by go_simp) (eqA62 (d+0) w _ _ _ _ _ _) ?_;exact ziw (by rfl) (by go_simp) (by go_simp) (eqA62 (d+0) w _ _ _ _ _ _)
attribute [local go_sem high] eqA110
end
section
attribute [local go_sem] zaB zaz zaQ zaP zav zau zaA zay
def lines_isPlain.f (a0:Int):Option (Bool):=if a0>=97 then (if a0<=122 then (some true) else (if a0>=65 then (if a0<=90 then (some true) else (if a0>=48 then (some (decide (a0<=57))) else (some false))) else (if a0>=48 then (some (decide (a0<=57))) else (some false)))) else (if a0>=65 then (if a0<=90 then (some true) else (if a0>=48 then (some (decide (a0<=57))) else (some false))) else (if a0>=48 then (some (decide (a0<=57))) else (some false)))
theorem lines_isPlain.calls (a0:Int) (r:Bool) (w:World) (h:lines_isPlain.f a0=some r) :
    Calls Tryz.prog 160 #[.int .i32 a0] w fun e w'=>e=.returned (.bool r)/\Drawn0 w w':=by
 unfold lines_isPlain.f at h;repeat' split at h
 all_goals first
 | (exfalso;omega)
 | (obtain rfl:=Option.some.inj h
    clear h
    (try simp only[ge_iff_le,Int.not_le]at *)
    go_enter func160,ntmps160
    go_wp2;go_ret;exact ⟨by first | rfl | (simp;done) | (simp[*];done) | (simp[*];omega),by repeat (first | exact Drawn0.refl _ | apply Drawn0.step)⟩)
end
section
attribute [local go_sem] zaB zaz zaQ zaP zav zau zaA zay
def triviumref4_Alnum.f (a0:Int):Option (Bool):=if a0>=97 then (if a0<=122 then (some true) else (if a0>=65 then (if a0<=90 then (some true) else (if a0>=48 then (some (decide (a0<=57))) else (some false))) else (if a0>=48 then (some (decide (a0<=57))) else (some false)))) else (if a0>=65 then (if a0<=90 then (some true) else (if a0>=48 then (some (decide (a0<=57))) else (some false))) else (if a0>=48 then (some (decide (a0<=57))) else (some false)))
theorem triviumref4_Alnum.calls (a0:Int) (r:Bool) (w:World) (h:triviumref4_Alnum.f a0=some r) :
    Calls Tryz.prog 238 #[.int .u8 a0] w fun e w'=>e=.returned (.bool r)/\Drawn0 w w':=by
 unfold triviumref4_Alnum.f at h;repeat' split at h
 all_goals first
 | (exfalso;omega)
 | (obtain rfl:=Option.some.inj h
    clear h
    (try simp only[ge_iff_le,Int.not_le]at *)
    go_enter func238,ntmps238
    go_wp2;go_ret;exact ⟨by first | rfl | (simp;done) | (simp[*];done) | (simp[*];omega),by repeat (first | exact Drawn0.refl _ | apply Drawn0.step)⟩)
end
section
attribute [local go_sem] zaB zaz zaQ zaP zav zau zaA zay
def triviumref4_label.l0:Nat->ByteArray->Int->Option (Bool)
 | 0,_,_=>none
 | k+1,x0,x3=>if x3<(x0.size:Int) then (if 0<=x3 then ((triviumref4_Alnum.f (bt x0 x3)).bind fun t108=>(if t108=true then (triviumref4_label.l0 k x0 (wrap64 (x3+1))) else (some false))) else (none)) else (if (x0.size:Int)>=1 then (some (decide ((x0.size:Int)<=8))) else (some false))
def triviumref4_label.f (k:Nat) (a0:ByteArray):Option (Bool):=triviumref4_label.l0 k a0 0
theorem triviumref4_label.calls (k:Nat) (a0:ByteArray) (r:Bool) (w:World) (h:triviumref4_label.f k a0=some r) :
    Calls Tryz.prog 163 #[.string a0] w fun e w'=>e=.returned (.bool r)/\Drawn0 w w':=by
 have H:(triviumref4_label.l0 k a0 0)=some r:=h;clear h;have H':=Aside0.mk H;clear H;go_enter func163,ntmps163
 go_wp2;go_loopg [3] k (fun kq v3 w'=>∃(x3_1:Int),v3=.int .i64 x3_1/\Aside0 (triviumref4_label.l0 kq a0 x3_1=some r)/\Aside0 (kq<=k)/\Drawn0 w w')
 case atStart=>exact ⟨(0),(by first | rfl | (simp;done) | (simp[*];done)),H',⟨Nat.le_refl _⟩,by repeat (first | exact Drawn0.refl _ | apply Drawn0.step)⟩
 case round=>
  clear H';(try clear c1);obtain ⟨x3_1,rfl,HA,HK1,⟨m1,rfl⟩⟩:=hrel;cases gk with
  | zero=>exact absurd HA.out (by simp[triviumref4_label.l0])
  | succ k1=>
   have H:=HA.out;clear HA;simp only[triviumref4_label.l0]at H;by_cases c2:x3_1<(a0.size:Int)
   · rw[if_pos c2]at H;have c2b0:decide (x3_1<(a0.size:Int))=true:=decide_eq_true c2;clear c2;by_cases c3:0<=x3_1
     · rw[if_pos c3]at H;have c3b0:decide (0<=x3_1)=true:=decide_eq_true c3;clear c3
       replace H:=Option.bind_eq_some_iff.mp H
       obtain ⟨t108,A50,H⟩:=H
       replace H:(if t108=true then (triviumref4_label.l0 k1 a0 (wrap64 (x3_1+1))) else (some false))=some r:=H
       have A5:=Aside0.mk A50;clear A50;by_cases c6:t108=true
       · subst c6;have H1:(triviumref4_label.l0 k1 a0 (wrap64 (x3_1+1)))=some r:=(by rw[if_pos rfl]at H;exact H);clear H;have H:=H1;clear H1;have H':=Aside0.mk H;clear H;have p4:0<=(x3_1:Int):=of_decide_eq_true (by first | (with_reducible assumption) | assumption);have q4:x3_1<(a0.size:Int):=of_decide_eq_true (by first | (with_reducible assumption) | assumption);have hx4:=bt_at a0 x3_1
         replace p4:=eq_true p4
         replace q4:=eq_true q4
         go_wp2_with (first | ((with_reducible refine zaR (f:=238) rfl ?_);refine zdS (some 13) rfl rfl func238 (by kernel_rfl) rfl #[.int .u8 (bt a0 x3_1)] rfl (by (try simp only[List.map_toArray,List.map_cons,List.map_nil]);first | done | rfl | (simp only[List.length_drop,List.length_take];rfl)) ?_;(with_reducible refine (triviumref4_Alnum.calls (bt a0 x3_1) true _ A5.out).mono ?_);rintro e w' ⟨rfl,⟨nd,rfl⟩⟩;refine ⟨_,rfl,?_⟩))
         go_roundg k1
         case measure=>have:=HK1.out;omega
         case rel=>exact ⟨(wrap64 (x3_1+1)),(by first | rfl | (simp;done) | (simp[*];done)),H',⟨by have:=HK1.out;omega⟩,by repeat (first | exact Drawn0.refl _ | apply Drawn0.step)⟩
       · replace c6:=Bool.eq_false_iff.mpr c6
         subst c6;have H1:(some false)=some r:=(by rw[if_neg (show ¬(false=true) by decide)]at H;exact H);clear H;have H:=H1;clear H1;obtain rfl:=Option.some.inj H;have p4:0<=(x3_1:Int):=of_decide_eq_true (by first | (with_reducible assumption) | assumption);have q4:x3_1<(a0.size:Int):=of_decide_eq_true (by first | (with_reducible assumption) | assumption);have hx4:=bt_at a0 x3_1
         replace p4:=eq_true p4
         replace q4:=eq_true q4
         go_wp2_with (first | ((with_reducible refine zaR (f:=238) rfl ?_);refine zdS (some 13) rfl rfl func238 (by kernel_rfl) rfl #[.int .u8 (bt a0 x3_1)] rfl (by (try simp only[List.map_toArray,List.map_cons,List.map_nil]);first | done | rfl | (simp only[List.length_drop,List.length_take];rfl)) ?_;(with_reducible refine (triviumref4_Alnum.calls (bt a0 x3_1) false _ A5.out).mono ?_);rintro e w' ⟨rfl,⟨nd,rfl⟩⟩;refine ⟨_,rfl,?_⟩))
         go_ret;exact ⟨by first | rfl | (simp;done) | (simp[*];done),by repeat (first | exact Drawn0.refl _ | apply Drawn0.step)⟩
     · rw[if_neg c3]at H;exact absurd H (by simp)
   · rw[if_neg c2]at H;have c2b0:decide (x3_1<(a0.size:Int))=false:=decide_eq_false c2;clear c2;by_cases c7:(a0.size:Int)>=1
     · rw[if_pos c7]at H;have c7b0:decide (1<=(a0.size:Int))=true:=decide_eq_true c7;have c7b1:decide (1<=a0.size)=true:=decide_eq_true (by omega);clear c7;obtain rfl:=Option.some.inj H;go_wp2;go_ret;exact ⟨by first | rfl | (simp;done) | (simp[*];done),by repeat (first | exact Drawn0.refl _ | apply Drawn0.step)⟩
     · rw[if_neg c7]at H;have c7b0:decide (1<=(a0.size:Int))=false:=decide_eq_false c7;have c7b1:decide (1<=a0.size)=false:=decide_eq_false (by omega);clear c7;obtain rfl:=Option.some.inj H;go_wp2;go_ret;exact ⟨by first | rfl | (simp;done) | (simp[*];done),by repeat (first | exact Drawn0.refl _ | apply Drawn0.step)⟩
end
section
attribute [local go_sem] zaB zaz zaQ zaP zav zau zaA zay
def triviumref4_iriRune.f (a0:Int):Option (Bool):=if a0=34 then (some false) else (if a0=60 then (some false) else (if a0=62 then (some false) else (if a0=92 then (some false) else (if a0=94 then (some false) else (if a0=96 then (some false) else (if a0=123 then (some false) else (if a0=124 then (some false) else (if a0=125 then (some false) else (if a0>=33 then (if a0<=126 then (some true) else (some (decide (a0>=160)))) else (some (decide (a0>=160))))))))))))
theorem triviumref4_iriRune.calls (a0:Int) (r:Bool) (w:World) (h:triviumref4_iriRune.f a0=some r) :
    Calls Tryz.prog 237 #[.int .i32 a0] w fun e w'=>e=.returned (.bool r)/\Drawn0 w w':=by
 unfold triviumref4_iriRune.f at h;repeat' split at h
 all_goals first
 | (exfalso;omega)
 | (obtain rfl:=Option.some.inj h
    clear h
    (try simp only[ge_iff_le,Int.not_le]at *)
    go_enter func237,ntmps237
    go_wp2;go_ret;exact ⟨by first | rfl | (simp;done) | (simp[*];done) | (simp[*];omega),by repeat (first | exact Drawn0.refl _ | apply Drawn0.step)⟩)
end
section
attribute [local go_sem] zaB zaz zaQ zaP zav zau zaA zay
def bits_Len.f (_k:Nat) (a0:Int):Option (Int):=if 0<=a0/\a0<=18446744073709551615 then some ((Lib.bitLen a0.toNat:Nat):Int) else none
theorem bits_Len.calls (k:Nat) (a0:Int) (r:Int) (w:World) (h:bits_Len.f k a0=some r) :
    Calls Tryz.prog 82 #[.int .u64 a0] w fun e w'=>e=.returned (.int .i64 r)/\Drawn0 w w':=by
 unfold bits_Len.f at h;split at h
 · rename_i hc;injection h with h;subst h;refine (Go.Proofs.Tryz.bits_Len a0 w hc.1 hc.2).mono ?_;rintro e w' ⟨rfl,rfl⟩;exact ⟨rfl,Drawn0.refl _⟩
 · cases h
end
section
attribute [local go_sem] zaB zaz zaQ zaP zav zau zaA zay
def pack_Width.f (k:Nat) (a0:Int):Option (Int):=(bits_Len.f k (IntKind.u64.wrap (mx a0 0))).bind fun t325=>(some t325)
theorem pack_Width.calls (k:Nat) (a0:Int) (r:Int) (w:World) (h:pack_Width.f k a0=some r) :
    Calls Tryz.prog 32 #[.int .i64 a0] w fun e w'=>e=.returned (.int .i64 r)/\Below w.heap.size w w':=by
 have HB:=Aside0.mk (Below.refl w.heap.size w);have H:((bits_Len.f k (IntKind.u64.wrap (mx a0 0))).bind fun t325=>(some t325))=some r:=h;clear h;obtain ⟨ji2,hji2⟩:∃j_:Int,(mx a0 0)=j_:=⟨_,rfl⟩
 replace H:((bits_Len.f k (IntKind.u64.wrap (ji2))).bind fun t325=>(some t325))=some r:=by first | (rw[hji2]at H;exact H) | (simp only[hji2]at H ⊢;exact H)
 (try (have hji2l:0<=ji2:=by (rw[<-hji2];unfold mx;(repeat' split)<;>omega)))
 (try (have hji2m:0<=ji2:=by omega))
 have hji2_:(if a0<0 then 0 else a0)=ji2:=hji2
 replace H:=Option.bind_eq_some_iff.mp H
 obtain ⟨t325,A30,H⟩:=H
 replace H:(some t325)=some r:=H
 have A3:=Aside0.mk A30;clear A30;obtain rfl:=Option.some.inj H;go_enter func32,ntmps32
 go_wp2_with (first | ((with_reducible refine zaR (f:=82) rfl ?_);refine zdS (some 6) rfl rfl func82 (by kernel_rfl) rfl #[.int .u64 (IntKind.u64.wrap (ji2))] rfl (by (try simp only[List.map_toArray,List.map_cons,List.map_nil]);first | done | (simp only[hji2];rfl) | rfl | (simp only[List.length_drop,List.length_take];rfl)) ?_;(with_reducible refine (bits_Len.calls k (IntKind.u64.wrap (ji2)) t325 _ A3.out).mono ?_);rintro e w' ⟨rfl,⟨nd,rfl⟩⟩;refine ⟨_,rfl,?_⟩))
 go_ret;exact ⟨by first | rfl | (simp[zaJ,zaI]<;>rfl) | (simp only[<-hji2];first | rfl | (simp[zaJ,zaI]<;>rfl)) | (simp[*,zaJ,zaI]<;>rfl),by repeat (first | (with_reducible first | exact HB.out | apply zak | apply zae | apply zaj) | exact HB.out)⟩
end
section
attribute [local go_sem] zaB zaz zaQ zaP zav zau zaA zay
def pack_fits.f (a0:Int) (a1:Int):Option (Bool):=if a1>=0 then (if a1<=20 then (if a0>=0 then (some (decide (a0<=1000))) else (some false)) else (some false)) else (some false)
theorem pack_fits.calls (a0:Int) (a1:Int) (r:Bool) (w:World) (h:pack_fits.f a0 a1=some r) :
    Calls Tryz.prog 80 #[.int .i64 a0,.int .i64 a1] w fun e w'=>e=.returned (.bool r)/\Drawn0 w w':=by
 have H:(if a1>=0 then (if a1<=20 then (if a0>=0 then (some (decide (a0<=1000))) else (some false)) else (some false)) else (some false))=some r:=h;clear h;by_cases c3:a1>=0
 · rw[if_pos c3]at H;have c3b0:decide (0<=a1)=true:=decide_eq_true c3;clear c3;by_cases c4:a1<=20
   · rw[if_pos c4]at H;have c4b0:decide (a1<=20)=true:=decide_eq_true c4;clear c4;by_cases c5:a0>=0
     · rw[if_pos c5]at H;have c5b0:decide (0<=a0)=true:=decide_eq_true c5;clear c5;obtain rfl:=Option.some.inj H;go_enter func80,ntmps80
       go_wp2;go_ret;exact ⟨by first | rfl | (simp;done) | (simp[*];done),by repeat (first | exact Drawn0.refl _ | apply Drawn0.step)⟩
     · rw[if_neg c5]at H;have c5b0:decide (0<=a0)=false:=decide_eq_false c5;clear c5;obtain rfl:=Option.some.inj H;go_enter func80,ntmps80
       go_wp2;go_ret;exact ⟨by first | rfl | (simp;done) | (simp[*];done),by repeat (first | exact Drawn0.refl _ | apply Drawn0.step)⟩
   · rw[if_neg c4]at H;have c4b0:decide (a1<=20)=false:=decide_eq_false c4;clear c4;obtain rfl:=Option.some.inj H;go_enter func80,ntmps80
     go_wp2;go_ret;exact ⟨by first | rfl | (simp;done) | (simp[*];done),by repeat (first | exact Drawn0.refl _ | apply Drawn0.step)⟩
 · rw[if_neg c3]at H;have c3b0:decide (0<=a1)=false:=decide_eq_false c3;clear c3;obtain rfl:=Option.some.inj H;go_enter func80,ntmps80
   go_wp2;go_ret;exact ⟨by first | rfl | (simp;done) | (simp[*];done),by repeat (first | exact Drawn0.refl _ | apply Drawn0.step)⟩
end
section
attribute [local go_sem] zaB zaz zaQ zaP zav zau zaA zay
def pack_size.f (a0:Int):Option (Int):=some (wrap64 (Int.tdiv (wrap64 ((wrap64 (a0+8))-1)) 8))
theorem pack_size.calls (a0:Int) (r:Int) (w:World) (h:pack_size.f a0=some r) :
    Calls Tryz.prog 81 #[.int .i64 a0] w fun e w'=>e=.returned (.int .i64 r)/\Drawn0 w w':=by
 have H:(some (wrap64 (Int.tdiv (wrap64 ((wrap64 (a0+8))-1)) 8)))=some r:=h;clear h;obtain rfl:=Option.some.inj H;go_enter func81,ntmps81
 go_wp2;go_ret;exact ⟨by first | rfl | (simp;done) | (simp[*];done),by repeat (first | exact Drawn0.refl _ | apply Drawn0.step)⟩
end
section
attribute [local go_sem] zaB zaz zaQ zaP zav zau zaA zay
mutual
def pack_Pack.l0:Nat->Int->List Int->List Int->Int->Int->Option (List Int × Int)
 | 0,_,_,_,_,_=>none
 | k+1,x1,x6,x22,x23,x24=>if x24<x23 then (if 0<=x24 then (if x24<(x22.length:Int) then (if (rd x22 x24)<0 then (pack_Pack.j1 k x1 x6 x24 (rd x22 x24) x22 x23 x24 true) else ((pack_Width.f k (rd x22 x24)).bind fun t332=>(pack_Pack.j1 k x1 x6 x24 (rd x22 x24) x22 x23 x24 (decide (t332 > x1))))) else (none)) else (none)) else (some (x6,0))
def pack_Pack.j1:Nat->Int->List Int->Int->Int->List Int->Int->Int->Bool->Option (List Int × Int)
 | 0,_,_,_,_,_,_,_,_=>none
 | k+1,x1,x6,x7,x8,x22,x23,x24,x36=>if x36=true then (some (([]:List Int),1)) else (pack_Pack.l1 k x1 x6 x7 x8 x22 x23 x24 x1 0)
def pack_Pack.l1:Nat->Int->List Int->Int->Int->List Int->Int->Int->Int->Int->Option (List Int × Int)
 | 0,_,_,_,_,_,_,_,_,_=>none
 | k+1,x1,x6,x7,x8,x22,x23,x24,x37,x38=>if x38<x37 then (if 0<=(wrap64 (Int.tdiv (wrap64 ((wrap64 (x7*x1))+x38)) 8)) then (if (wrap64 (Int.tdiv (wrap64 ((wrap64 (x7*x1))+x38)) 8))<(x6.length:Int) then (if 0<=x38 then (if 0<=(Int.tmod (wrap64 ((wrap64 (x7*x1))+x38)) 8) then (pack_Pack.l1 k x1 (x6.set ((wrap64 (Int.tdiv (wrap64 ((wrap64 (x7*x1))+x38)) 8)):Int).toNat (Go.bits .or .u8 (rd x6 (wrap64 (Int.tdiv (wrap64 ((wrap64 (x7*x1))+x38)) 8))) (shl .u8 ((Go.bits .and .i64 (shr .i64 x8 x38) 1) % 256) (Int.tmod (wrap64 ((wrap64 (x7*x1))+x38)) 8)))) x7 x8 x22 x23 x24 x37 (wrap64 (x38+1))) else (none)) else (none)) else (none)) else (none)) else (pack_Pack.l0 k x1 x6 x22 x23 (wrap64 (x24+1)))
end
def pack_Pack.f (k:Nat) (l0:List Int) (a1:Int):Option (List Int × Int):=(pack_fits.f (l0.length:Int) a1).bind fun t326=>(if t326=true then ((pack_size.f (wrap64 ((l0.length:Int)*a1))).bind fun t327=>(if 0<=t327 then (if (t327:Int).toNat<=281474976710656 then (pack_Pack.l0 k a1 (List.replicate (t327:Int).toNat 0) l0 (l0.length:Int) 0) else (none)) else (none))) else (some (([]:List Int),1)))
def pack_Pack.T13:Bool × List (List Nat × List Nat):=(true,[([],[]),([],[]),([1],[1]),([0,2],[0,2]),([3],[3]),([],[]),([],[]),([5,6],[5,6]),([7],[7]),([8],[8]),([],[]),([10],[10]),([9,11],[9,11]),([4,12],[4,12]),([0,2,0,1,2,3,4,5,6,7,8,9,10,11,12,13],[0,2]),([14,13,0,1,2,3,4,5,6,7,8,9,10,11,12,13],[13,14])])
def pack_Pack.B13:List Nat:=[0,0,2,7,15,0,0,96,224,480,0,1024,4064,8191,16383,32767]
theorem pack_Pack.tab13:rtab .any (opsOf f40 13)=pack_Pack.T13:=by kernel_rfl
theorem pack_Pack.bits13:waitsOk pack_Pack.T13.2 pack_Pack.B13=true:=by kernel_rfl
theorem pack_Pack.calls (k:Nat) (A0:Option Addr) (c0:Nat) (l0:List Int) (a1:Int) (r1:List Int) (r2:Int) (w:World) (hr0:Kd.C (Kd.int .i64) w A0 l0.length l0) (hc0:l0.length<=c0) (h:pack_Pack.f k l0 a1=some (r1,r2)) :
    Calls Tryz.prog 40 #[.slice A0 l0.length c0,.int .i64 a1] w fun e w'=>∃v0_:Value,e=.returned (.tuple #[v0_,.int .i64 r2])/\Kd.R (Kd.int .u8) 5 w' w.heap.size (fun _=>True) v0_ r1/\Below w.heap.size w w':=by
 have HR0:=Aside0.mk hr0;have HC0:=Aside0.mk hc0;clear hr0 hc0;have HB:=Aside0.mk (Below.refl w.heap.size w);have H:((pack_fits.f (l0.length:Int) a1).bind fun t326=>(if t326=true then ((pack_size.f (wrap64 ((l0.length:Int)*a1))).bind fun t327=>(if 0<=t327 then (if (t327:Int).toNat<=281474976710656 then (pack_Pack.l0 k a1 (List.replicate (t327:Int).toNat 0) l0 (l0.length:Int) 0) else (none)) else (none))) else (some (([]:List Int),1))))=some (r1,r2):=h;clear h
 replace H:=Option.bind_eq_some_iff.mp H
 obtain ⟨t326,A30,H⟩:=H
 replace H:(if t326=true then ((pack_size.f (wrap64 ((l0.length:Int)*a1))).bind fun t327=>(if 0<=t327 then (if (t327:Int).toNat<=281474976710656 then (pack_Pack.l0 k a1 (List.replicate (t327:Int).toNat 0) l0 (l0.length:Int) 0) else (none)) else (none))) else (some (([]:List Int),1)))=some (r1,r2):=H
 have A3:=Aside0.mk A30;clear A30;by_cases c4:t326=true
 · subst c4;have H1:((pack_size.f (wrap64 ((l0.length:Int)*a1))).bind fun t327=>(if 0<=t327 then (if (t327:Int).toNat<=281474976710656 then (pack_Pack.l0 k a1 (List.replicate (t327:Int).toNat 0) l0 (l0.length:Int) 0) else (none)) else (none)))=some (r1,r2):=(by rw[if_pos rfl]at H;exact H);clear H;have H:=H1;clear H1
   replace H:=Option.bind_eq_some_iff.mp H
   obtain ⟨t327,A50,H⟩:=H
   replace H:(if 0<=t327 then (if (t327:Int).toNat<=281474976710656 then (pack_Pack.l0 k a1 (List.replicate (t327:Int).toNat 0) l0 (l0.length:Int) 0) else (none)) else (none))=some (r1,r2):=H
   have A5:=Aside0.mk A50;clear A50;by_cases c6:0<=t327
   · rw[if_pos c6]at H;have c6b0:=eq_true c6;have c6b1:decide (0<=t327)=true:=decide_eq_true c6;clear c6;by_cases c7:(t327:Int).toNat<=281474976710656
     · rw[if_pos c7]at H;have c7b0:=eq_true c7;have c7b1:decide ((t327:Int).toNat<=281474976710656)=true:=decide_eq_true c7;clear c7;obtain ⟨y328,hy328⟩:∃y_:List Int,y_=(List.replicate (t327:Int).toNat 0):=⟨_,rfl⟩
       replace H:(pack_Pack.l0 k a1 y328 l0 (l0.length:Int) 0)=some (r1,r2):=by first | (rw[hy328];with_reducible exact H) | (have H2_:=(Option.bind_some _ _).symm.trans H;rw[hy328];with_reducible exact H2_) | (have H2_:=(Option.bind_some _ _).symm.trans H;with_reducible exact H2_) | with_reducible exact H | (rw[hy328];exact H) | exact H
       have Ny328:=Aside0.mk hy328;clear hy328;have H':=Aside0.mk H;clear H;go_enter func40,ntmps40
       go_wp2_with (first | ((with_reducible refine zaR (f:=80) rfl ?_);refine zdS (some 14) rfl rfl func80 (by kernel_rfl) rfl #[.int .i64 (l0.length:Int),.int .i64 a1] rfl (by (try simp only[List.map_toArray,List.map_cons,List.map_nil]);first | done | rfl | (simp only[List.length_drop,List.length_take];rfl)) ?_;(with_reducible refine (pack_fits.calls (l0.length:Int) a1 true _ A3.out).mono ?_);rintro e w' ⟨rfl,⟨nd,rfl⟩⟩;refine ⟨_,rfl,?_⟩) | ((with_reducible refine zaR (f:=81) rfl ?_);refine zdS (some 20) rfl rfl func81 (by kernel_rfl) rfl #[.int .i64 (wrap64 ((l0.length:Int)*a1))] rfl (by (try simp only[List.map_toArray,List.map_cons,List.map_nil]);first | done | rfl | (simp only[List.length_drop,List.length_take];rfl)) ?_;(with_reducible refine (pack_size.calls (wrap64 ((l0.length:Int)*a1)) t327 _ A5.out).mono ?_);rintro e w' ⟨rfl,⟨nd,rfl⟩⟩;refine ⟨_,rfl,?_⟩) | ((with_reducible refine ziu (N:=21) rfl ?_);refine Kd.R_make (Kd.int .u8) _ 5 rfl (N:=21) rfl 32 _ _ rfl t327 rfl rfl underlying32 (.int .u8 0) 1 info5 rfl (by decide) (by omega) 0 (ok:=fun _=>True) (okp:=fun _=>True) rfl (fun _ hk=>hk) trivial (of_decide_eq_true (by first | (with_reducible assumption) | assumption)) (Nat.le_trans (Nat.mul_le_mul_right _ (of_decide_eq_true (by first | (with_reducible assumption) | assumption):t327.toNat<=281474976710656)) (by omega)) (Below.refl _ _) (Nat.le_refl _) ?_;intro v329 w8 ho9 hb hg_ hnew_;clear hg_ hnew_;(first | rw[<-Ny328.out]at ho9 | (simp only[Int.reduceToNat]at ho9;rw[<-Ny328.out]at ho9));have n0_:=Aside0.mk (Kd.zhU ho9 (zeP (by repeat (first | (with_reducible first | exact HB.out | apply zak | apply zae | apply zaj) | exact HB.out))));have n1_:=Aside0.mk (zcH (by repeat (first | (with_reducible first | exact HB.out | apply zak | apply zae | apply zaj) | exact HB.out)) hb);clear HB;have HO330:=n0_;have HB:=n1_;clear n0_ n1_;clear hb ho9))
       go_loopg [24] k (fun kq v24 w'=>∃(x6_1:List Int) (x24_1:Int),v24=.int .i64 x24_1/\Aside0 (pack_Pack.l0 kq a1 x6_1 l0 (l0.length:Int) x24_1=some (r1,r2))/\Aside0 (kq<=k)/\Aside0 (Kd.R (Kd.int .u8) 5 w' w.heap.size (fun _=>True) v329 x6_1)/\Aside0 (Below w.heap.size w w'))
       case atStart=>exact ⟨(y328),(0),(by first | rfl | (simp;done) | (simp[*];done)),H',⟨Nat.le_refl _⟩,⟨by (with_reducible repeat (first | apply Kd.R_alloc | apply Kd.R_drewN | apply Kd.zbP));exact HO330.out⟩,⟨by repeat (first | (with_reducible first | exact HB.out | apply zak | apply zae | apply zaj) | exact HB.out)⟩⟩
       case round=>
        clear H';(try clear p2);(try clear c4);(try clear c6);(try clear c6b0);(try clear c6b1);(try clear p6);(try clear c7);(try clear c7b0);(try clear c7b1);(try clear c8);obtain ⟨x6_1,x24_1,rfl,HA,HK1,HO_6,HB⟩:=hrel;cases gk with
        | zero=>exact absurd HA.out (by simp[pack_Pack.l0])
        | succ k1=>
         have H:=HA.out;clear HA;simp only[pack_Pack.l0]at H;by_cases c10:x24_1<(l0.length:Int)
         · rw[if_pos c10]at H;have c10b0:decide (x24_1<(l0.length:Int))=true:=decide_eq_true c10;clear c10;by_cases c11:0<=x24_1
           · rw[if_pos c11]at H;have c11b0:decide (0<=x24_1)=true:=decide_eq_true c11;clear c11;by_cases c12:x24_1<(l0.length:Int)
             · rw[if_pos c12]at H;have c12b0:decide (x24_1<(l0.length:Int))=true:=decide_eq_true c12;clear c12;have HC13:=Aside0.mk H;clear H;have p331:0<=(x24_1:Int):=of_decide_eq_true (by first | (with_reducible assumption) | assumption);have q331:x24_1<(l0.length:Int):=of_decide_eq_true (by first | (with_reducible assumption) | assumption);obtain ⟨ad331,e331,hx331_0⟩:=Kd.zeQ HR0.out x24_1 p331 q331;cases e331
               replace hx331_0:=(HB.out.cell (World.block_lt_of_cell? w _ hx331_0)).trans hx331_0
               replace p331:=eq_true p331
               replace q331:=eq_true q331
               go_upto_region 7 with (fail)
               go_cut [36] (fun v36 wc=>∃(kq:Nat) (x36_12:Bool),v36=.bool x36_12/\Aside0 (pack_Pack.j1 kq a1 x6_1 x24_1 (rd l0 x24_1) l0 (l0.length:Int) x24_1 x36_12=some (r1,r2))/\Aside0 (kq<=k1)/\Aside0 (Kd.R (Kd.int .u8) 5 wc w.heap.size (fun _=>True) v329 x6_1)/\Aside0 (Below w.heap.size w wc))
               case first=>
                have H:=HC13.out;clear HC13;by_cases c14:(rd l0 x24_1)<0
                · rw[if_pos c14]at H;have c14b0:decide ((rd l0 x24_1)<0)=true:=decide_eq_true c14;clear c14
                  (first | rw[c14b0] | (simp only[i64_w,i32_w];rw[c14b0]) | skip)
                  have H':=Aside0.mk H;clear H;go_wp2;go_meet
                  case rel=>exact ⟨_,(true),(by first | rfl | (simp;done) | (simp[*];done)),H',⟨by have:=HK1.out;first | omega | exact Nat.le_refl _⟩,⟨by (with_reducible repeat (first | apply Kd.R_alloc | apply Kd.R_drewN | apply Kd.zbP));exact HO_6.out⟩,⟨by repeat (first | (with_reducible first | exact HB.out | apply zak | apply zae | apply zaj) | exact HB.out)⟩⟩
                · rw[if_neg c14]at H;have c14b0:decide ((rd l0 x24_1)<0)=false:=decide_eq_false c14;clear c14
                  (first | rw[c14b0] | (simp only[i64_w,i32_w];rw[c14b0]) | skip)
                  replace H:=Option.bind_eq_some_iff.mp H
                  obtain ⟨t332,A150,H⟩:=H
                  replace H:(pack_Pack.j1 k1 a1 x6_1 x24_1 (rd l0 x24_1) l0 (l0.length:Int) x24_1 (decide (t332 > a1)))=some (r1,r2):=H
                  have A15:=Aside0.mk A150;clear A150;have H':=Aside0.mk H;clear H;go_wp2_with (first | (go_at_call 32;(with_reducible refine (pack_Width.calls k1 (rd l0 x24_1) t332 _ A15.out).mono ?_);rintro e w16 ⟨rfl,hb⟩;have n0_:=Aside0.mk (Kd.zlm (by (with_reducible repeat (first | apply Kd.R_alloc | apply Kd.R_drewN | apply Kd.zbP));exact HO_6.out) hb);have n1_:=Aside0.mk (zcH (by repeat (first | (with_reducible first | exact HB.out | apply zak | apply zae | apply zaj) | exact HB.out)) hb);clear HO_6;clear HB;have HO_6:=n0_;have HB:=n1_;clear n0_ n1_;(try clear hb);(try clear hb2);(try clear hk);(try clear hi)))
                  go_meet
                  case rel=>exact ⟨_,(decide (t332 > a1)),(by first | rfl | (simp;done) | (simp[*];done)),H',⟨by have:=HK1.out;first | omega | exact Nat.le_refl _⟩,⟨by (with_reducible repeat (first | apply Kd.R_alloc | apply Kd.R_drewN | apply Kd.zbP));exact HO_6.out⟩,⟨by repeat (first | (with_reducible first | exact HB.out | apply zak | apply zae | apply zaj) | exact HB.out)⟩⟩
               case rest=>
                clear HC13;(try clear c1);(try clear p2);(try clear p3);(try clear q3);(try clear hx3);(try clear c4);(try clear c6);(try clear c6b0);(try clear c6b1);(try clear p6);(try clear c7);(try clear c7b0);(try clear c7b1);(try clear c8);(try clear c10);(try clear c10b0);(try clear c11);(try clear c11b0);(try clear c12);(try clear c12b0);(try clear c14);(try clear c14b0);(try clear hx331_0);(try clear p2);(try clear p331);(try clear p6);(try clear q331);obtain ⟨kq,x36_12,rfl,HA,HJ12,HO_6,HB⟩:=hcut;cases kq with
                | zero=>exact absurd HA.out (by simp[pack_Pack.j1])
                | succ kj12=>
                 have H:=HA.out;clear HA;simp only[pack_Pack.j1]at H;by_cases c17:x36_12=true
                 · subst c17;have H1:(some (([]:List Int),1))=some (r1,r2):=(by rw[if_pos rfl]at H;exact H);clear H;have H:=H1;clear H1;simp only[Option.some.injEq,Prod.mk.injEq]at H;obtain ⟨rfl,rfl⟩:=H;go_wp2;go_ret2;exact ⟨_,by first | rfl | (simp[zaJ,zaI]<;>rfl) | (simp[*,zaJ,zaI]<;>rfl),by first | exact Kd.R_nil _ _ _ _ _ | exact Kd.N_nil _ _ _ _ _ | exact Kd.V_nil _ _ _ _ _ | exact Kd.Q_nil _ _ _ _ _ | exact Kd.S_nil _ _ _ _ _,by repeat (first | (with_reducible first | exact HB.out | apply zak | apply zae | apply zaj) | exact HB.out)⟩
                 · replace c17:=Bool.eq_false_iff.mpr c17
                   subst c17;have H1:(pack_Pack.l1 kj12 a1 x6_1 x24_1 (rd l0 x24_1) l0 (l0.length:Int) x24_1 a1 0)=some (r1,r2):=(by rw[if_neg (show ¬(false=true) by decide)]at H;exact H);clear H;have H:=H1;clear H1;have H':=Aside0.mk H;clear H;go_wp2;go_loopg [38] kj12 (fun kq v38 w'=>∃(x6_3:List Int) (x38_3:Int),v38=.int .i64 x38_3/\Aside0 (pack_Pack.l1 kq a1 x6_3 x24_1 (rd l0 x24_1) l0 (l0.length:Int) x24_1 a1 x38_3=some (r1,r2))/\Aside0 (kq<=kj12)/\Aside0 (Kd.R (Kd.int .u8) 5 w' w.heap.size (fun _=>True) v329 x6_3)/\Aside0 (Below w.heap.size w w'))
                   case atStart=>exact ⟨(x6_1),(0),(by first | rfl | (simp;done) | (simp[*];done)),H',⟨Nat.le_refl _⟩,⟨by (with_reducible repeat (first | apply Kd.R_alloc | apply Kd.R_drewN | apply Kd.zbP));exact HO_6.out⟩,⟨by repeat (first | (with_reducible first | exact HB.out | apply zak | apply zae | apply zaj) | exact HB.out)⟩⟩
                   case round=>
                    clear H';(try clear c1);(try clear p2);(try clear p3);(try clear q3);(try clear hx3);(try clear c4);(try clear c6);(try clear c6b0);(try clear c6b1);(try clear p6);(try clear c7);(try clear c7b0);(try clear c7b1);(try clear c8);(try clear c10);(try clear c10b0);(try clear c11);(try clear c11b0);(try clear c12);(try clear c12b0);(try clear c14);(try clear c14b0);(try clear c17);(try clear hx331_0);(try clear p2);(try clear p3);(try clear p331);(try clear p6);(try clear q3);(try clear q331);obtain ⟨x6_3,x38_3,rfl,HA,HK3,HO_6,HB⟩:=hrel;cases gk with
                    | zero=>exact absurd HA.out (by simp[pack_Pack.l1])
                    | succ k3=>
                     have H:=HA.out;clear HA;simp only[pack_Pack.l1]at H;by_cases c18:x38_3<a1
                     · rw[if_pos c18]at H;have c18b0:decide (x38_3<a1)=true:=decide_eq_true c18;clear c18;obtain ⟨ji19,hji19⟩:∃j_:Int,(wrap64 (Int.tdiv (wrap64 ((wrap64 (x24_1*a1))+x38_3)) 8))=j_:=⟨_,rfl⟩
                       replace H:(if 0<=(ji19) then (if (ji19)<(x6_3.length:Int) then (if 0<=x38_3 then (if 0<=(Int.tmod (wrap64 ((wrap64 (x24_1*a1))+x38_3)) 8) then (pack_Pack.l1 k3 a1 (x6_3.set ((ji19):Int).toNat (Go.bits .or .u8 (rd x6_3 (ji19)) (shl .u8 ((Go.bits .and .i64 (shr .i64 (rd l0 x24_1) x38_3) 1) % 256) (Int.tmod (wrap64 ((wrap64 (x24_1*a1))+x38_3)) 8)))) x24_1 (rd l0 x24_1) l0 (l0.length:Int) x24_1 a1 (wrap64 (x38_3+1))) else (none)) else (none)) else (none)) else (none))=some (r1,r2):=by first | (rw[hji19]at H;exact H) | (simp only[hji19]at H ⊢;exact H)
                       have hji19w:(IntKind.i64.wrap (Int.tdiv (wrap64 ((wrap64 (x24_1*a1))+x38_3)) 8))=ji19:=(i64_w _).trans hji19;by_cases c20:0<=(ji19)
                       · rw[if_pos c20]at H;have c20b0:decide (0<=(ji19))=true:=decide_eq_true c20;clear c20;by_cases c21:(ji19)<(x6_3.length:Int)
                         · rw[if_pos c21]at H;have c21b0:decide ((ji19)<(x6_3.length:Int))=true:=decide_eq_true c21;clear c21;by_cases c22:0<=x38_3
                           · rw[if_pos c22]at H;have c22b0:=eq_true c22;have c22b1:decide (0<=x38_3)=true:=decide_eq_true c22;clear c22;obtain ⟨ji23,hji23⟩:∃j_:Int,(shr .i64 (rd l0 x24_1) x38_3)=j_:=⟨_,rfl⟩
                             replace H:(if 0<=(Int.tmod (wrap64 ((wrap64 (x24_1*a1))+x38_3)) 8) then (pack_Pack.l1 k3 a1 (x6_3.set ((ji19):Int).toNat (Go.bits .or .u8 (rd x6_3 (ji19)) (shl .u8 ((Go.bits .and .i64 (ji23) 1) % 256) (Int.tmod (wrap64 ((wrap64 (x24_1*a1))+x38_3)) 8)))) x24_1 (rd l0 x24_1) l0 (l0.length:Int) x24_1 a1 (wrap64 (x38_3+1))) else (none))=some (r1,r2):=by first | (rw[hji23]at H;exact H) | (simp only[hji23]at H ⊢;exact H)
                             have hji23_:((rd l0 x24_1) / 2 ^ min x38_3.toNat 64)=ji23:=hji23;have hji23z:x38_3<=64->((rd l0 x24_1) / 2 ^ x38_3.toNat)=ji23:=zjS hji23;obtain ⟨ji24,hji24⟩:∃j_:Int,(Int.tmod (wrap64 ((wrap64 (x24_1*a1))+x38_3)) 8)=j_:=⟨_,rfl⟩
                             replace H:(if 0<=(ji24) then (pack_Pack.l1 k3 a1 (x6_3.set ((ji19):Int).toNat (Go.bits .or .u8 (rd x6_3 (ji19)) (shl .u8 ((Go.bits .and .i64 (ji23) 1) % 256) (ji24)))) x24_1 (rd l0 x24_1) l0 (l0.length:Int) x24_1 a1 (wrap64 (x38_3+1))) else (none))=some (r1,r2):=by first | (rw[hji24]at H;exact H) | (simp only[hji24]at H ⊢;exact H)
                             by_cases c25:0<=(ji24)
                             · rw[if_pos c25]at H;have c25b0:=eq_true c25;have c25b1:decide (0<=(ji24))=true:=decide_eq_true c25;clear c25;obtain ⟨ji26,hji26⟩:∃j_:Int,(shl .u8 ((Go.bits .and .i64 (ji23) 1) % 256) (ji24))=j_:=⟨_,rfl⟩
                               replace H:(pack_Pack.l1 k3 a1 (x6_3.set ((ji19):Int).toNat (Go.bits .or .u8 (rd x6_3 (ji19)) (ji26))) x24_1 (rd l0 x24_1) l0 (l0.length:Int) x24_1 a1 (wrap64 (x38_3+1)))=some (r1,r2):=by first | (rw[hji26]at H;exact H) | (simp only[hji26]at H ⊢;exact H)
                               have hji26_:(IntKind.u8.wrap (((Go.bits .and .i64 (ji23) 1) % 256)*2 ^ min (ji24).toNat 8))=ji26:=hji26;have hji26z:(ji24)<=8->(IntKind.u8.wrap (((Go.bits .and .i64 (ji23) 1) % 256)*2 ^ (ji24).toNat))=ji26:=zjT hji26;obtain ⟨y334,hy334⟩:∃y_:List Int,y_=(x6_3.set ((ji19):Int).toNat (Go.bits .or .u8 (rd x6_3 (ji19)) (ji26))):=⟨_,rfl⟩
                               replace H:(pack_Pack.l1 k3 a1 y334 x24_1 (rd l0 x24_1) l0 (l0.length:Int) x24_1 a1 (wrap64 (x38_3+1)))=some (r1,r2):=by first | (rw[hy334];with_reducible exact H) | (have H2_:=(Option.bind_some _ _).symm.trans H;rw[hy334];with_reducible exact H2_) | (have H2_:=(Option.bind_some _ _).symm.trans H;with_reducible exact H2_) | with_reducible exact H | (rw[hy334];exact H) | exact H
                               have Ny334:=Aside0.mk hy334;clear hy334;have H':=Aside0.mk H;clear H;try go_wp2
                               have n0_:=Aside0.mk (Kd.zbP HO_6.out);have n1_:=Aside0.mk (zaj HB.out);clear HO_6;clear HB;have HO_6:=n0_;have HB:=n1_;clear n0_ n1_;obtain ⟨Ao29,co29,eo29⟩:=Kd.zor HO_6.out
                               (first | subst eo29 | (injection eo29 with f1_ f2_ f3_;have f4_:=f1_.symm;have f5_:=f3_.symm;clear f1_ f2_ f3_;subst f4_;subst f5_))
                               have p333:0<=((ji19):Int):=of_decide_eq_true (by first | (with_reducible assumption) | assumption);have q333:(ji19)<(x6_3.length:Int):=of_decide_eq_true (by first | (with_reducible assumption) | assumption);obtain ⟨ad333,e333,hx333_0⟩:=Kd.zeQ (Kd.zfF HO_6.out).2.2 (ji19) p333 q333;cases e333
                               replace p333:=eq_true p333
                               replace q333:=eq_true q333
                               have p27:0<=((ji19):Int):=of_decide_eq_true (by first | (with_reducible assumption) | assumption);have q27:((ji19):Int)<((x6_3.length:Int):Int):=of_decide_eq_true (by first | (with_reducible assumption) | assumption);obtain ⟨go27,co27,eo27,gb27,gl27,cl27,HG27⟩:=Kd.R_form HO_6.out (by omega)
                               (first | cases eo27 | (injection eo27 with ea_ en_ ec_;(first | subst ea_ | (injection ea_ with ea_;subst ea_));subst ec_;clear en_))
                               have GB27:=Aside0.mk gb27;have GG27:=Aside0.mk HG27;clear gb27 gl27 HG27
                               (first | simp only[add_plain]at hx333_0 | skip)
                               obtain ⟨hx27_0,hf27_0⟩:=Kd.zos 0 HO_6.out ((ji19):Int) p27 q27
                               replace p27:=eq_true p27
                               replace q27:=eq_true q27
                               have HP30:=Kd.R_putn HO_6.out ((ji19):Int) (Go.bits .or .u8 (rd x6_3 (ji19)) (ji26));rw[<-Ny334.out]at HP30;have HQ30:=Aside0.mk HP30;clear HP30;refine zdv (n:=16) (S:=fun w'=>w'.cell? ⟨go27,((ji19)).toNat,none⟩=some (.int .u8 (rd x6_3 (ji19)))) (ds:=[15]) #[false,false,false,false,false,false,false,false,false,false,false,false,false,false,false,false] (by kernel_rfl) rfl rfl (hx333_0) (fun hHeld=>?_);refine zjw pack_Pack.tab13 pack_Pack.bits13 (fun HT_ HW_=>?_)
                               generalize wr.drew=w28 at HO_6 HB GG27 HQ30 hf27_0 hx27_0 hx333_0 hHeld ⊢;refine pX 0 HT_.out ?_;refine pX 1 HT_.out ?_;refine pX 2 HT_.out ?_;refine pX 3 HT_.out ?_;refine pX 5 HT_.out ?_;refine pX 6 HT_.out ?_;refine pX 7 HT_.out ?_;refine pX 8 HT_.out ?_;refine pX 9 HT_.out ?_;refine pX 10 HT_.out ?_;refine pX 11 HT_.out ?_;refine pX 12 HT_.out ?_;refine take_ (i:=4) (N:=some 50) (v:=?_) (a':=?_) #[true,true,true,true,true,true,true,true,true,true,true,true,true,false,false,false] rfl rfl (zlE HT_.out HW_.out (by kernel_rfl)) (fun _ _ _ h=>h) (Or.inl ⟨by rfl,?_⟩) hHeld ?_ ?_;rotate_left
                               · intro w' s0;go_simp
                                 with_reducible rfl
                               rotate_left
                               · simp only[Act.put,List.setIfInBounds_toArray,List.set_cons_zero,List.set_cons_succ,i64_w,i32_w];rfl
                               refine pX 13 HT_.out ?_;refine pX 14 HT_.out ?_;refine last_ (i:=15) (N:=none) #[true,true,true,true,true,true,true,true,true,true,true,true,true,true,true,true] rfl rfl (one_of HT_.out (by kernel_rfl)) (by decide) (fun K hK=>?_);refine skip_ (w1:=?_) (by rfl) rfl ?_ ?_;rotate_left
                               · go_simp;rfl
                               refine hK.out _ _ ?_;clear hK K;refine done_ (zok HT_.out (by kernel_rfl)) ?_;try go_wp2
                               go_roundg k3
                               case measure=>have:=HK1.out;have:=HJ12.out;have:=HK3.out;omega
                               case rel=>exact ⟨(y334),(wrap64 (x38_3+1)),(by first | rfl | (simp;done) | (simp[*];done)),H',⟨by have:=HK1.out;have:=HJ12.out;have:=HK3.out;omega⟩,⟨by (with_reducible repeat (first | apply Kd.R_alloc | apply Kd.R_drewN | apply Kd.zbP));first | exact HQ30.out | (have h_:=HQ30.out;rw[<-hji26_,IntKind.wrap_u8]at h_;exact h_)⟩,⟨by repeat (first | (with_reducible first | exact HB.out | apply zak | apply zae | apply zaj | refine zli ?_ GB27.out) | exact HB.out)⟩⟩
                             · rw[if_neg c25]at H;exact absurd H (by simp)
                           · rw[if_neg c22]at H;exact absurd H (by simp)
                         · rw[if_neg c21]at H;exact absurd H (by simp)
                       · rw[if_neg c20]at H;exact absurd H (by simp)
                     · rw[if_neg c18]at H;have c18b0:decide (x38_3<a1)=false:=decide_eq_false c18;clear c18;have H':=Aside0.mk H;clear H;go_wp2;go_roundg k3
                       case measure=>have:=HK1.out;have:=HJ12.out;have:=HK3.out;omega
                       case rel=>exact ⟨(x6_3),(wrap64 (x24_1+1)),(by first | rfl | (simp;done) | (simp[*];done)),H',⟨by have:=HK1.out;have:=HJ12.out;have:=HK3.out;omega⟩,⟨by (with_reducible repeat (first | apply Kd.R_alloc | apply Kd.R_drewN | apply Kd.zbP));exact HO_6.out⟩,⟨by repeat (first | (with_reducible first | exact HB.out | apply zak | apply zae | apply zaj) | exact HB.out)⟩⟩
             · rw[if_neg c12]at H;exact absurd H (by simp)
           · rw[if_neg c11]at H;exact absurd H (by simp)
         · rw[if_neg c10]at H;have c10b0:decide (x24_1<(l0.length:Int))=false:=decide_eq_false c10;clear c10;simp only[Option.some.injEq,Prod.mk.injEq]at H;obtain ⟨rfl,rfl⟩:=H;go_wp2;go_ret2;exact ⟨_,by first | rfl | (simp[zaJ,zaI]<;>rfl) | (simp[*,zaJ,zaI]<;>rfl),by (with_reducible repeat (first | apply Kd.R_alloc | apply Kd.R_drewN | apply Kd.zbP));exact HO_6.out,by repeat (first | (with_reducible first | exact HB.out | apply zak | apply zae | apply zaj) | exact HB.out)⟩
     · rw[if_neg c7]at H;exact absurd H (by simp)
   · rw[if_neg c6]at H;exact absurd H (by simp)
 · replace c4:=Bool.eq_false_iff.mpr c4
   subst c4;have H1:(some (([]:List Int),1))=some (r1,r2):=(by rw[if_neg (show ¬(false=true) by decide)]at H;exact H);clear H;have H:=H1;clear H1;simp only[Option.some.injEq,Prod.mk.injEq]at H;obtain ⟨rfl,rfl⟩:=H;go_enter func40,ntmps40
   go_wp2_with (first | ((with_reducible refine zaR (f:=80) rfl ?_);refine zdS (some 14) rfl rfl func80 (by kernel_rfl) rfl #[.int .i64 (l0.length:Int),.int .i64 a1] rfl (by (try simp only[List.map_toArray,List.map_cons,List.map_nil]);first | done | rfl | (simp only[List.length_drop,List.length_take];rfl)) ?_;(with_reducible refine (pack_fits.calls (l0.length:Int) a1 false _ A3.out).mono ?_);rintro e w' ⟨rfl,⟨nd,rfl⟩⟩;refine ⟨_,rfl,?_⟩))
   go_ret2;exact ⟨_,by first | rfl | (simp[zaJ,zaI]<;>rfl) | (simp[*,zaJ,zaI]<;>rfl),by first | exact Kd.R_nil _ _ _ _ _ | exact Kd.N_nil _ _ _ _ _ | exact Kd.V_nil _ _ _ _ _ | exact Kd.Q_nil _ _ _ _ _ | exact Kd.S_nil _ _ _ _ _,by repeat (first | (with_reducible first | exact HB.out | apply zak | apply zae | apply zaj) | exact HB.out)⟩
end
section
attribute [local go_sem] zaB zaz zaQ zaP zav zau zaA zay
def crc_one.l0:Nat->Int->Int->Option (Int)
 | 0,_,_=>none
 | k+1,x0,x10=>if x10<8 then (if (Go.bits .and .i64 (wrap64 (x0*2)) 16777216)=0 then (crc_one.l0 k (wrap64 (x0*2)) (wrap64 (x10+1))) else (crc_one.l0 k (Go.bits .xor .i64 (wrap64 (x0*2)) 25578747) (wrap64 (x10+1)))) else (some x0)
def crc_one.f (k:Nat) (a0:Int) (a1:Int):Option (Int):=crc_one.l0 k (Go.bits .xor .i64 a0 (wrap64 ((wrap64 (a1))*65536))) 0
theorem crc_one.calls (k:Nat) (a0:Int) (a1:Int) (r:Int) (w:World) (h:crc_one.f k a0 a1=some r) :
    Calls Tryz.prog 150 #[.int .i64 a0,.int .u8 a1] w fun e w'=>e=.returned (.int .i64 r)/\Drawn0 w w':=by
 have H:(crc_one.l0 k (Go.bits .xor .i64 a0 (wrap64 ((wrap64 (a1))*65536))) 0)=some r:=h;clear h;have H':=Aside0.mk H;clear H;go_enter func150,ntmps150
 go_wp2;go_loopg [0,10] k (fun kq v0 v10 w'=>∃(x0_1:Int) (x10_1:Int),v0=.int .i64 x0_1/\v10=.int .i64 x10_1/\Aside0 (crc_one.l0 kq x0_1 x10_1=some r)/\Aside0 (kq<=k)/\Drawn0 w w')
 case atStart=>exact ⟨(Go.bits .xor .i64 a0 (wrap64 ((wrap64 (a1))*65536))),(0),(by first | rfl | (simp;done) | (simp[*];done)),(by first | rfl | (simp;done) | (simp[*];done)),H',⟨Nat.le_refl _⟩,by repeat (first | exact Drawn0.refl _ | apply Drawn0.step)⟩
 case round=>
  clear H';(try clear c1);(try clear p2);obtain ⟨x0_1,x10_1,rfl,rfl,HA,HK1,⟨m1,rfl⟩⟩:=hrel;cases gk with
  | zero=>exact absurd HA.out (by simp[crc_one.l0])
  | succ k1=>
   have H:=HA.out;clear HA;simp only[crc_one.l0]at H;by_cases c3:x10_1<8
   · rw[if_pos c3]at H;have c3b0:decide (x10_1<8)=true:=decide_eq_true c3;clear c3;by_cases c4:(Go.bits .and .i64 (wrap64 (x0_1*2)) 16777216)=0
     · rw[if_pos c4]at H;have c4b0:((Go.bits .and .i64 (wrap64 (x0_1*2)) 16777216) == 0)=true:=beq_iff_eq.mpr c4;have c4b1:((Go.bits .and .i64 (wrap64 (x0_1*2)) 16777216) != 0)=false:=bne_eq_false_iff_eq.mpr c4;clear c4;have H':=Aside0.mk H;clear H;go_wp2;go_roundg k1
       case measure=>have:=HK1.out;omega
       case rel=>exact ⟨(wrap64 (x0_1*2)),(wrap64 (x10_1+1)),(by first | rfl | (simp;done) | (simp[*];done)),(by first | rfl | (simp;done) | (simp[*];done)),H',⟨by have:=HK1.out;omega⟩,by repeat (first | exact Drawn0.refl _ | apply Drawn0.step)⟩
     · rw[if_neg c4]at H;have c4b0:((Go.bits .and .i64 (wrap64 (x0_1*2)) 16777216) == 0)=false:=beq_eq_false_iff_ne.mpr c4;have c4b1:((Go.bits .and .i64 (wrap64 (x0_1*2)) 16777216) != 0)=true:=bne_iff_ne.mpr c4;have H':=Aside0.mk H;clear H;go_wp2;go_roundg k1
       case measure=>have:=HK1.out;omega
       case rel=>exact ⟨(Go.bits .xor .i64 (wrap64 (x0_1*2)) 25578747),(wrap64 (x10_1+1)),(by first | rfl | (simp;done) | (simp[*];done)),(by first | rfl | (simp;done) | (simp[*];done)),H',⟨by have:=HK1.out;omega⟩,by repeat (first | exact Drawn0.refl _ | apply Drawn0.step)⟩
   · rw[if_neg c3]at H;have c3b0:decide (x10_1<8)=false:=decide_eq_false c3;clear c3;obtain rfl:=Option.some.inj H;go_wp2;go_ret;exact ⟨by first | rfl | (simp;done) | (simp[*];done),by repeat (first | exact Drawn0.refl _ | apply Drawn0.step)⟩
end
section
attribute [local go_sem] zaB zaz zaQ zaP zav zau zaA zay
def bytes_Equal.f (l0:List Int) (l1:List Int):Option (Bool):=some ((strOfNums l0).toList == (strOfNums l1).toList)
theorem bytes_Equal.calls (A0:Option Addr) (c0:Nat) (l0:List Int) (A1:Option Addr) (c1:Nat) (l1:List Int) (r:Bool) (w:World) (hr0:Kd.C (Kd.int .u8) w A0 l0.length l0) (hc0:l0.length<=c0) (hr1:Kd.C (Kd.int .u8) w A1 l1.length l1) (hc1:l1.length<=c1) (h:bytes_Equal.f l0 l1=some r) :
    Calls Tryz.prog 36 #[.slice A0 l0.length c0,.slice A1 l1.length c1] w fun e w'=>e=.returned (.bool r)/\Drawn0 w w':=by
 have HR0:=Aside0.mk hr0;have HC0:=Aside0.mk hc0;clear hr0 hc0;have HR1:=Aside0.mk hr1;have HC1:=Aside0.mk hc1;clear hr1 hc1;have H:(some ((strOfNums l0).toList == (strOfNums l1).toList))=some r:=h;clear h;obtain rfl:=Option.some.inj H;have hcv3:=Kd.C_string (P:=Tryz.prog) (A:=A0) (c:=c0) underlying32 underlying5 underlying9 HR0.out;have hcv4:=Kd.C_string (P:=Tryz.prog) (A:=A1) (c:=c1) underlying32 underlying5 underlying9 HR1.out;go_enter func36,ntmps36
 go_wp2;go_ret;exact ⟨by first | rfl | (simp;done) | (simp[*];done),by repeat (first | exact Drawn0.refl _ | apply Drawn0.step)⟩
end
end Go.Proofs.YtaeiifngjglchaaGreatDoor.PTopFile
end
