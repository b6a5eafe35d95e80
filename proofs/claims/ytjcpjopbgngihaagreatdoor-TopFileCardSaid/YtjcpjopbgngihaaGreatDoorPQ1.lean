/- Functions of the program and their contracts, as the kit's print tool wrote them, cut by a program of mine; each theorem states its own conditions. -/
import Derived.Test.YtjcpjopbgngihaaGreatDoorPW3
import Derived.Test.YtjcpjopbgngihaaGreatDoorPL1
import Derived.Test.YtjcpjopbgngihaaGreatDoorPS1
set_option maxHeartbeats 16000000
set_option maxRecDepth 1000000
set_option linter.unusedSimpArgs false
set_option linter.unusedVariables false
section
namespace Go.Proofs.YtjcpjopbgngihaaGreatDoor.PTopFile
open Tryz
open Go.RowKit Go.Proofs.YtjcpjopbgngihaaGreatDoorW.PrintWords Go.Proofs.YtjcpjopbgngihaaGreatDoorW.PrintLast Go.Proofs.YtjcpjopbgngihaaGreatDoorW.PrintMore
section
attribute [local go_sem] zaz zax zaJ zaI zam zal zay zaw
def errW:Option Int->Value
 | none=>.nilIface
 | some c=>.iface 0 (.int .i64 c)
theorem zat:errW none=.nilIface:=rfl
theorem zas (c:Int):errW (some c)=.iface 0 (.int .i64 c):=rfl
theorem info3:(Tryz.prog.info? 3).map (fun i=>(i.zero,i.size,i.bytes))=some (some (.int .i64 0),1,8):=by kernel_rfl
theorem info5:(Tryz.prog.info? 5).map (fun i=>(i.zero,i.size,i.bytes))=some (some (.int .u8 0),1,1):=by kernel_rfl
def rd_L2 (xs:List (List Int)) (i:Int):(List Int):=xs.getD i.toNat ([]:List Int)
theorem at_L2 {w:World} {A:Option Addr} {n:Nat} {xs:List (List Int)} (h:Kd.C (Kd.slice 5 (Kd.int .u8)) w A n xs) (i:Int) (h0:0<=i) (h1:i<n):∃ad A0 c0,A=some ad/\w.cell? (ad.add i.toNat)=some (.slice A0 (rd_L2 xs i).length c0)/\(rd_L2 xs i).length<=c0/\(Kd.int .u8).C w A0 (rd_L2 xs i).length (rd_L2 xs i):=by
 obtain ⟨ad,c,e,_,hK,hc0⟩:=Kd.C_get h ([]:List Int) i h0 h1;have hc:∀j u,c[j]?=some u->w.cell? (ad.add (i.toNat*1+j))=some u:=hc0;obtain ⟨A0,c0,rfl,l0,g0⟩:=hK;exact ⟨ad,A0,c0,e,by have hq:=hc 0 _ rfl;rwa[Nat.mul_one,Nat.add_zero]at hq,l0,g0⟩
structure S53 where
 f0:Int
 f1:(List Int)
def z53:S53:=⟨(0:Int),([]:List Int)⟩
structure S82 where
 f0:Int
 f1:ByteArray
 f2:ByteArray
structure S96 where
 f0:S82
 f1:S82
 f2:S82
end
section
attribute [local go_sem] zaz zax zaJ zaI zam zal zay zaw
def lines_isPlain.f (a0:Int):Option (Bool):=if a0>=97 then (if a0<=122 then (some true) else (if a0>=65 then (if a0<=90 then (some true) else (if a0>=48 then (some (decide (a0<=57))) else (some false))) else (if a0>=48 then (some (decide (a0<=57))) else (some false)))) else (if a0>=65 then (if a0<=90 then (some true) else (if a0>=48 then (some (decide (a0<=57))) else (some false))) else (if a0>=48 then (some (decide (a0<=57))) else (some false)))
theorem lines_isPlain.calls (a0:Int) (r:Bool) (w:World) (h:lines_isPlain.f a0=some r) :
    Calls Tryz.prog 142 #[.int .i32 a0] w fun e w'=>e=.returned (.bool r)/\Drawn0 w w':=by
 unfold lines_isPlain.f at h;repeat' split at h
 all_goals first
 | (exfalso;omega)
 | (obtain rfl:=Option.some.inj h
    clear h
    (try simp only[ge_iff_le,Int.not_le]at *)
    go_enter func142,ntmps142
    go_wp2;go_ret;exact ⟨by first | rfl | (simp;done) | (simp[*];done) | (simp[*];omega),by repeat (first | exact Drawn0.refl _ | apply Drawn0.step)⟩)
end
section
attribute [local go_sem] zaz zax zaJ zaI zam zal zay zaw
def bits_Len.f (_k:Nat) (a0:Int):Option (Int):=if 0<=a0/\a0<=18446744073709551615 then some ((Lib.bitLen a0.toNat:Nat):Int) else none
theorem bits_Len.calls (k:Nat) (a0:Int) (r:Int) (w:World) (h:bits_Len.f k a0=some r) :
    Calls Tryz.prog 52 #[.int .u64 a0] w fun e w'=>e=.returned (.int .i64 r)/\Drawn0 w w':=by
 unfold bits_Len.f at h;split at h
 · rename_i hc;injection h with h;subst h;refine (Go.Proofs.Tryz.bits_Len a0 w hc.1 hc.2).mono ?_;rintro e w' ⟨rfl,rfl⟩;exact ⟨rfl,Drawn0.refl _⟩
 · cases h
end
section
attribute [local go_sem] zaz zax zaJ zaI zam zal zay zaw
def pack_Width.f (k:Nat) (a0:Int):Option (Int):=(bits_Len.f k (IntKind.u64.wrap (mx a0 0))).bind fun t102=>(some t102)
theorem pack_Width.calls (k:Nat) (a0:Int) (r:Int) (w:World) (h:pack_Width.f k a0=some r) :
    Calls Tryz.prog 18 #[.int .i64 a0] w fun e w'=>e=.returned (.int .i64 r)/\Below w.heap.size w w':=by
 have HB:=Aside0.mk (Below.refl w.heap.size w);have H:((bits_Len.f k (IntKind.u64.wrap (mx a0 0))).bind fun t102=>(some t102))=some r:=h;clear h;obtain ⟨ji2,hji2⟩:∃j_:Int,(mx a0 0)=j_:=⟨_,rfl⟩
 replace H:((bits_Len.f k (IntKind.u64.wrap (ji2))).bind fun t102=>(some t102))=some r:=by first | (rw[hji2]at H;exact H) | (simp only[hji2]at H ⊢;exact H)
 (try (have hji2l:0<=ji2:=by (rw[<-hji2];unfold mx;(repeat' split)<;>omega)))
 (try (have hji2m:0<=ji2:=by omega))
 have hji2_:(if a0<0 then 0 else a0)=ji2:=hji2
 replace H:=Option.bind_eq_some_iff.mp H
 obtain ⟨t102,A30,H⟩:=H
 replace H:(some t102)=some r:=H
 have A3:=Aside0.mk A30;clear A30;obtain rfl:=Option.some.inj H;go_enter func18,ntmps18
 go_wp2_with (first | ((with_reducible refine zaK (f:=52) rfl ?_);refine zcv (some 6) rfl rfl func52 (by kernel_rfl) rfl #[.int .u64 (IntKind.u64.wrap (ji2))] rfl (by (try simp only[List.map_toArray,List.map_cons,List.map_nil]);first | done | (simp only[hji2];rfl) | rfl | (simp only[List.length_drop,List.length_take];rfl)) ?_;(with_reducible refine (bits_Len.calls k (IntKind.u64.wrap (ji2)) t102 _ A3.out).mono ?_);rintro e w' ⟨rfl,⟨nd,rfl⟩⟩;refine ⟨_,rfl,?_⟩))
 go_ret;exact ⟨by first | rfl | (simp[zat,zas]<;>rfl) | (simp only[<-hji2];first | rfl | (simp[zat,zas]<;>rfl)) | (simp[*,zat,zas]<;>rfl),by repeat (first | (with_reducible first | exact HB.out | apply zag | apply zad | apply zaf) | exact HB.out)⟩
end
section
attribute [local go_sem] zaz zax zaJ zaI zam zal zay zaw
def pack_fits.f (a0:Int) (a1:Int):Option (Bool):=if a1>=0 then (if a1<=20 then (if a0>=0 then (some (decide (a0<=1000))) else (some false)) else (some false)) else (some false)
theorem pack_fits.calls (a0:Int) (a1:Int) (r:Bool) (w:World) (h:pack_fits.f a0 a1=some r) :
    Calls Tryz.prog 50 #[.int .i64 a0,.int .i64 a1] w fun e w'=>e=.returned (.bool r)/\Drawn0 w w':=by
 have H:(if a1>=0 then (if a1<=20 then (if a0>=0 then (some (decide (a0<=1000))) else (some false)) else (some false)) else (some false))=some r:=h;clear h;by_cases c3:a1>=0
 · rw[if_pos c3]at H;have c3b0:decide (0<=a1)=true:=decide_eq_true c3;clear c3;by_cases c4:a1<=20
   · rw[if_pos c4]at H;have c4b0:decide (a1<=20)=true:=decide_eq_true c4;clear c4;by_cases c5:a0>=0
     · rw[if_pos c5]at H;have c5b0:decide (0<=a0)=true:=decide_eq_true c5;clear c5;obtain rfl:=Option.some.inj H;go_enter func50,ntmps50
       go_wp2;go_ret;exact ⟨by first | rfl | (simp;done) | (simp[*];done),by repeat (first | exact Drawn0.refl _ | apply Drawn0.step)⟩
     · rw[if_neg c5]at H;have c5b0:decide (0<=a0)=false:=decide_eq_false c5;clear c5;obtain rfl:=Option.some.inj H;go_enter func50,ntmps50
       go_wp2;go_ret;exact ⟨by first | rfl | (simp;done) | (simp[*];done),by repeat (first | exact Drawn0.refl _ | apply Drawn0.step)⟩
   · rw[if_neg c4]at H;have c4b0:decide (a1<=20)=false:=decide_eq_false c4;clear c4;obtain rfl:=Option.some.inj H;go_enter func50,ntmps50
     go_wp2;go_ret;exact ⟨by first | rfl | (simp;done) | (simp[*];done),by repeat (first | exact Drawn0.refl _ | apply Drawn0.step)⟩
 · rw[if_neg c3]at H;have c3b0:decide (0<=a1)=false:=decide_eq_false c3;clear c3;obtain rfl:=Option.some.inj H;go_enter func50,ntmps50
   go_wp2;go_ret;exact ⟨by first | rfl | (simp;done) | (simp[*];done),by repeat (first | exact Drawn0.refl _ | apply Drawn0.step)⟩
end
section
attribute [local go_sem] zaz zax zaJ zaI zam zal zay zaw
def pack_size.f (a0:Int):Option (Int):=some (wrap64 (Int.tdiv (wrap64 ((wrap64 (a0+8))-1)) 8))
theorem pack_size.calls (a0:Int) (r:Int) (w:World) (h:pack_size.f a0=some r) :
    Calls Tryz.prog 51 #[.int .i64 a0] w fun e w'=>e=.returned (.int .i64 r)/\Drawn0 w w':=by
 have H:(some (wrap64 (Int.tdiv (wrap64 ((wrap64 (a0+8))-1)) 8)))=some r:=h;clear h;obtain rfl:=Option.some.inj H;go_enter func51,ntmps51
 go_wp2;go_ret;exact ⟨by first | rfl | (simp;done) | (simp[*];done),by repeat (first | exact Drawn0.refl _ | apply Drawn0.step)⟩
end
section
attribute [local go_sem] zaz zax zaJ zaI zam zal zay zaw
mutual
def pack_Pack.l0:Nat->Int->List Int->List Int->Int->Int->Option (List Int × Int)
 | 0,_,_,_,_,_=>none
 | k+1,x1,x6,x22,x23,x24=>if x24<x23 then (if 0<=x24 then (if x24<(x22.length:Int) then (if (rd x22 x24)<0 then (pack_Pack.j1 k x1 x6 x24 (rd x22 x24) x22 x23 x24 true) else ((pack_Width.f k (rd x22 x24)).bind fun t110=>(pack_Pack.j1 k x1 x6 x24 (rd x22 x24) x22 x23 x24 (decide (t110 > x1))))) else (none)) else (none)) else (some (x6,0))
def pack_Pack.j1:Nat->Int->List Int->Int->Int->List Int->Int->Int->Bool->Option (List Int × Int)
 | 0,_,_,_,_,_,_,_,_=>none
 | k+1,x1,x6,x7,x8,x22,x23,x24,x36=>if x36=true then (some (([]:List Int),1)) else (pack_Pack.l1 k x1 x6 x7 x8 x22 x23 x24 x1 0)
def pack_Pack.l1:Nat->Int->List Int->Int->Int->List Int->Int->Int->Int->Int->Option (List Int × Int)
 | 0,_,_,_,_,_,_,_,_,_=>none
 | k+1,x1,x6,x7,x8,x22,x23,x24,x37,x38=>if x38<x37 then (if 0<=(wrap64 (Int.tdiv (wrap64 ((wrap64 (x7*x1))+x38)) 8)) then (if (wrap64 (Int.tdiv (wrap64 ((wrap64 (x7*x1))+x38)) 8))<(x6.length:Int) then (if 0<=x38 then (if 0<=(Int.tmod (wrap64 ((wrap64 (x7*x1))+x38)) 8) then (pack_Pack.l1 k x1 (x6.set ((wrap64 (Int.tdiv (wrap64 ((wrap64 (x7*x1))+x38)) 8)):Int).toNat (Go.bits .or .u8 (rd x6 (wrap64 (Int.tdiv (wrap64 ((wrap64 (x7*x1))+x38)) 8))) (shl .u8 ((Go.bits .and .i64 (shr .i64 x8 x38) 1) % 256) (Int.tmod (wrap64 ((wrap64 (x7*x1))+x38)) 8)))) x7 x8 x22 x23 x24 x37 (wrap64 (x38+1))) else (none)) else (none)) else (none)) else (none)) else (pack_Pack.l0 k x1 x6 x22 x23 (wrap64 (x24+1)))
end
def pack_Pack.f (k:Nat) (l0:List Int) (a1:Int):Option (List Int × Int):=(pack_fits.f (l0.length:Int) a1).bind fun t104=>(if t104=true then ((pack_size.f (wrap64 ((l0.length:Int)*a1))).bind fun t105=>(if 0<=t105 then (if (t105:Int).toNat<=281474976710656 then (pack_Pack.l0 k a1 (List.replicate (t105:Int).toNat 0) l0 (l0.length:Int) 0) else (none)) else (none))) else (some (([]:List Int),1)))
def pack_Pack.T13:Bool × List (List Nat × List Nat):=(true,[([],[]),([],[]),([1],[1]),([0,2],[0,2]),([3],[3]),([],[]),([],[]),([5,6],[5,6]),([7],[7]),([8],[8]),([],[]),([10],[10]),([9,11],[9,11]),([4,12],[4,12]),([0,2,0,1,2,3,4,5,6,7,8,9,10,11,12,13],[0,2]),([14,13,0,1,2,3,4,5,6,7,8,9,10,11,12,13],[13,14])])
def pack_Pack.B13:List Nat:=[0,0,2,7,15,0,0,96,224,480,0,1024,4064,8191,16383,32767]
theorem pack_Pack.tab13:rtab .any (opsOf f36 13)=pack_Pack.T13:=by kernel_rfl
theorem pack_Pack.bits13:waitsOk pack_Pack.T13.2 pack_Pack.B13=true:=by kernel_rfl
theorem pack_Pack.calls (k:Nat) (A0:Option Addr) (c0:Nat) (l0:List Int) (a1:Int) (r1:List Int) (r2:Int) (w:World) (hr0:Kd.C (Kd.int .i64) w A0 l0.length l0) (hc0:l0.length<=c0) (h:pack_Pack.f k l0 a1=some (r1,r2)) :
    Calls Tryz.prog 36 #[.slice A0 l0.length c0,.int .i64 a1] w fun e w'=>∃v0_:Value,e=.returned (.tuple #[v0_,.int .i64 r2])/\Kd.R (Kd.int .u8) 5 w' w.heap.size (fun _=>True) v0_ r1/\Below w.heap.size w w':=by
 have HR0:=Aside0.mk hr0;have HC0:=Aside0.mk hc0;clear hr0 hc0;have HB:=Aside0.mk (Below.refl w.heap.size w);have H:((pack_fits.f (l0.length:Int) a1).bind fun t104=>(if t104=true then ((pack_size.f (wrap64 ((l0.length:Int)*a1))).bind fun t105=>(if 0<=t105 then (if (t105:Int).toNat<=281474976710656 then (pack_Pack.l0 k a1 (List.replicate (t105:Int).toNat 0) l0 (l0.length:Int) 0) else (none)) else (none))) else (some (([]:List Int),1))))=some (r1,r2):=h;clear h
 replace H:=Option.bind_eq_some_iff.mp H
 obtain ⟨t104,A30,H⟩:=H
 replace H:(if t104=true then ((pack_size.f (wrap64 ((l0.length:Int)*a1))).bind fun t105=>(if 0<=t105 then (if (t105:Int).toNat<=281474976710656 then (pack_Pack.l0 k a1 (List.replicate (t105:Int).toNat 0) l0 (l0.length:Int) 0) else (none)) else (none))) else (some (([]:List Int),1)))=some (r1,r2):=H
 have A3:=Aside0.mk A30;clear A30;by_cases c4:t104=true
 · subst c4;have H1:((pack_size.f (wrap64 ((l0.length:Int)*a1))).bind fun t105=>(if 0<=t105 then (if (t105:Int).toNat<=281474976710656 then (pack_Pack.l0 k a1 (List.replicate (t105:Int).toNat 0) l0 (l0.length:Int) 0) else (none)) else (none)))=some (r1,r2):=(by rw[if_pos rfl]at H;exact H);clear H;have H:=H1;clear H1
   replace H:=Option.bind_eq_some_iff.mp H
   obtain ⟨t105,A50,H⟩:=H
   replace H:(if 0<=t105 then (if (t105:Int).toNat<=281474976710656 then (pack_Pack.l0 k a1 (List.replicate (t105:Int).toNat 0) l0 (l0.length:Int) 0) else (none)) else (none))=some (r1,r2):=H
   have A5:=Aside0.mk A50;clear A50;by_cases c6:0<=t105
   · rw[if_pos c6]at H;have c6b0:=eq_true c6;have c6b1:decide (0<=t105)=true:=decide_eq_true c6;clear c6;by_cases c7:(t105:Int).toNat<=281474976710656
     · rw[if_pos c7]at H;have c7b0:=eq_true c7;have c7b1:decide ((t105:Int).toNat<=281474976710656)=true:=decide_eq_true c7;clear c7;obtain ⟨y106,hy106⟩:∃y_:List Int,y_=(List.replicate (t105:Int).toNat 0):=⟨_,rfl⟩
       replace H:(pack_Pack.l0 k a1 y106 l0 (l0.length:Int) 0)=some (r1,r2):=by first | (rw[hy106];with_reducible exact H) | (have H2_:=(Option.bind_some _ _).symm.trans H;rw[hy106];with_reducible exact H2_) | (have H2_:=(Option.bind_some _ _).symm.trans H;with_reducible exact H2_) | with_reducible exact H | (rw[hy106];exact H) | exact H
       have Ny106:=Aside0.mk hy106;clear hy106;have H':=Aside0.mk H;clear H;go_enter func36,ntmps36
       go_wp2_with (first | ((with_reducible refine zaK (f:=50) rfl ?_);refine zcv (some 14) rfl rfl func50 (by kernel_rfl) rfl #[.int .i64 (l0.length:Int),.int .i64 a1] rfl (by (try simp only[List.map_toArray,List.map_cons,List.map_nil]);first | done | rfl | (simp only[List.length_drop,List.length_take];rfl)) ?_;(with_reducible refine (pack_fits.calls (l0.length:Int) a1 true _ A3.out).mono ?_);rintro e w' ⟨rfl,⟨nd,rfl⟩⟩;refine ⟨_,rfl,?_⟩) | ((with_reducible refine zaK (f:=51) rfl ?_);refine zcv (some 20) rfl rfl func51 (by kernel_rfl) rfl #[.int .i64 (wrap64 ((l0.length:Int)*a1))] rfl (by (try simp only[List.map_toArray,List.map_cons,List.map_nil]);first | done | rfl | (simp only[List.length_drop,List.length_take];rfl)) ?_;(with_reducible refine (pack_size.calls (wrap64 ((l0.length:Int)*a1)) t105 _ A5.out).mono ?_);rintro e w' ⟨rfl,⟨nd,rfl⟩⟩;refine ⟨_,rfl,?_⟩) | ((with_reducible refine zdi (N:=21) rfl ?_);refine Kd.znY (Kd.int .u8) _ 5 rfl (N:=21) rfl 22 _ _ rfl t105 rfl rfl underlying22 (.int .u8 0) 1 info5 rfl (by decide) (by omega) 0 (ok:=fun _=>True) (okp:=fun _=>True) rfl (fun _ hk=>hk) trivial (of_decide_eq_true (by first | (with_reducible assumption) | assumption)) (Nat.le_trans (Nat.mul_le_mul_right _ (of_decide_eq_true (by first | (with_reducible assumption) | assumption):t105.toNat<=281474976710656)) (by omega)) (Below.refl _ _) (Nat.le_refl _) ?_;intro v107 w8 ho9 hb hg_ hnew_;clear hg_ hnew_;(first | rw[<-Ny106.out]at ho9 | (simp only[Int.reduceToNat]at ho9;rw[<-Ny106.out]at ho9));have n0_:=Aside0.mk (Kd.zeo ho9 (zbV (by repeat (first | (with_reducible first | exact HB.out | apply zag | apply zad | apply zaf) | exact HB.out))));have n1_:=Aside0.mk (zbt (by repeat (first | (with_reducible first | exact HB.out | apply zag | apply zad | apply zaf) | exact HB.out)) hb);clear HB;have HO108:=n0_;have HB:=n1_;clear n0_ n1_;clear hb ho9))
       go_loopg [24] k (fun kq v24 w'=>∃(x6_1:List Int) (x24_1:Int),v24=.int .i64 x24_1/\Aside0 (pack_Pack.l0 kq a1 x6_1 l0 (l0.length:Int) x24_1=some (r1,r2))/\Aside0 (kq<=k)/\Aside0 (Kd.R (Kd.int .u8) 5 w' w.heap.size (fun _=>True) v107 x6_1)/\Aside0 (Below w.heap.size w w'))
       case atStart=>exact ⟨(y106),(0),(by first | rfl | (simp;done) | (simp[*];done)),H',⟨Nat.le_refl _⟩,⟨by (with_reducible repeat (first | apply Kd.R_alloc | apply Kd.R_drewN | apply Kd.za3));exact HO108.out⟩,⟨by repeat (first | (with_reducible first | exact HB.out | apply zag | apply zad | apply zaf) | exact HB.out)⟩⟩
       case round=>
        clear H';(try clear p2);(try clear c3);(try clear c4);(try clear c5);(try clear c6);(try clear c6b0);(try clear c6b1);(try clear p6);(try clear c7);(try clear c7b0);(try clear c7b1);obtain ⟨x6_1,x24_1,rfl,HA,HK1,HO_6,HB⟩:=hrel;cases gk with
        | zero=>exact absurd HA.out (by simp[pack_Pack.l0])
        | succ k1=>
         have H:=HA.out;clear HA;simp only[pack_Pack.l0]at H;by_cases c10:x24_1<(l0.length:Int)
         · rw[if_pos c10]at H;have c10b0:decide (x24_1<(l0.length:Int))=true:=decide_eq_true c10;clear c10;by_cases c11:0<=x24_1
           · rw[if_pos c11]at H;have c11b0:decide (0<=x24_1)=true:=decide_eq_true c11;clear c11;by_cases c12:x24_1<(l0.length:Int)
             · rw[if_pos c12]at H;have c12b0:decide (x24_1<(l0.length:Int))=true:=decide_eq_true c12;clear c12;have HC13:=Aside0.mk H;clear H;have p109:0<=(x24_1:Int):=of_decide_eq_true (by first | (with_reducible assumption) | assumption);have q109:x24_1<(l0.length:Int):=of_decide_eq_true (by first | (with_reducible assumption) | assumption);obtain ⟨ad109,e109,hx109_0⟩:=Kd.zbl HR0.out x24_1 p109 q109;cases e109
               replace hx109_0:=(HB.out.cell (World.block_lt_of_cell? w _ hx109_0)).trans hx109_0
               replace p109:=eq_true p109
               replace q109:=eq_true q109
               go_upto_region 7 with (fail)
               go_cut [36] (fun v36 wc=>∃(kq:Nat) (x36_12:Bool),v36=.bool x36_12/\Aside0 (pack_Pack.j1 kq a1 x6_1 x24_1 (rd l0 x24_1) l0 (l0.length:Int) x24_1 x36_12=some (r1,r2))/\Aside0 (kq<=k1)/\Aside0 (Kd.R (Kd.int .u8) 5 wc w.heap.size (fun _=>True) v107 x6_1)/\Aside0 (Below w.heap.size w wc))
               case first=>
                have H:=HC13.out;clear HC13;by_cases c14:(rd l0 x24_1)<0
                · rw[if_pos c14]at H;have c14b0:decide ((rd l0 x24_1)<0)=true:=decide_eq_true c14;clear c14
                  (first | rw[c14b0] | (simp only[i64_w,i32_w];rw[c14b0]) | skip)
                  have H':=Aside0.mk H;clear H;go_wp2;go_meet
                  case rel=>exact ⟨_,(true),(by first | rfl | (simp;done) | (simp[*];done)),H',⟨by have:=HK1.out;first | omega | exact Nat.le_refl _⟩,⟨by (with_reducible repeat (first | apply Kd.R_alloc | apply Kd.R_drewN | apply Kd.za3));exact HO_6.out⟩,⟨by repeat (first | (with_reducible first | exact HB.out | apply zag | apply zad | apply zaf) | exact HB.out)⟩⟩
                · rw[if_neg c14]at H;have c14b0:decide ((rd l0 x24_1)<0)=false:=decide_eq_false c14;clear c14
                  (first | rw[c14b0] | (simp only[i64_w,i32_w];rw[c14b0]) | skip)
                  replace H:=Option.bind_eq_some_iff.mp H
                  obtain ⟨t110,A150,H⟩:=H
                  replace H:(pack_Pack.j1 k1 a1 x6_1 x24_1 (rd l0 x24_1) l0 (l0.length:Int) x24_1 (decide (t110 > a1)))=some (r1,r2):=H
                  have A15:=Aside0.mk A150;clear A150;have H':=Aside0.mk H;clear H;go_wp2_with (first | (go_at_call 18;(with_reducible refine (pack_Width.calls k1 (rd l0 x24_1) t110 _ A15.out).mono ?_);rintro e w16 ⟨rfl,hb⟩;have n0_:=Aside0.mk (Kd.zlV (by (with_reducible repeat (first | apply Kd.R_alloc | apply Kd.R_drewN | apply Kd.za3));exact HO_6.out) hb);have n1_:=Aside0.mk (zbt (by repeat (first | (with_reducible first | exact HB.out | apply zag | apply zad | apply zaf) | exact HB.out)) hb);clear HO_6;clear HB;have HO_6:=n0_;have HB:=n1_;clear n0_ n1_;(try clear hb);(try clear hb2);(try clear hk);(try clear hi)))
                  go_meet
                  case rel=>exact ⟨_,(decide (t110 > a1)),(by first | rfl | (simp;done) | (simp[*];done)),H',⟨by have:=HK1.out;first | omega | exact Nat.le_refl _⟩,⟨by (with_reducible repeat (first | apply Kd.R_alloc | apply Kd.R_drewN | apply Kd.za3));exact HO_6.out⟩,⟨by repeat (first | (with_reducible first | exact HB.out | apply zag | apply zad | apply zaf) | exact HB.out)⟩⟩
               case rest=>
                clear HC13;(try clear c1);(try clear p1);(try clear q1);(try clear hx1);(try clear p2);(try clear c3);(try clear c4);(try clear c5);(try clear c6);(try clear c6b0);(try clear c6b1);(try clear p6);(try clear c7);(try clear c7b0);(try clear c7b1);(try clear c10);(try clear c10b0);(try clear p10);(try clear q10);(try clear hx10);(try clear c11);(try clear c11b0);(try clear c12);(try clear c12b0);(try clear c14);(try clear c14b0);(try clear hx109_0);(try clear p109);(try clear p2);(try clear p6);(try clear q109);obtain ⟨kq,x36_12,rfl,HA,HJ12,HO_6,HB⟩:=hcut;cases kq with
                | zero=>exact absurd HA.out (by simp[pack_Pack.j1])
                | succ kj12=>
                 have H:=HA.out;clear HA;simp only[pack_Pack.j1]at H;by_cases c17:x36_12=true
                 · subst c17;have H1:(some (([]:List Int),1))=some (r1,r2):=(by rw[if_pos rfl]at H;exact H);clear H;have H:=H1;clear H1;simp only[Option.some.injEq,Prod.mk.injEq]at H;obtain ⟨rfl,rfl⟩:=H;go_wp2;go_ret2;exact ⟨_,by first | rfl | (simp[zat,zas]<;>rfl) | (simp[*,zat,zas]<;>rfl),by first | exact Kd.R_nil _ _ _ _ _ | exact Kd.N_nil _ _ _ _ _ | exact Kd.V_nil _ _ _ _ _ | exact Kd.Q_nil _ _ _ _ _ | exact Kd.S_nil _ _ _ _ _,by repeat (first | (with_reducible first | exact HB.out | apply zag | apply zad | apply zaf) | exact HB.out)⟩
                 · replace c17:=Bool.eq_false_iff.mpr c17
                   subst c17;have H1:(pack_Pack.l1 kj12 a1 x6_1 x24_1 (rd l0 x24_1) l0 (l0.length:Int) x24_1 a1 0)=some (r1,r2):=(by rw[if_neg (show ¬(false=true) by decide)]at H;exact H);clear H;have H:=H1;clear H1;have H':=Aside0.mk H;clear H;go_wp2;go_loopg [38] kj12 (fun kq v38 w'=>∃(x6_3:List Int) (x38_3:Int),v38=.int .i64 x38_3/\Aside0 (pack_Pack.l1 kq a1 x6_3 x24_1 (rd l0 x24_1) l0 (l0.length:Int) x24_1 a1 x38_3=some (r1,r2))/\Aside0 (kq<=kj12)/\Aside0 (Kd.R (Kd.int .u8) 5 w' w.heap.size (fun _=>True) v107 x6_3)/\Aside0 (Below w.heap.size w w'))
                   case atStart=>exact ⟨(x6_1),(0),(by first | rfl | (simp;done) | (simp[*];done)),H',⟨Nat.le_refl _⟩,⟨by (with_reducible repeat (first | apply Kd.R_alloc | apply Kd.R_drewN | apply Kd.za3));exact HO_6.out⟩,⟨by repeat (first | (with_reducible first | exact HB.out | apply zag | apply zad | apply zaf) | exact HB.out)⟩⟩
                   case round=>
                    clear H';(try clear c1);(try clear p1);(try clear q1);(try clear hx1);(try clear p2);(try clear c3);(try clear c4);(try clear c5);(try clear c6);(try clear c6b0);(try clear c6b1);(try clear p6);(try clear c7);(try clear c7b0);(try clear c7b1);(try clear c10);(try clear c10b0);(try clear p10);(try clear q10);(try clear hx10);(try clear c11);(try clear c11b0);(try clear c12);(try clear c12b0);(try clear c14);(try clear c14b0);(try clear c17);(try clear hx109_0);(try clear p1);(try clear p10);(try clear p109);(try clear p2);(try clear p6);(try clear q1);(try clear q10);(try clear q109);obtain ⟨x6_3,x38_3,rfl,HA,HK3,HO_6,HB⟩:=hrel;cases gk with
                    | zero=>exact absurd HA.out (by simp[pack_Pack.l1])
                    | succ k3=>
                     have H:=HA.out;clear HA;simp only[pack_Pack.l1]at H;by_cases c18:x38_3<a1
                     · rw[if_pos c18]at H;have c18b0:decide (x38_3<a1)=true:=decide_eq_true c18;clear c18;obtain ⟨ji19,hji19⟩:∃j_:Int,(wrap64 (Int.tdiv (wrap64 ((wrap64 (x24_1*a1))+x38_3)) 8))=j_:=⟨_,rfl⟩
                       replace H:(if 0<=(ji19) then (if (ji19)<(x6_3.length:Int) then (if 0<=x38_3 then (if 0<=(Int.tmod (wrap64 ((wrap64 (x24_1*a1))+x38_3)) 8) then (pack_Pack.l1 k3 a1 (x6_3.set ((ji19):Int).toNat (Go.bits .or .u8 (rd x6_3 (ji19)) (shl .u8 ((Go.bits .and .i64 (shr .i64 (rd l0 x24_1) x38_3) 1) % 256) (Int.tmod (wrap64 ((wrap64 (x24_1*a1))+x38_3)) 8)))) x24_1 (rd l0 x24_1) l0 (l0.length:Int) x24_1 a1 (wrap64 (x38_3+1))) else (none)) else (none)) else (none)) else (none))=some (r1,r2):=by first | (rw[hji19]at H;exact H) | (simp only[hji19]at H ⊢;exact H)
                       have hji19w:(IntKind.i64.wrap (Int.tdiv (wrap64 ((wrap64 (x24_1*a1))+x38_3)) 8))=ji19:=(i64_w _).trans hji19;by_cases c20:0<=(ji19)
                       · rw[if_pos c20]at H;have c20b0:decide (0<=(ji19))=true:=decide_eq_true c20;clear c20;by_cases c21:(ji19)<(x6_3.length:Int)
                         · rw[if_pos c21]at H;have c21b0:decide ((ji19)<(x6_3.length:Int))=true:=decide_eq_true c21;clear c21;by_cases c22:0<=x38_3
                           · rw[if_pos c22]at H;have c22b0:=eq_true c22;have c22b1:decide (0<=x38_3)=true:=decide_eq_true c22;clear c22;obtain ⟨ji23,hji23⟩:∃j_:Int,(shr .i64 (rd l0 x24_1) x38_3)=j_:=⟨_,rfl⟩
                             replace H:(if 0<=(Int.tmod (wrap64 ((wrap64 (x24_1*a1))+x38_3)) 8) then (pack_Pack.l1 k3 a1 (x6_3.set ((ji19):Int).toNat (Go.bits .or .u8 (rd x6_3 (ji19)) (shl .u8 ((Go.bits .and .i64 (ji23) 1) % 256) (Int.tmod (wrap64 ((wrap64 (x24_1*a1))+x38_3)) 8)))) x24_1 (rd l0 x24_1) l0 (l0.length:Int) x24_1 a1 (wrap64 (x38_3+1))) else (none))=some (r1,r2):=by first | (rw[hji23]at H;exact H) | (simp only[hji23]at H ⊢;exact H)
                             have hji23_:((rd l0 x24_1) / 2 ^ min x38_3.toNat 64)=ji23:=hji23;have hji23z:x38_3<=64->((rd l0 x24_1) / 2 ^ x38_3.toNat)=ji23:=zgh hji23;obtain ⟨ji24,hji24⟩:∃j_:Int,(Int.tmod (wrap64 ((wrap64 (x24_1*a1))+x38_3)) 8)=j_:=⟨_,rfl⟩
                             replace H:(if 0<=(ji24) then (pack_Pack.l1 k3 a1 (x6_3.set ((ji19):Int).toNat (Go.bits .or .u8 (rd x6_3 (ji19)) (shl .u8 ((Go.bits .and .i64 (ji23) 1) % 256) (ji24)))) x24_1 (rd l0 x24_1) l0 (l0.length:Int) x24_1 a1 (wrap64 (x38_3+1))) else (none))=some (r1,r2):=by first | (rw[hji24]at H;exact H) | (simp only[hji24]at H ⊢;exact H)
                             by_cases c25:0<=(ji24)
                             · rw[if_pos c25]at H;have c25b0:=eq_true c25;have c25b1:decide (0<=(ji24))=true:=decide_eq_true c25;clear c25;obtain ⟨ji26,hji26⟩:∃j_:Int,(shl .u8 ((Go.bits .and .i64 (ji23) 1) % 256) (ji24))=j_:=⟨_,rfl⟩
                               replace H:(pack_Pack.l1 k3 a1 (x6_3.set ((ji19):Int).toNat (Go.bits .or .u8 (rd x6_3 (ji19)) (ji26))) x24_1 (rd l0 x24_1) l0 (l0.length:Int) x24_1 a1 (wrap64 (x38_3+1)))=some (r1,r2):=by first | (rw[hji26]at H;exact H) | (simp only[hji26]at H ⊢;exact H)
                               have hji26_:(IntKind.u8.wrap (((Go.bits .and .i64 (ji23) 1) % 256)*2 ^ min (ji24).toNat 8))=ji26:=hji26;have hji26z:(ji24)<=8->(IntKind.u8.wrap (((Go.bits .and .i64 (ji23) 1) % 256)*2 ^ (ji24).toNat))=ji26:=zgj hji26;obtain ⟨y112,hy112⟩:∃y_:List Int,y_=(x6_3.set ((ji19):Int).toNat (Go.bits .or .u8 (rd x6_3 (ji19)) (ji26))):=⟨_,rfl⟩
                               replace H:(pack_Pack.l1 k3 a1 y112 x24_1 (rd l0 x24_1) l0 (l0.length:Int) x24_1 a1 (wrap64 (x38_3+1)))=some (r1,r2):=by first | (rw[hy112];with_reducible exact H) | (have H2_:=(Option.bind_some _ _).symm.trans H;rw[hy112];with_reducible exact H2_) | (have H2_:=(Option.bind_some _ _).symm.trans H;with_reducible exact H2_) | with_reducible exact H | (rw[hy112];exact H) | exact H
                               have Ny112:=Aside0.mk hy112;clear hy112;have H':=Aside0.mk H;clear H;try go_wp2
                               have n0_:=Aside0.mk (Kd.za3 HO_6.out);have n1_:=Aside0.mk (zaf HB.out);clear HO_6;clear HB;have HO_6:=n0_;have HB:=n1_;clear n0_ n1_;obtain ⟨Ao29,co29,eo29⟩:=Kd.zlS HO_6.out
                               (first | subst eo29 | (injection eo29 with f1_ f2_ f3_;have f4_:=f1_.symm;have f5_:=f3_.symm;clear f1_ f2_ f3_;subst f4_;subst f5_))
                               have p111:0<=((ji19):Int):=of_decide_eq_true (by first | (with_reducible assumption) | assumption);have q111:(ji19)<(x6_3.length:Int):=of_decide_eq_true (by first | (with_reducible assumption) | assumption);obtain ⟨ad111,e111,hx111_0⟩:=Kd.zbl (Kd.zdm HO_6.out).2.2 (ji19) p111 q111;cases e111
                               replace p111:=eq_true p111
                               replace q111:=eq_true q111
                               have p27:0<=((ji19):Int):=of_decide_eq_true (by first | (with_reducible assumption) | assumption);have q27:((ji19):Int)<((x6_3.length:Int):Int):=of_decide_eq_true (by first | (with_reducible assumption) | assumption);obtain ⟨go27,co27,eo27,gb27,gl27,cl27,HG27⟩:=Kd.znZ HO_6.out (by omega)
                               (first | cases eo27 | (injection eo27 with ea_ en_ ec_;(first | subst ea_ | (injection ea_ with ea_;subst ea_));subst ec_;clear en_))
                               have GB27:=Aside0.mk gb27;have GG27:=Aside0.mk HG27;clear gb27 gl27 HG27
                               (first | simp only[add_plain]at hx111_0 | skip)
                               obtain ⟨hx27_0,hf27_0⟩:=Kd.zlT 0 HO_6.out ((ji19):Int) p27 q27
                               replace p27:=eq_true p27
                               replace q27:=eq_true q27
                               have HP30:=Kd.znV HO_6.out ((ji19):Int) (Go.bits .or .u8 (rd x6_3 (ji19)) (ji26));rw[<-Ny112.out]at HP30;have HQ30:=Aside0.mk HP30;clear HP30;refine zbI (n:=16) (S:=fun w'=>w'.cell? ⟨go27,((ji19)).toNat,none⟩=some (.int .u8 (rd x6_3 (ji19)))) (ds:=[15]) #[false,false,false,false,false,false,false,false,false,false,false,false,false,false,false,false] (by kernel_rfl) rfl rfl (hx111_0) (fun hHeld=>?_);refine zfZ pack_Pack.tab13 pack_Pack.bits13 (fun HT_ HW_=>?_)
                               generalize wr.drew=w28 at HO_6 HB GG27 HQ30 hf27_0 hx111_0 hx27_0 hHeld ⊢;refine pX 0 HT_.out ?_;refine pX 1 HT_.out ?_;refine pX 2 HT_.out ?_;refine pX 3 HT_.out ?_;refine pX 5 HT_.out ?_;refine pX 6 HT_.out ?_;refine pX 7 HT_.out ?_;refine pX 8 HT_.out ?_;refine pX 9 HT_.out ?_;refine pX 10 HT_.out ?_;refine pX 11 HT_.out ?_;refine pX 12 HT_.out ?_;refine take_ (i:=4) (N:=some 50) (v:=?_) (a':=?_) #[true,true,true,true,true,true,true,true,true,true,true,true,true,false,false,false] rfl rfl (zin HT_.out HW_.out (by kernel_rfl)) (fun _ _ _ h=>h) (Or.inl ⟨by rfl,?_⟩) hHeld ?_ ?_;rotate_left
                               · intro w' s0;go_simp
                                 with_reducible rfl
                               rotate_left
                               · simp only[Act.put,List.setIfInBounds_toArray,List.set_cons_zero,List.set_cons_succ,i64_w,i32_w];rfl
                               refine pX 13 HT_.out ?_;refine pX 14 HT_.out ?_;refine last_ (i:=15) (N:=none) #[true,true,true,true,true,true,true,true,true,true,true,true,true,true,true,true] rfl rfl (znH HT_.out (by kernel_rfl)) (by decide) (fun K hK=>?_);refine skip_ (w1:=?_) (by rfl) rfl ?_ ?_;rotate_left
                               · go_simp;rfl
                               refine hK.out _ _ ?_;clear hK K;refine done_ (zlG HT_.out (by kernel_rfl)) ?_;try go_wp2
                               go_roundg k3
                               case measure=>have:=HK1.out;have:=HJ12.out;have:=HK3.out;omega
                               case rel=>exact ⟨(y112),(wrap64 (x38_3+1)),(by first | rfl | (simp;done) | (simp[*];done)),H',⟨by have:=HK1.out;have:=HJ12.out;have:=HK3.out;omega⟩,⟨by (with_reducible repeat (first | apply Kd.R_alloc | apply Kd.R_drewN | apply Kd.za3));first | exact HQ30.out | (have h_:=HQ30.out;rw[<-hji26_,IntKind.wrap_u8]at h_;exact h_)⟩,⟨by repeat (first | (with_reducible first | exact HB.out | apply zag | apply zad | apply zaf | refine zha ?_ GB27.out) | exact HB.out)⟩⟩
                             · rw[if_neg c25]at H;exact absurd H (by simp)
                           · rw[if_neg c22]at H;exact absurd H (by simp)
                         · rw[if_neg c21]at H;exact absurd H (by simp)
                       · rw[if_neg c20]at H;exact absurd H (by simp)
                     · rw[if_neg c18]at H;have c18b0:decide (x38_3<a1)=false:=decide_eq_false c18;clear c18;have H':=Aside0.mk H;clear H;go_wp2;go_roundg k3
                       case measure=>have:=HK1.out;have:=HJ12.out;have:=HK3.out;omega
                       case rel=>exact ⟨(x6_3),(wrap64 (x24_1+1)),(by first | rfl | (simp;done) | (simp[*];done)),H',⟨by have:=HK1.out;have:=HJ12.out;have:=HK3.out;omega⟩,⟨by (with_reducible repeat (first | apply Kd.R_alloc | apply Kd.R_drewN | apply Kd.za3));exact HO_6.out⟩,⟨by repeat (first | (with_reducible first | exact HB.out | apply zag | apply zad | apply zaf) | exact HB.out)⟩⟩
             · rw[if_neg c12]at H;exact absurd H (by simp)
           · rw[if_neg c11]at H;exact absurd H (by simp)
         · rw[if_neg c10]at H;have c10b0:decide (x24_1<(l0.length:Int))=false:=decide_eq_false c10;clear c10;simp only[Option.some.injEq,Prod.mk.injEq]at H;obtain ⟨rfl,rfl⟩:=H;go_wp2;go_ret2;exact ⟨_,by first | rfl | (simp[zat,zas]<;>rfl) | (simp[*,zat,zas]<;>rfl),by (with_reducible repeat (first | apply Kd.R_alloc | apply Kd.R_drewN | apply Kd.za3));exact HO_6.out,by repeat (first | (with_reducible first | exact HB.out | apply zag | apply zad | apply zaf) | exact HB.out)⟩
     · rw[if_neg c7]at H;exact absurd H (by simp)
   · rw[if_neg c6]at H;exact absurd H (by simp)
 · replace c4:=Bool.eq_false_iff.mpr c4
   subst c4;have H1:(some (([]:List Int),1))=some (r1,r2):=(by rw[if_neg (show ¬(false=true) by decide)]at H;exact H);clear H;have H:=H1;clear H1;simp only[Option.some.injEq,Prod.mk.injEq]at H;obtain ⟨rfl,rfl⟩:=H;go_enter func36,ntmps36
   go_wp2_with (first | ((with_reducible refine zaK (f:=50) rfl ?_);refine zcv (some 14) rfl rfl func50 (by kernel_rfl) rfl #[.int .i64 (l0.length:Int),.int .i64 a1] rfl (by (try simp only[List.map_toArray,List.map_cons,List.map_nil]);first | done | rfl | (simp only[List.length_drop,List.length_take];rfl)) ?_;(with_reducible refine (pack_fits.calls (l0.length:Int) a1 false _ A3.out).mono ?_);rintro e w' ⟨rfl,⟨nd,rfl⟩⟩;refine ⟨_,rfl,?_⟩))
   go_ret2;exact ⟨_,by first | rfl | (simp[zat,zas]<;>rfl) | (simp[*,zat,zas]<;>rfl),by first | exact Kd.R_nil _ _ _ _ _ | exact Kd.N_nil _ _ _ _ _ | exact Kd.V_nil _ _ _ _ _ | exact Kd.Q_nil _ _ _ _ _ | exact Kd.S_nil _ _ _ _ _,by repeat (first | (with_reducible first | exact HB.out | apply zag | apply zad | apply zaf) | exact HB.out)⟩
end
section
attribute [local go_sem] zaz zax zaJ zaI zam zal zay zaw
def crc_one.l0:Nat->Int->Int->Option (Int)
 | 0,_,_=>none
 | k+1,x0,x10=>if x10<8 then (if (Go.bits .and .i64 (wrap64 (x0*2)) 16777216)=0 then (crc_one.l0 k (wrap64 (x0*2)) (wrap64 (x10+1))) else (crc_one.l0 k (Go.bits .xor .i64 (wrap64 (x0*2)) 25578747) (wrap64 (x10+1)))) else (some x0)
def crc_one.f (k:Nat) (a0:Int) (a1:Int):Option (Int):=crc_one.l0 k (Go.bits .xor .i64 a0 (wrap64 ((wrap64 (a1))*65536))) 0
theorem crc_one.calls (k:Nat) (a0:Int) (a1:Int) (r:Int) (w:World) (h:crc_one.f k a0 a1=some r) :
    Calls Tryz.prog 130 #[.int .i64 a0,.int .u8 a1] w fun e w'=>e=.returned (.int .i64 r)/\Drawn0 w w':=by
 have H:(crc_one.l0 k (Go.bits .xor .i64 a0 (wrap64 ((wrap64 (a1))*65536))) 0)=some r:=h;clear h;have H':=Aside0.mk H;clear H;go_enter func130,ntmps130
 go_wp2;go_loopg [0,10] k (fun kq v0 v10 w'=>∃(x0_1:Int) (x10_1:Int),v0=.int .i64 x0_1/\v10=.int .i64 x10_1/\Aside0 (crc_one.l0 kq x0_1 x10_1=some r)/\Aside0 (kq<=k)/\Drawn0 w w')
 case atStart=>exact ⟨(Go.bits .xor .i64 a0 (wrap64 ((wrap64 (a1))*65536))),(0),(by first | rfl | (simp;done) | (simp[*];done)),(by first | rfl | (simp;done) | (simp[*];done)),H',⟨Nat.le_refl _⟩,by repeat (first | exact Drawn0.refl _ | apply Drawn0.step)⟩
 case round=>
  clear H';(try clear c1);(try clear p2);obtain ⟨x0_1,x10_1,rfl,rfl,HA,HK1,⟨m1,rfl⟩⟩:=hrel;cases gk with
  | zero=>exact absurd HA.out (by simp[crc_one.l0])
  | succ k1=>
   have H:=HA.out;clear HA;simp only[crc_one.l0]at H;by_cases c3:x10_1<8
   · rw[if_pos c3]at H;have c3b0:decide (x10_1<8)=true:=decide_eq_true c3;clear c3;by_cases c4:(Go.bits .and .i64 (wrap64 (x0_1*2)) 16777216)=0
     · rw[if_pos c4]at H;have c4b0:((Go.bits .and .i64 (wrap64 (x0_1*2)) 16777216) == 0)=true:=beq_iff_eq.mpr c4;have c4b1:((Go.bits .and .i64 (wrap64 (x0_1*2)) 16777216) != 0)=false:=bne_eq_false_iff_eq.mpr c4;clear c4;have H':=Aside0.mk H;clear H;go_wp2;go_roundg k1
       case measure=>have:=HK1.out;omega
       case rel=>exact ⟨(wrap64 (x0_1*2)),(wrap64 (x10_1+1)),(by first | rfl | (simp;done) | (simp[*];done)),(by first | rfl | (simp;done) | (simp[*];done)),H',⟨by have:=HK1.out;omega⟩,by repeat (first | exact Drawn0.refl _ | apply Drawn0.step)⟩
     · rw[if_neg c4]at H;have c4b0:((Go.bits .and .i64 (wrap64 (x0_1*2)) 16777216) == 0)=false:=beq_eq_false_iff_ne.mpr c4;have c4b1:((Go.bits .and .i64 (wrap64 (x0_1*2)) 16777216) != 0)=true:=bne_iff_ne.mpr c4;have H':=Aside0.mk H;clear H;go_wp2;go_roundg k1
       case measure=>have:=HK1.out;omega
       case rel=>exact ⟨(Go.bits .xor .i64 (wrap64 (x0_1*2)) 25578747),(wrap64 (x10_1+1)),(by first | rfl | (simp;done) | (simp[*];done)),(by first | rfl | (simp;done) | (simp[*];done)),H',⟨by have:=HK1.out;omega⟩,by repeat (first | exact Drawn0.refl _ | apply Drawn0.step)⟩
   · rw[if_neg c3]at H;have c3b0:decide (x10_1<8)=false:=decide_eq_false c3;clear c3;obtain rfl:=Option.some.inj H;go_wp2;go_ret;exact ⟨by first | rfl | (simp;done) | (simp[*];done),by repeat (first | exact Drawn0.refl _ | apply Drawn0.step)⟩
end
section
attribute [local go_sem] zaz zax zaJ zaI zam zal zay zaw
mutual
def crc_Sum.l0:Nat->Int->List (List Int)->Int->Int->Option (Int)
 | 0,_,_,_,_=>none
 | k+1,x3,x8,x9,x10=>if x10<x9 then (if 0<=x10 then (if x10<(x8.length:Int) then (crc_Sum.l1 k x3 x8 x9 x10 (rd_L2 x8 x10) ((rd_L2 x8 x10).length:Int) 0) else (none)) else (none)) else (some x3)
def crc_Sum.l1:Nat->Int->List (List Int)->Int->Int->List Int->Int->Int->Option (Int)
 | 0,_,_,_,_,_,_,_=>none
 | k+1,x3,x8,x9,x10,x14,x15,x16=>if x16<x15 then (if 0<=x16 then (if x16<(x14.length:Int) then ((crc_one.f k x3 (rd x14 x16)).bind fun t118=>(crc_Sum.l1 k t118 x8 x9 x10 x14 x15 (wrap64 (x16+1)))) else (none)) else (none)) else (crc_Sum.l0 k x3 x8 x9 (wrap64 (x10+1)))
end
def crc_Sum.f (k:Nat) (l0:List (List Int)):Option (Int):=crc_Sum.l0 k 11994318 l0 (l0.length:Int) 0
theorem crc_Sum.calls (k:Nat) (A0:Option Addr) (c0:Nat) (l0:List (List Int)) (r:Int) (w:World) (hr0:Kd.C (Kd.slice 5 (Kd.int .u8)) w A0 l0.length l0) (hc0:l0.length<=c0) (h:crc_Sum.f k l0=some r) :
    Calls Tryz.prog 89 #[.slice A0 l0.length c0] w fun e w'=>e=.returned (.int .i64 r)/\Drawn0 w w':=by
 have HR0:=Aside0.mk hr0;have HC0:=Aside0.mk hc0;clear hr0 hc0;have H:(crc_Sum.l0 k 11994318 l0 (l0.length:Int) 0)=some r:=h;clear h;have H':=Aside0.mk H;clear H;go_enter func89,ntmps89
 go_wp2;go_loopg [3,10] k (fun kq v3 v10 w'=>∃(x3_1:Int) (x10_1:Int),v3=.int .i64 x3_1/\v10=.int .i64 x10_1/\Aside0 (crc_Sum.l0 kq x3_1 l0 (l0.length:Int) x10_1=some r)/\Aside0 (kq<=k)/\Drawn0 w w')
 case atStart=>exact ⟨(11994318),(0),(by first | rfl | (simp;done) | (simp[*];done)),(by first | rfl | (simp;done) | (simp[*];done)),H',⟨Nat.le_refl _⟩,by repeat (first | exact Drawn0.refl _ | apply Drawn0.step)⟩
 case round=>
  clear H';obtain ⟨x3_1,x10_1,rfl,rfl,HA,HK1,⟨m1,rfl⟩⟩:=hrel;cases gk with
  | zero=>exact absurd HA.out (by simp[crc_Sum.l0])
  | succ k1=>
   have H:=HA.out;clear HA;simp only[crc_Sum.l0]at H;by_cases c2:x10_1<(l0.length:Int)
   · rw[if_pos c2]at H;have c2b0:decide (x10_1<(l0.length:Int))=true:=decide_eq_true c2;clear c2;by_cases c3:0<=x10_1
     · rw[if_pos c3]at H;have c3b0:decide (0<=x10_1)=true:=decide_eq_true c3;clear c3;by_cases c4:x10_1<(l0.length:Int)
       · rw[if_pos c4]at H;have c4b0:decide (x10_1<(l0.length:Int))=true:=decide_eq_true c4;clear c4;have H':=Aside0.mk H;clear H;have p116:0<=(x10_1:Int):=of_decide_eq_true (by first | (with_reducible assumption) | assumption);have q116:x10_1<(l0.length:Int):=of_decide_eq_true (by first | (with_reducible assumption) | assumption);obtain ⟨ad116,A116_0,c116_0,e116,hx116_0,hl116_0,hi116_0⟩:=at_L2 HR0.out x10_1 p116 q116;cases e116
         have HR116_0:=Aside0.mk hi116_0;have HC116_0:=Aside0.mk hl116_0;clear hi116_0 hl116_0
         replace p116:=eq_true p116
         replace q116:=eq_true q116
         go_wp2;go_loopg [3,16] k1 (fun kq v3 v16 w'=>∃(x3_2:Int) (x16_2:Int),v3=.int .i64 x3_2/\v16=.int .i64 x16_2/\Aside0 (crc_Sum.l1 kq x3_2 l0 (l0.length:Int) x10_1 (rd_L2 l0 x10_1) ((rd_L2 l0 x10_1).length:Int) x16_2=some r)/\Aside0 (kq<=k1)/\Drawn0 w w')
         case atStart=>exact ⟨(x3_1),(0),(by first | rfl | (simp;done) | (simp[*];done)),(by first | rfl | (simp;done) | (simp[*];done)),H',⟨Nat.le_refl _⟩,by repeat (first | exact Drawn0.refl _ | apply Drawn0.step)⟩
         case round=>
          clear H';(try clear c1);(try clear p1);(try clear q1);(try clear hx1);(try clear c2);(try clear c2b0);(try clear p2);(try clear c3);(try clear c3b0);(try clear c4);(try clear c4b0);(try clear hx116_0);(try clear p116);(try clear q116);obtain ⟨x3_2,x16_2,rfl,rfl,HA,HK2,⟨m2,rfl⟩⟩:=hrel;cases gk with
          | zero=>exact absurd HA.out (by simp[crc_Sum.l1])
          | succ k2=>
           have H:=HA.out;clear HA;simp only[crc_Sum.l1]at H;by_cases c5:x16_2<((rd_L2 l0 x10_1).length:Int)
           · rw[if_pos c5]at H;have c5b0:decide (x16_2<((rd_L2 l0 x10_1).length:Int))=true:=decide_eq_true c5;clear c5;by_cases c6:0<=x16_2
             · rw[if_pos c6]at H;have c6b0:decide (0<=x16_2)=true:=decide_eq_true c6;clear c6;by_cases c7:x16_2<((rd_L2 l0 x10_1).length:Int)
               · rw[if_pos c7]at H;have c7b0:decide (x16_2<((rd_L2 l0 x10_1).length:Int))=true:=decide_eq_true c7;clear c7
                 replace H:=Option.bind_eq_some_iff.mp H
                 obtain ⟨t118,A80,H⟩:=H
                 replace H:(crc_Sum.l1 k2 t118 l0 (l0.length:Int) x10_1 (rd_L2 l0 x10_1) ((rd_L2 l0 x10_1).length:Int) (wrap64 (x16_2+1)))=some r:=H
                 have A8:=Aside0.mk A80;clear A80;have H':=Aside0.mk H;clear H;have p117:0<=(x16_2:Int):=of_decide_eq_true (by first | (with_reducible assumption) | assumption);have q117:x16_2<((rd_L2 l0 x10_1).length:Int):=of_decide_eq_true (by first | (with_reducible assumption) | assumption);obtain ⟨ad117,e117,hx117_0⟩:=Kd.zbl HR116_0.out x16_2 p117 q117;cases e117
                 replace p117:=eq_true p117
                 replace q117:=eq_true q117
                 go_wp2_with (first | ((with_reducible refine zaK (f:=130) rfl ?_);refine zcv (some 22) rfl rfl func130 (by kernel_rfl) rfl #[.int .i64 x3_2,.int .u8 (rd (rd_L2 l0 x10_1) x16_2)] rfl (by (try simp only[List.map_toArray,List.map_cons,List.map_nil]);first | done | rfl | (simp only[List.length_drop,List.length_take];rfl)) ?_;(with_reducible refine (crc_one.calls k2 x3_2 (rd (rd_L2 l0 x10_1) x16_2) t118 _ A8.out).mono ?_);rintro e w' ⟨rfl,⟨nd,rfl⟩⟩;refine ⟨_,rfl,?_⟩))
                 go_roundg k2
                 case measure=>have:=HK1.out;have:=HK2.out;omega
                 case rel=>exact ⟨(t118),(wrap64 (x16_2+1)),(by first | rfl | (simp;done) | (simp[*];done)),(by first | rfl | (simp;done) | (simp[*];done)),H',⟨by have:=HK1.out;have:=HK2.out;omega⟩,by repeat (first | exact Drawn0.refl _ | apply Drawn0.step)⟩
               · rw[if_neg c7]at H;exact absurd H (by simp)
             · rw[if_neg c6]at H;exact absurd H (by simp)
           · rw[if_neg c5]at H;have c5b0:decide (x16_2<((rd_L2 l0 x10_1).length:Int))=false:=decide_eq_false c5;clear c5;have H':=Aside0.mk H;clear H;go_wp2;go_roundg k2
             case measure=>have:=HK1.out;have:=HK2.out;omega
             case rel=>exact ⟨(x3_2),(wrap64 (x10_1+1)),(by first | rfl | (simp;done) | (simp[*];done)),(by first | rfl | (simp;done) | (simp[*];done)),H',⟨by have:=HK1.out;have:=HK2.out;omega⟩,by repeat (first | exact Drawn0.refl _ | apply Drawn0.step)⟩
       · rw[if_neg c4]at H;exact absurd H (by simp)
     · rw[if_neg c3]at H;exact absurd H (by simp)
   · rw[if_neg c2]at H;have c2b0:decide (x10_1<(l0.length:Int))=false:=decide_eq_false c2;clear c2;obtain rfl:=Option.some.inj H;go_wp2;go_ret;exact ⟨by first | rfl | (simp;done) | (simp[*];done),by repeat (first | exact Drawn0.refl _ | apply Drawn0.step)⟩
end
section
attribute [local go_sem] zaz zax zaJ zaI zam zal zay zaw
def box_laid.f (a0:Int):Option (List Int):=some (([(a0 / 65536) % 256,(a0 / 256) % 256,(a0) % 256]:List Int))
theorem box_laid.calls (a0:Int) (r:List Int) (w:World) (h:box_laid.f a0=some r) :
    Calls Tryz.prog 88 #[.int .i64 a0] w fun e w'=>∃v0_:Value,e=.returned (v0_)/\Kd.R (Kd.int .u8) 5 w' w.heap.size (fun _=>True) v0_ r/\Below w.heap.size w w':=by
 have HB:=Aside0.mk (Below.refl w.heap.size w);have H:(some (([(a0 / 65536) % 256,(a0 / 256) % 256,(a0) % 256]:List Int)))=some r:=h;clear h;obtain ⟨y113,hy113⟩:∃y_:List Int,y_=(([(a0 / 65536) % 256,(a0 / 256) % 256,(a0) % 256]:List Int)):=⟨_,rfl⟩
 replace H:(some y113)=some r:=by first | (rw[hy113];with_reducible exact H) | (have H2_:=(Option.bind_some _ _).symm.trans H;rw[hy113];with_reducible exact H2_) | (have H2_:=(Option.bind_some _ _).symm.trans H;with_reducible exact H2_) | with_reducible exact H | (rw[hy113];exact H) | exact H
 have Ny113:=Aside0.mk hy113;clear hy113;obtain rfl:=Option.some.inj H;go_enter func88,ntmps88
 go_wp2_with (first | ((with_reducible refine zdi (N:=11) rfl ?_);refine Kd.R_lit (Kd.int .u8) _ 5 ?hg (N:=11) ?hd (xs:=([(a0 / 65536) % 256,(a0 / 256) % 256,(a0) % 256]:List Int)) (inner:=[.int .u8 ((a0 / 65536) % 256),.int .u8 ((a0 / 256) % 256),.int .u8 ((a0) % 256)]) (ok:=fun _=>True) (okp:=fun _=>True) ?hr ?hp (fun _ hk=>hk) trivial (Below.refl _ _) (Nat.le_refl _) (by simp) ?_;(case hd=>rfl);(case hg=>rfl);(case hr=>first | (go_simp;done) | (go_simp;rfl));(case hp=>exact (Reps.one (show Kd.M (Kd.int .u8) _ _ _ ((a0 / 65536) % 256) [.int .u8 ((a0 / 65536) % 256)] from rfl) (Reps.one (show Kd.M (Kd.int .u8) _ _ _ ((a0 / 256) % 256) [.int .u8 ((a0 / 256) % 256)] from rfl) (Reps.one (show Kd.M (Kd.int .u8) _ _ _ ((a0) % 256) [.int .u8 ((a0) % 256)] from rfl) (Reps.none _ _)))));intro v114 w2 ho3 hb hg_ hnew_;clear hg_ hnew_;(first | rw[<-Ny113.out]at ho3 | (simp only[Int.reduceToNat]at ho3;rw[<-Ny113.out]at ho3));have n0_:=Aside0.mk (Kd.zeo ho3 (zbV (by repeat (first | (with_reducible first | exact HB.out | apply zag | apply zad | apply zaf) | exact HB.out))));have n1_:=Aside0.mk (zbt (by repeat (first | (with_reducible first | exact HB.out | apply zag | apply zad | apply zaf) | exact HB.out)) hb);clear HB;have HO115:=n0_;have HB:=n1_;clear n0_ n1_;clear hb ho3))
 go_ret;exact ⟨_,by first | rfl | (simp[zat,zas]<;>rfl) | (simp[*,zat,zas]<;>rfl),by (with_reducible repeat (first | apply Kd.R_alloc | apply Kd.R_drewN | apply Kd.za3));exact HO115.out,by repeat (first | (with_reducible first | exact HB.out | apply zag | apply zad | apply zaf) | exact HB.out)⟩
end
section
attribute [local go_sem] zaz zax zaJ zaI zam zal zay zaw
def box_number.f (l0:List Int):Option (Int):=if 0<(l0.length:Int) then (if 1<(l0.length:Int) then (if 2<(l0.length:Int) then (some (Go.bits .or .i64 (Go.bits .or .i64 (wrap64 ((wrap64 (rd l0 0))*65536)) (wrap64 ((wrap64 (rd l0 1))*256))) (wrap64 (rd l0 2)))) else (none)) else (none)) else (none)
theorem box_number.calls (A0:Option Addr) (c0:Nat) (l0:List Int) (r:Int) (w:World) (hr0:Kd.C (Kd.int .u8) w A0 l0.length l0) (hc0:l0.length<=c0) (h:box_number.f l0=some r) :
    Calls Tryz.prog 48 #[.slice A0 l0.length c0] w fun e w'=>e=.returned (.int .i64 r)/\Drawn0 w w':=by
 have HR0:=Aside0.mk hr0;have HC0:=Aside0.mk hc0;clear hr0 hc0;have H:(if 0<(l0.length:Int) then (if 1<(l0.length:Int) then (if 2<(l0.length:Int) then (some (Go.bits .or .i64 (Go.bits .or .i64 (wrap64 ((wrap64 (rd l0 0))*65536)) (wrap64 ((wrap64 (rd l0 1))*256))) (wrap64 (rd l0 2)))) else (none)) else (none)) else (none))=some r:=h;clear h;by_cases c2:0<(l0.length:Int)
 · rw[if_pos c2]at H;have c2b0:decide (0<(l0.length:Int))=true:=decide_eq_true c2;have c2b1:decide (0<l0.length)=true:=decide_eq_true (by omega);clear c2;by_cases c3:1<(l0.length:Int)
   · rw[if_pos c3]at H;have c3b0:decide (1<(l0.length:Int))=true:=decide_eq_true c3;have c3b1:decide (1<l0.length)=true:=decide_eq_true (by omega);clear c3;by_cases c4:2<(l0.length:Int)
     · rw[if_pos c4]at H;have c4b0:decide (2<(l0.length:Int))=true:=decide_eq_true c4;have c4b1:decide (2<l0.length)=true:=decide_eq_true (by omega);clear c4;obtain rfl:=Option.some.inj H;have p130:0<=(0:Int):=(by omega);have q130:0<(l0.length:Int):=of_decide_eq_true (by first | (with_reducible assumption) | assumption);obtain ⟨ad130,e130,hx130_0⟩:=Kd.zbl HR0.out 0 p130 q130;cases e130
       have qi130:(0<l0.length)=True:=eq_true (by omega)
       (try rw[show ((0:Int)).toNat=0 from rfl]at hx130_0)
       (try rw[Addr.add_zero']at hx130_0)
       replace p130:=eq_true p130
       replace q130:=eq_true q130
       have p131:0<=(1:Int):=(by omega);have q131:1<(l0.length:Int):=of_decide_eq_true (by first | (with_reducible assumption) | assumption);obtain ⟨ad131,e131,hx131_0⟩:=Kd.zbl HR0.out 1 p131 q131;obtain rfl:ad130=ad131:=(by injection e131)
       (try simp only[show (1:Int).toNat=1 from rfl,Nat.reduceMul,Nat.reduceEqDiff,Go.Addr.add,↓reduceIte]at hx131_0)
       have qi131:(1<l0.length)=True:=eq_true (by omega)
       (try rw[show ((1:Int)).toNat=1 from rfl]at hx131_0)
       replace p131:=eq_true p131
       replace q131:=eq_true q131
       have p132:0<=(2:Int):=(by omega);have q132:2<(l0.length:Int):=of_decide_eq_true (by first | (with_reducible assumption) | assumption);obtain ⟨ad132,e132,hx132_0⟩:=Kd.zbl HR0.out 2 p132 q132;obtain rfl:ad130=ad132:=(by injection e132)
       (try simp only[show (2:Int).toNat=2 from rfl,Nat.reduceMul,Nat.reduceEqDiff,Go.Addr.add,↓reduceIte]at hx132_0)
       have qi132:(2<l0.length)=True:=eq_true (by omega)
       (try rw[show ((2:Int)).toNat=2 from rfl]at hx132_0)
       replace p132:=eq_true p132
       replace q132:=eq_true q132
       go_enter func48,ntmps48
       go_wp2;repeat (go_quiet (fail);try go_wp2)
       go_ret;exact ⟨by first | rfl | (simp;done) | (simp[*];done),by repeat (first | exact Drawn0.refl _ | apply Drawn0.step)⟩
     · rw[if_neg c4]at H;exact absurd H (by simp)
   · rw[if_neg c3]at H;exact absurd H (by simp)
 · rw[if_neg c2]at H;exact absurd H (by simp)
end
section
attribute [local go_sem] zaz zax zaJ zaI zam zal zay zaw
def triviumref4_Alnum.f (a0:Int):Option (Bool):=if a0>=97 then (if a0<=122 then (some true) else (if a0>=65 then (if a0<=90 then (some true) else (if a0>=48 then (some (decide (a0<=57))) else (some false))) else (if a0>=48 then (some (decide (a0<=57))) else (some false)))) else (if a0>=65 then (if a0<=90 then (some true) else (if a0>=48 then (some (decide (a0<=57))) else (some false))) else (if a0>=48 then (some (decide (a0<=57))) else (some false)))
theorem triviumref4_Alnum.calls (a0:Int) (r:Bool) (w:World) (h:triviumref4_Alnum.f a0=some r) :
    Calls Tryz.prog 210 #[.int .u8 a0] w fun e w'=>e=.returned (.bool r)/\Drawn0 w w':=by
 unfold triviumref4_Alnum.f at h;repeat' split at h
 all_goals first
 | (exfalso;omega)
 | (obtain rfl:=Option.some.inj h
    clear h
    (try simp only[ge_iff_le,Int.not_le]at *)
    go_enter func210,ntmps210
    go_wp2;go_ret;exact ⟨by first | rfl | (simp;done) | (simp[*];done) | (simp[*];omega),by repeat (first | exact Drawn0.refl _ | apply Drawn0.step)⟩)
end
end Go.Proofs.YtjcpjopbgngihaaGreatDoor.PTopFile
end
