/- Proved on the way: Package pack: what Pack computes. Each theorem states its own conditions. -/
import Derived.Test.YtjcpjopbgngihaaGreatDoorPQ1
import Derived.Test.YtjcpjopbgngihaaGreatDoorM2
import Derived.Lib.ItoaNum
section
namespace Go.Proofs.YtjcpjopbgngihaaGreatDoor.Pk
open Tryz
open Go.RowKit Go.Proofs.YtjcpjopbgngihaaGreatDoorW.PrintWords Go.Proofs.YtjcpjopbgngihaaGreatDoorW.PrintLast Go.Proofs.YtjcpjopbgngihaaGreatDoorW.PrintMore Go.Proofs.YtjcpjopbgngihaaGreatDoor.PTopFile
theorem w64 (z:Int) (h0 : -9223372036854775808<=z) (h1:z<=9223372036854775807):wrap64 z=z:=by unfold wrap64;omega
theorem w64n (n:Nat) (h:n<=9223372036854775807):wrap64 (n:Int)=(n:Int):=w64 _ (by omega) (by omega)
theorem div8 (n:Nat):Int.tdiv (n:Int) 8=((n / 8:Nat):Int):=by rw[show (8:Int)=((8:Nat):Int) from rfl,<-Int.ofNat_tdiv]
theorem mod8 (n:Nat):Int.tmod (n:Int) 8=((n % 8:Nat):Int):=by rw[show (8:Int)=((8:Nat):Int) from rfl,<-Int.ofNat_tmod]
theorem w64s (n:Nat) (h:n<9223372036854775807):wrap64 ((n:Int)+1)=((n+1:Nat):Int):=w64n (n+1) (by omega)
theorem width_eq (k:Nat) (n:Int) (h0:0<=n) (h1:n<=9223372036854775807):pack_Width.f k n=some ((Lib.bitLen n.toNat:Nat):Int):=by
 unfold pack_Width.f bits_Len.f;have e:IntKind.u64.wrap (mx n 0)=n:=by
  have:mx n 0=n:=(by unfold mx;split<;>omega);rw[this,IntKind.wrap_u64];omega
 rw[e,if_pos ⟨h0,by omega⟩];rfl
theorem zbL {x w:Nat} (h:x<2 ^ w) (hw:w<=20):Lib.bitLen x<=w:=by
 have h20:x<2 ^ 20:=Nat.lt_of_lt_of_le h (Nat.pow_le_pow_right (by decide) hw);by_cases h0:x=0
 · subst h0;unfold Lib.bitLen;rw[Lib.bitLenAux_zero];omega
 · have hb:=Lib.bitLenAux_bounds 64 x (by omega) h0;unfold Lib.bitLen;refine Decidable.byContradiction fun hc=>?_;have h2:2 ^ w<=2 ^ (Lib.bitLenAux 64 x-1):=Nat.pow_le_pow_right (by decide) (by omega);omega
def ints (l:List Nat):List Int:=l.map fun n:Nat=>(n:Int)
theorem zaE (l:List Nat):(ints l).length=l.length:=by simp[ints]
theorem zdT (l:List Nat) (i:Nat):rd (ints l) (i:Int)=((l.getD i 0:Nat):Int):=by
 unfold rd ints;rw[Int.toNat_natCast,List.getD_eq_getElem?_getD,List.getElem?_map,List.getD_eq_getElem?_getD];cases l[i]?<;>rfl
theorem ints_set (l:List Nat) (i n:Nat):(ints l).set i (n:Int)=ints (l.set i n):=by
 unfold ints;rw[List.map_set]
theorem or8 (a b:Nat) (ha:a<256) (hb:b<256):Go.bits .or .u8 (a:Int) (b:Int)=((a ||| b:Nat):Int):=(bits_nat .u8 8 (by decide) wraps_u8 a b ha hb).2
theorem znO (n k t:Nat) (hn:n<1048576) (hk:k<=20) (ht:t<8):shl .u8 ((Go.bits .and .i64 (shr .i64 (n:Int) (k:Int)) 1) % 256) (t:Int)=(((n.testBit k).toNat <<< t:Nat):Int):=by
 have e1:shr .i64 (n:Int) (k:Int)=((n / 2 ^ k:Nat):Int):=by
  unfold shr;rw[Int.toNat_natCast,show min k IntKind.i64.bits=k from Nat.min_eq_left (by show k<=64;omega)]
  norm_cast
 have hd:n / 2 ^ k<=n:=Nat.div_le_self _ _;rw[e1,Nat.toNat_testBit];clear e1;obtain ⟨q,hq⟩:∃q,n / 2 ^ k=q:=⟨_,rfl⟩;rw[hq]at hd ⊢;clear hq;have e2:Go.bits .and .i64 (q:Int) 1=((q % 2:Nat):Int):=by
  have:=bits_mask .i64 62 (by decide) (fun n h0 h1=>wI (by omega)) 1 (by decide) (q:Int) (by omega) (by omega);rw[show ((2:Int) ^ 1-1)=1 from rfl]at this;rw[this];rfl
 have h2:q % 2<2:=Nat.mod_lt _ (by decide);rw[e2];obtain ⟨r,hr⟩:∃r,q % 2=r:=⟨_,rfl⟩;rw[hr]at h2 ⊢;clear hr e2 hd;unfold shl;rw[Int.toNat_natCast,show min t IntKind.u8.bits=t from Nat.min_eq_left (by show t<=8;omega),IntKind.wrap_u8,Nat.shiftLeft_eq];have hp:2 ^ t<=2 ^ 7:=Nat.pow_le_pow_right (by decide) (by omega);have h3:r*2 ^ t<=1*2 ^ 7:=Nat.mul_le_mul (by omega) hp;rw[show (r:Int) % 256=(r:Int) by omega];have e3:(r:Int)*2 ^ t=((r*2 ^ t:Nat):Int):=(by norm_cast);rw[e3];omega
theorem znP (l:List Nat) (w i k:Nat) (hk:k<w):dgt l w (i*w+k)=(l.getD i 0).testBit k:=by
 unfold dgt;have e1:(i*w+k) / w=i:=(by rw[Nat.mul_comm,Nat.mul_add_div (by omega),Nat.div_eq_of_lt (by omega)];rfl);have e2:(i*w+k) % w=k:=(by rw[Nat.mul_comm,Nat.mul_add_mod,Nat.mod_eq_of_lt (by omega)]);rw[e1,e2]
theorem getD_lt {l:List Nat} {B i:Nat} (h:∀x∈l,x<B) (h0:0<B):l.getD i 0<B:=by
 rw[List.getD_eq_getElem?_getD];cases e:l[i]? with
 | none=>exact h0
 | some y=>exact h y (List.mem_of_getElem? e)
theorem ziT (l:List Nat) (w i:Nat) (hl:∀x∈l,x<2 ^ w) (hw:w<=20) (hn:l.length<=1000) (hi:i<l.length):∀(m k F:Nat),k+m=w->
    pack_Pack.l1 (F+m+1) w (ints (pk l w (i*w+k))) i ((l.getD i 0:Nat):Int) (ints l) (l.length:Int) i w k=pack_Pack.l0 F w (ints (pk l w (i*w+w))) (ints l) (l.length:Int) ((i:Int)+1)
 | 0,k,F,hk=>by
  obtain rfl:k=w:=(by omega);rw[pack_Pack.l1,if_neg (by omega),w64 _ (by omega) (by omega)]
 | m+1,k,F,hk=>by
  have hiw:i*w<=1000*20:=Nat.mul_le_mul (by omega) hw;have hiw2:(i+1)*w<=l.length*w:=Nat.mul_le_mul_right w hi;rw[Nat.add_mul,Nat.one_mul]at hiw2;have hlt:(i*w+k) / 8<(pk l w (i*w+k)).length:=(by rw[zgu];omega);have hx:l.getD i 0<1048576:=Nat.lt_of_lt_of_le (getD_lt hl (Nat.two_pow_pos _)) (show 2 ^ w<=2 ^ 20 from Nat.pow_le_pow_right (by decide) hw);have q1:i*w<=9223372036854775807:=(by omega);have q2:i*w+k<=9223372036854775807:=(by omega);have q3:(i*w+k) / 8<=9223372036854775807:=(by omega);have q4:k<9223372036854775807:=(by omega);have q5:(i*w+k) % 8<8:=(by omega);have c1:(k:Int)<(w:Int):=(by omega);have c2:(0:Int)<=(((i*w+k) / 8:Nat):Int):=(by omega);have c3:(((i*w+k) / 8:Nat):Int)<((pk l w (i*w+k)).length:Int):=(by omega);have c4:(0:Int)<=(k:Int):=(by omega);have c5:(0:Int)<=(((i*w+k) % 8:Nat):Int):=(by omega);have hk20:k<=20:=(by omega);have hkw:k<w:=(by omega);have hk1:k+1+m=w:=(by omega);have hb:(pk l w (i*w+k)).getD ((i*w+k) / 8) 0<256:=getD_lt (pk_lt l w _) (by decide);have h7:((l.getD i 0).testBit k).toNat <<< ((i*w+k) % 8)<256:=by
   rw[Nat.shiftLeft_eq];have h1:((l.getD i 0).testBit k).toNat<=1:=Bool.toNat_le _;have hp:2 ^ ((i*w+k) % 8)<=2 ^ 7:=Nat.pow_le_pow_right (by decide) (by omega);have:=Nat.mul_le_mul h1 hp;omega
  have e0:wrap64 ((i:Int)*(w:Int))=((i*w:Nat):Int):=(by rw[<-Int.natCast_mul];exact w64n _ q1);have e1:wrap64 (((i*w:Nat):Int)+(k:Int))=((i*w+k:Nat):Int):=(by rw[<-Int.natCast_add];exact w64n _ q2);have e2:=div8 (i*w+k);have e3:=w64n _ q3;have e4:=mod8 (i*w+k);have e5:=w64s k q4;have e6:=znO (l.getD i 0) k ((i*w+k) % 8) hx hk20 q5;rw[show F+(m+1)+1=(F+m+1)+1 from rfl,pack_Pack.l1];simp only[e0,e1,e2,e3,e4,e5,e6,Int.toNat_natCast,zdT,zaE];rw[or8 _ _ hb h7,ints_set];rw[if_pos c1,if_pos c2,if_pos c3,if_pos c4,if_pos c5];have es:(pk l w (i*w+k)).set ((i*w+k) / 8) ((pk l w (i*w+k)).getD ((i*w+k) / 8) 0 ||| ((l.getD i 0).testBit k).toNat <<< ((i*w+k) % 8))=pk l w (i*w+(k+1)):=by
   rw[show i*w+(k+1)=(i*w+k)+1 from rfl,pk,setB,znP l w i k hkw]
  rw[es];exact ziT l w i hl hw hn hi m (k+1) F hk1
theorem ziI (l:List Nat) (w:Nat) (hl:∀x∈l,x<2 ^ w) (hw:w<=20) (hn:l.length<=1000):∀(m i:Nat),i+m=l.length->
    pack_Pack.l0 (m*(w+3)+1) w (ints (pk l w (i*w))) (ints l) (l.length:Int) (i:Int)=some (ints (packB l w),0)
 | 0,i,h=>by
  obtain rfl:i=l.length:=(by omega);rw[Nat.zero_mul,Nat.zero_add,pack_Pack.l0,if_neg (by omega)];rfl
 | m+1,i,h=>by
  have hi:i<l.length:=(by omega);have hx:l.getD i 0<2 ^ w:=getD_lt hl (Nat.two_pow_pos _);have hx20:l.getD i 0<1048576:=Nat.lt_of_lt_of_le hx (show 2 ^ w<=2 ^ 20 from Nat.pow_le_pow_right (by decide) hw);have hb:=zbL hx hw;have e:(m+1)*(w+3)+1=(((m*(w+3)+1)+w+1)+1)+1:=(by rw[Nat.add_mul];omega);rw[e,pack_Pack.l0,zdT,zaE,if_pos (by omega),if_pos (by omega),if_pos (by omega),if_neg (by omega),width_eq _ _ (by omega) (by omega),Int.toNat_natCast];simp only[Option.bind_some];rw[pack_Pack.j1,if_neg (by rw[decide_eq_true_eq];omega)];have this:pack_Pack.l1 (m*(w+3)+1+w+1) w (ints (pk l w (i*w))) i ((l.getD i 0:Nat):Int) (ints l) (l.length:Int) i w 0=_:=ziT l w i hl hw hn hi w 0 (m*(w+3)+1) (by omega);rw[this];have ih:=ziI l w hl hw hn m (i+1) (by omega);rw[Nat.add_mul,Nat.one_mul]at ih;exact ih
theorem size_eq (n:Nat) (h:n<=100000):pack_size.f (n:Int)=some (((n+7) / 8:Nat):Int):=by
 unfold pack_size.f;have q2:n+8<=9223372036854775807:=(by omega);have q3:n+7<=9223372036854775807:=(by omega);have q4:(n+7) / 8<=9223372036854775807:=(by omega);have c3:((n+8:Nat):Int)-1=((n+7:Nat):Int):=(by omega);have c4:(n:Int)+8=((n+8:Nat):Int):=(by omega);rw[c4,w64n _ q2,c3,w64n _ q3,div8,w64n _ q4]
theorem zlr (n w:Nat) (h:n<=1000) (hw:w<=20):pack_fits.f (n:Int) (w:Int)=some true:=by
 unfold pack_fits.f;rw[if_pos (by omega),if_pos (by omega),if_pos (by omega),dT (show (n:Int)<=1000 by omega)]
theorem pack_f (l:List Nat) (w:Nat) (hl:∀x∈l,x<2 ^ w) (hw:w<=20) (hn:l.length<=1000) :
    pack_Pack.f (l.length*(w+3)+1) (ints l) (w:Int)=some (ints (packB l w),0):=by
 have hiw:l.length*w<=1000*20:=Nat.mul_le_mul hn hw;have q1:l.length*w<=9223372036854775807:=(by omega);have q2:l.length*w<=100000:=(by omega);have c1:(0:Int)<=(((l.length*w+7) / 8:Nat):Int):=(by omega);have c2:(l.length*w+7) / 8<=281474976710656:=(by omega);have h:=ziI l w hl hw hn l.length 0 (by omega);have e5:ints (pk l w (0*w))=List.replicate ((l.length*w+7) / 8) 0:=(by rw[Nat.zero_mul];unfold pk ints;rw[List.map_replicate];rfl);rw[e5]at h;unfold pack_Pack.f;rw[zaE,zlr _ _ hn hw,Option.bind_some,if_pos rfl,<-Int.natCast_mul,w64n _ q1,size_eq _ q2,Option.bind_some,if_pos c1,Int.toNat_natCast,if_pos c2];exact h
end Go.Proofs.YtjcpjopbgngihaaGreatDoor.Pk
end
