/- Proved on the way: Package pack: what Pack computes; Package wave: New of numbers that fit; s; Package ring: New of numbers that rise; Package store: made; Package store: Triples, Len, Terms of a . Each theorem states its own conditions. -/
import Derived.Test.YtaeiifngjglchaaGreatDoorM10
import Derived.Test.YtaeiifngjglchaaGreatDoorM12
import Derived.Test.YtaeiifngjglchaaGreatDoorM14
set_option maxHeartbeats 16000000
set_option maxRecDepth 1000000
set_option linter.unusedSimpArgs false
section
namespace Go.Proofs.YtaeiifngjglchaaGreatDoor.Pk
open Go.Proofs.Tryz
open Go.RowKit Go.Proofs.YtaeiifngjglchaaGreatDoorW.PrintWords Go.Proofs.YtaeiifngjglchaaGreatDoorW.PrintLast Go.Proofs.YtaeiifngjglchaaGreatDoorW.PrintMore Go.Proofs.YtaeiifngjglchaaGreatDoor.PTopFile
theorem w64 (z:Int) (h0 : -9223372036854775808<=z) (h1:z<=9223372036854775807):wrap64 z=z:=by unfold wrap64;omega
theorem w64n (n:Nat) (h:n<=9223372036854775807):wrap64 (n:Int)=(n:Int):=w64 _ (by omega) (by omega)
theorem div8 (n:Nat):Int.tdiv (n:Int) 8=((n / 8:Nat):Int):=by rw[show (8:Int)=((8:Nat):Int) from rfl,<-Int.ofNat_tdiv]
theorem mod8 (n:Nat):Int.tmod (n:Int) 8=((n % 8:Nat):Int):=by rw[show (8:Int)=((8:Nat):Int) from rfl,<-Int.ofNat_tmod]
theorem w64s (n:Nat) (h:n<9223372036854775807):wrap64 ((n:Int)+1)=((n+1:Nat):Int):=w64n (n+1) (by omega)
theorem width_eq (k:Nat) (n:Int) (h0:0<=n) (h1:n<=9223372036854775807):pack_Width.f k n=some ((Lib.bitLen n.toNat:Nat):Int):=by
 unfold pack_Width.f bits_Len.f;have e:IntKind.u64.wrap (mx n 0)=n:=by
  have:mx n 0=n:=(by unfold mx;split<;>omega);rw[this,IntKind.wrap_u64];omega
 rw[e,if_pos ⟨h0,by omega⟩];rfl
theorem zd8 {x w:Nat} (h:x<2 ^ w) (hw:w<=20):Lib.bitLen x<=w:=by
 have h20:x<2 ^ 20:=Nat.lt_of_lt_of_le h (Nat.pow_le_pow_right (by decide) hw);by_cases h0:x=0
 · subst h0;unfold Lib.bitLen;rw[Lib.bitLenAux_zero];omega
 · have hb:=Lib.bitLenAux_bounds 64 x (by omega) h0;unfold Lib.bitLen;refine Decidable.byContradiction fun hc=>?_;have h2:2 ^ w<=2 ^ (Lib.bitLenAux 64 x-1):=Nat.pow_le_pow_right (by decide) (by omega);omega
def ints (l:List Nat):List Int:=l.map fun n:Nat=>(n:Int)
theorem zbq (l:List Nat):(ints l).length=l.length:=by simp[ints]
theorem zhe (l:List Nat) (i:Nat):rd (ints l) (i:Int)=((l.getD i 0:Nat):Int):=by
 unfold rd ints;rw[Int.toNat_natCast,List.getD_eq_getElem?_getD,List.getElem?_map,List.getD_eq_getElem?_getD];cases l[i]?<;>rfl
theorem ints_set (l:List Nat) (i n:Nat):(ints l).set i (n:Int)=ints (l.set i n):=by
 unfold ints;rw[List.map_set]
theorem or8 (a b:Nat) (ha:a<256) (hb:b<256):Go.bits .or .u8 (a:Int) (b:Int)=((a ||| b:Nat):Int):=(bits_nat .u8 8 (by decide) wraps_u8 a b ha hb).2
theorem dig_eq (n k t:Nat) (hn:n<1048576) (hk:k<=20) (ht:t<8):shl .u8 ((Go.bits .and .i64 (shr .i64 (n:Int) (k:Int)) 1) % 256) (t:Int)=(((n.testBit k).toNat <<< t:Nat):Int):=by
 have e1:shr .i64 (n:Int) (k:Int)=((n / 2 ^ k:Nat):Int):=by
  unfold shr;rw[Int.toNat_natCast,show min k IntKind.i64.bits=k from Nat.min_eq_left (by show k<=64;omega)]
  norm_cast
 have hd:n / 2 ^ k<=n:=Nat.div_le_self _ _;rw[e1,Nat.toNat_testBit];clear e1;obtain ⟨q,hq⟩:∃q,n / 2 ^ k=q:=⟨_,rfl⟩;rw[hq]at hd ⊢;clear hq;have e2:Go.bits .and .i64 (q:Int) 1=((q % 2:Nat):Int):=by
  have:=bits_mask .i64 62 (by decide) (fun n h0 h1=>wI (by omega)) 1 (by decide) (q:Int) (by omega) (by omega);rw[show ((2:Int) ^ 1-1)=1 from rfl]at this;rw[this];rfl
 have h2:q % 2<2:=Nat.mod_lt _ (by decide);rw[e2];obtain ⟨r,hr⟩:∃r,q % 2=r:=⟨_,rfl⟩;rw[hr]at h2 ⊢;clear hr e2 hd;unfold shl;rw[Int.toNat_natCast,show min t IntKind.u8.bits=t from Nat.min_eq_left (by show t<=8;omega),IntKind.wrap_u8,Nat.shiftLeft_eq];have hp:2 ^ t<=2 ^ 7:=Nat.pow_le_pow_right (by decide) (by omega);have h3:r*2 ^ t<=1*2 ^ 7:=Nat.mul_le_mul (by omega) hp;rw[show (r:Int) % 256=(r:Int) by omega];have e3:(r:Int)*2 ^ t=((r*2 ^ t:Nat):Int):=(by norm_cast);rw[e3];omega
theorem dgt_at (l:List Nat) (w i k:Nat) (hk:k<w):dgt l w (i*w+k)=(l.getD i 0).testBit k:=by
 unfold dgt;have e1:(i*w+k) / w=i:=(by rw[Nat.mul_comm,Nat.mul_add_div (by omega),Nat.div_eq_of_lt (by omega)];rfl);have e2:(i*w+k) % w=k:=(by rw[Nat.mul_comm,Nat.mul_add_mod,Nat.mod_eq_of_lt (by omega)]);rw[e1,e2]
theorem getD_lt {l:List Nat} {B i:Nat} (h:∀x∈l,x<B) (h0:0<B):l.getD i 0<B:=by
 rw[List.getD_eq_getElem?_getD];cases e:l[i]? with
 | none=>exact h0
 | some y=>exact h y (List.mem_of_getElem? e)
theorem ziq (l:List Nat) (w i:Nat) (hl:∀x∈l,x<2 ^ w) (hw:w<=20) (hn:l.length<=1000) (hi:i<l.length):∀(m k F:Nat),k+m=w->
    pack_Pack.l1 (F+m+1) w (ints (pk l w (i*w+k))) i ((l.getD i 0:Nat):Int) (ints l) (l.length:Int) i w k=pack_Pack.l0 F w (ints (pk l w (i*w+w))) (ints l) (l.length:Int) ((i:Int)+1)
 | 0,k,F,hk=>by
  obtain rfl:k=w:=(by omega);rw[pack_Pack.l1,if_neg (by omega),w64 _ (by omega) (by omega)]
 | m+1,k,F,hk=>by
  have hiw:i*w<=1000*20:=Nat.mul_le_mul (by omega) hw;have hiw2:(i+1)*w<=l.length*w:=Nat.mul_le_mul_right w hi;rw[Nat.add_mul,Nat.one_mul]at hiw2;have hlt:(i*w+k) / 8<(pk l w (i*w+k)).length:=(by rw[zid];omega);have hx:l.getD i 0<1048576:=Nat.lt_of_lt_of_le (getD_lt hl (Nat.two_pow_pos _)) (show 2 ^ w<=2 ^ 20 from Nat.pow_le_pow_right (by decide) hw);have q1:i*w<=9223372036854775807:=(by omega);have q2:i*w+k<=9223372036854775807:=(by omega);have q3:(i*w+k) / 8<=9223372036854775807:=(by omega);have q4:k<9223372036854775807:=(by omega);have q5:(i*w+k) % 8<8:=(by omega);have c1:(k:Int)<(w:Int):=(by omega);have c2:(0:Int)<=(((i*w+k) / 8:Nat):Int):=(by omega);have c3:(((i*w+k) / 8:Nat):Int)<((pk l w (i*w+k)).length:Int):=(by omega);have c4:(0:Int)<=(k:Int):=(by omega);have c5:(0:Int)<=(((i*w+k) % 8:Nat):Int):=(by omega);have hk20:k<=20:=(by omega);have hkw:k<w:=(by omega);have hk1:k+1+m=w:=(by omega);have hb:(pk l w (i*w+k)).getD ((i*w+k) / 8) 0<256:=getD_lt (pk_lt l w _) (by decide);have h7:((l.getD i 0).testBit k).toNat <<< ((i*w+k) % 8)<256:=by
   rw[Nat.shiftLeft_eq];have h1:((l.getD i 0).testBit k).toNat<=1:=Bool.toNat_le _;have hp:2 ^ ((i*w+k) % 8)<=2 ^ 7:=Nat.pow_le_pow_right (by decide) (by omega);have:=Nat.mul_le_mul h1 hp;omega
  have e0:wrap64 ((i:Int)*(w:Int))=((i*w:Nat):Int):=(by rw[<-Int.natCast_mul];exact w64n _ q1);have e1:wrap64 (((i*w:Nat):Int)+(k:Int))=((i*w+k:Nat):Int):=(by rw[<-Int.natCast_add];exact w64n _ q2);have e2:=div8 (i*w+k);have e3:=w64n _ q3;have e4:=mod8 (i*w+k);have e5:=w64s k q4;have e6:=dig_eq (l.getD i 0) k ((i*w+k) % 8) hx hk20 q5;rw[show F+(m+1)+1=(F+m+1)+1 from rfl,pack_Pack.l1];simp only[e0,e1,e2,e3,e4,e5,e6,Int.toNat_natCast,zhe,zbq];rw[or8 _ _ hb h7,ints_set];rw[if_pos c1,if_pos c2,if_pos c3,if_pos c4,if_pos c5];have es:(pk l w (i*w+k)).set ((i*w+k) / 8) ((pk l w (i*w+k)).getD ((i*w+k) / 8) 0 ||| ((l.getD i 0).testBit k).toNat <<< ((i*w+k) % 8))=pk l w (i*w+(k+1)):=by
   rw[show i*w+(k+1)=(i*w+k)+1 from rfl,pk,setB,dgt_at l w i k hkw]
  rw[es];exact ziq l w i hl hw hn hi m (k+1) F hk1
theorem zig (l:List Nat) (w:Nat) (hl:∀x∈l,x<2 ^ w) (hw:w<=20) (hn:l.length<=1000):∀(m i:Nat),i+m=l.length->
    pack_Pack.l0 (m*(w+3)+1) w (ints (pk l w (i*w))) (ints l) (l.length:Int) (i:Int)=some (ints (packB l w),0)
 | 0,i,h=>by
  obtain rfl:i=l.length:=(by omega);rw[Nat.zero_mul,Nat.zero_add,pack_Pack.l0,if_neg (by omega)];rfl
 | m+1,i,h=>by
  have hi:i<l.length:=(by omega);have hx:l.getD i 0<2 ^ w:=getD_lt hl (Nat.two_pow_pos _);have hx20:l.getD i 0<1048576:=Nat.lt_of_lt_of_le hx (show 2 ^ w<=2 ^ 20 from Nat.pow_le_pow_right (by decide) hw);have hb:=zd8 hx hw;have e:(m+1)*(w+3)+1=(((m*(w+3)+1)+w+1)+1)+1:=(by rw[Nat.add_mul];omega);rw[e,pack_Pack.l0,zhe,zbq,if_pos (by omega),if_pos (by omega),if_pos (by omega),if_neg (by omega),width_eq _ _ (by omega) (by omega),Int.toNat_natCast];simp only[Option.bind_some];rw[pack_Pack.j1,if_neg (by rw[decide_eq_true_eq];omega)];have this:pack_Pack.l1 (m*(w+3)+1+w+1) w (ints (pk l w (i*w))) i ((l.getD i 0:Nat):Int) (ints l) (l.length:Int) i w 0=_:=ziq l w i hl hw hn hi w 0 (m*(w+3)+1) (by omega);rw[this];have ih:=zig l w hl hw hn m (i+1) (by omega);rw[Nat.add_mul,Nat.one_mul]at ih;exact ih
theorem size_eq (n:Nat) (h:n<=100000):pack_size.f (n:Int)=some (((n+7) / 8:Nat):Int):=by
 unfold pack_size.f;have q2:n+8<=9223372036854775807:=(by omega);have q3:n+7<=9223372036854775807:=(by omega);have q4:(n+7) / 8<=9223372036854775807:=(by omega);have c3:((n+8:Nat):Int)-1=((n+7:Nat):Int):=(by omega);have c4:(n:Int)+8=((n+8:Nat):Int):=(by omega);rw[c4,w64n _ q2,c3,w64n _ q3,div8,w64n _ q4]
theorem zkQ (n w:Nat) (h:n<=1000) (hw:w<=20):pack_fits.f (n:Int) (w:Int)=some true:=by
 unfold pack_fits.f;rw[if_pos (by omega),if_pos (by omega),if_pos (by omega),dT (show (n:Int)<=1000 by omega)]
theorem pack_f (l:List Nat) (w:Nat) (hl:∀x∈l,x<2 ^ w) (hw:w<=20) (hn:l.length<=1000) :
    pack_Pack.f (l.length*(w+3)+1) (ints l) (w:Int)=some (ints (packB l w),0):=by
 have hiw:l.length*w<=1000*20:=Nat.mul_le_mul hn hw;have q1:l.length*w<=9223372036854775807:=(by omega);have q2:l.length*w<=100000:=(by omega);have c1:(0:Int)<=(((l.length*w+7) / 8:Nat):Int):=(by omega);have c2:(l.length*w+7) / 8<=281474976710656:=(by omega);have h:=zig l w hl hw hn l.length 0 (by omega);have e5:ints (pk l w (0*w))=List.replicate ((l.length*w+7) / 8) 0:=(by rw[Nat.zero_mul];unfold pk ints;rw[List.map_replicate];rfl);rw[e5]at h;unfold pack_Pack.f;rw[zbq,zkQ _ _ hn hw,Option.bind_some,if_pos rfl,<-Int.natCast_mul,w64n _ q1,size_eq _ q2,Option.bind_some,if_pos c1,Int.toNat_natCast,if_pos c2];exact h
end Go.Proofs.YtaeiifngjglchaaGreatDoor.Pk
end
section
namespace Go.Proofs.YtaeiifngjglchaaGreatDoor
open Go.Proofs.Tryz
open Go.RowKit Go.Lib Go.Proofs.YtaeiifngjglchaaGreatDoorW.PrintWords Pk
open Go.Proofs.YtaeiifngjglchaaGreatDoor.PTopFile (pack_Pack.calls)
theorem zcB (A:Option Addr) (c:Nat) (l:List Nat) (d:Nat) (w:World) (h:Fd.Seg w A l.length (nums .i64 (ints l))) (hc:l.length<=c) (hl:∀x∈l,x<2 ^ d) (hd:d<=20) (hn:l.length<=1000) :
    Calls prog 40 #[.slice A l.length c,.int .i64 d] w fun e w'=>∃v,e=.returned (.tuple #[v,.int .i64 0])/\w'.ownsRow w.heap.size 5 1 v (packB l d).length (nums .u8 (ints (packB l d)))/\Below w.heap.size w w':=by
 have:=PTopFile.pack_Pack.calls (l.length*(d+3)+1) A c (ints l) (d:Int) (ints (packB l d)) 0 w (by rw[zbq];exact C_int (by omega) h) (by rw[zbq];exact hc) (pack_f l d hl hd hn);rw[zbq]at this;refine Calls.mono this ?_;rintro e w' ⟨v,rfl,hR,hb⟩;have h1:=R_int hR;rw[zbq]at h1;exact ⟨v,rfl,h1,hb⟩
theorem zgH (A:Option Addr) (n c:Nat) (news:List Value) (w:World) (h:Fd.Seg w A n news) (h1:∀u∈news,u.oneCell'=true) (hn:n<=100000) :
    Calls prog 216 #[.slice A n c] w fun e w'=>∃v',e=.returned v'/\w'.ownsRow w.heap.size 3 1 v' n news/\Below w.heap.size w w':=by
 have q22:∀(w:World) (a:Option Addr) (n c n' c':Nat),(binOp .eql 89 (.slice a n c) (.slice none n' c')).run prog w=.ok (.bool a.isNone) w:=fun w a n c n' c'=>Lib.run_eql_slice_nil w _ _ a n c n' c' underlying89;obtain ⟨i0,hi,hz0,hz1,hz2⟩:=info_parts Fd.info3;cases A with
 | none=>
  have hn0:n=0:=by
   rcases Nat.eq_zero_or_pos n with h0 | h0
   · exact h0
   · obtain ⟨ad,e,_⟩:=h.cell h0;cases e
  subst hn0;obtain rfl:news=[]:=List.eq_nil_of_length_eq_zero h.len;clear h1 h;go_enter func216,ntmps216
  go_wp2;go_ret;exact ⟨_,rfl,World.ownsRow_nil _ _ _ _,br⟩
 | some ad=>
  have HS:=Lib.hid h;have H1:=Lib.hid h1;clear h h1;go_enter func216,ntmps216
  go_wp2_with (at_builtin;refine Fd.zaq _ rfl _ _ 89 rfl w.heap.size 3 i0 (.int .i64 0) 8 underlying89 hi hz0 hz1 hz2 rfl _ _ _ rfl (World.ownsRow_made w #[] 0 nL (Nat.zero_le _) (by simp)) (some ad) n c news rfl ?qc1 ?qc2 ?qc3 ?qc4 ?qc5 ?_)
  case qc1=>exact HS.out.below (br.alloc nL _)
  case qc2=>exact H1.out
  case qc3=>unfold maxLen;omega
  case qc4=>omega
  case qc5=>simp
  intro v' w1 hown hgrow;go_wp2;go_ret;refine ⟨v',rfl,by simpa using hown,?_⟩;exact ((Below.refl _ w).alloc nL _).grown hgrow (by simp) (by intro k hk;simp[Value.ownBlock]at hk;omega)
theorem zl7 (k:IntKind) (xs:List Int):∀u∈nums k xs,u.oneCell'=true:=by
 intro u hu;unfold nums at hu;obtain ⟨q,_,rfl⟩:=List.mem_map.1 hu;rfl
theorem zeU (A:Option Addr) (c:Nat) (l:List Nat) (w:World) (h:Fd.Seg w A l.length (nums .i64 (ints l))) (hc:l.length<=c) (hl:∀x∈l,x<2 ^ 10) (hn:l.length<=100) :
    Calls prog 139 #[.slice A l.length c,.int .i64 10] w fun e w'=>∃W,e=.returned (.tuple #[.pointer (some ⟨W,0,none⟩),.int .i64 0])/\Below w.heap.size w w':=by
 have HP:=hid (zcB A c l 10 w h hc hl (by omega) (by omega))
 have HC:Hid (∀w1,Below w.heap.size w w1->Calls prog 216 #[.slice A l.length c] w1 fun e w'=>∃v',e=.returned v'/\w'.ownsRow w1.heap.size 3 1 v' l.length (nums .i64 (ints l))/\Below w1.heap.size w1 w'):=
  fun w1 hb=>zgH A l.length c _ w1 (h.below hb) (zl7 _ _) (by omega)
 clear h hl hc;go_enter func139,ntmps139
 go_wp2_with fail
 refine HP.out.mono ?_;rintro e w1 ⟨v,rfl,_,hb1⟩;have HB1:=hid hb1;clear hb1;go_wp2_with fail
 refine (HC.out _ HB1.out).mono ?_;rintro e w2 ⟨v2,rfl,hown2,hb2⟩;obtain ⟨A2,c2,rfl⟩:=Fd.zac hown2;clear hown2;have HB2:=hid (HB1.out.trans (hb2.mono HB1.out.size));clear hb2;go_wp2;go_ret2;exact ⟨_,rfl,HB2.out.alloc HB2.out.size _⟩
end Go.Proofs.YtaeiifngjglchaaGreatDoor
end
section
namespace Go.Proofs.YtaeiifngjglchaaGreatDoor
open Go.Proofs.Tryz
open Go.RowKit Go.Lib Tv Go.Sort Pk Go.Proofs.YtaeiifngjglchaaGreatDoorW.PrintWords
def RingIs (w:World) (R:Nat) (l:List Ids):Prop:=∃v,w.cell? ⟨R,3,none⟩=some v/\RowI w 0 v l
theorem RingIs.below {w w1:World} {R:Nat} {l:List Ids} (h:RingIs w R l) (hb:Below w.heap.size w w1):RingIs w1 R l:=by
 obtain ⟨v,h1,h2⟩:=h;exact ⟨v,zaa h1 hb,h2.below hb⟩
def colI (c:Nat) (x:Ids):Int:=if c=0 then x.a else if c=1 then x.b else x.c
theorem Cell3I.below {w w1:World} {g:Nat} {x:Ids} (h:Cell3I w g x) (hb:Below w.heap.size w w1):Cell3I w1 g x:=⟨zaa h.1 hb,zaa h.2.1 hb,zaa h.2.2 hb⟩
theorem RowI.at_ {w:World} {B n g cap:Nat} {l:List Ids} (h:RowI w B (.slice (some ⟨g,0,none⟩) n cap) l) (i:Nat) (x:Ids) (hi:l[i]?=some x) :
    w.cell? ⟨g,i*3,none⟩=some (.int .i64 x.a)/\w.cell? ⟨g,i*3+1,none⟩=some (.int .i64 x.b)/\w.cell? ⟨g,i*3+2,none⟩=some (.int .i64 x.c):=by
 rcases zaf h with ⟨h,_⟩ | ⟨g',cap',hv,_,_,_,hc⟩
 · cases h
 · cases hv
   have hil:i<l.length:=(List.getElem?_eq_some_iff.1 hi).1;have key:∀j,j<3->(l.flatMap encI)[i*3+j]?=(encI x)[j]?:=by
    intro j hj;rw[zaH zbJ l (i*3+j) (by omega)];rw[show (i*3+j) / 3=i from by omega,show (i*3+j) % 3=j from by omega,List.getD_eq_getElem?_getD,hi];rfl
   exact ⟨hc (i*3) _ (key 0 (by decide)),hc (i*3+1) _ (key 1 (by decide)),hc (i*3+2) _ (key 2 (by decide))⟩
def Cell3Io (w:World) (g o:Nat) (x:Ids):Prop:=w.cell? ⟨g,o,none⟩=some (.int .i64 x.a)/\w.cell? ⟨g,o+1,none⟩=some (.int .i64 x.b)/\w.cell? ⟨g,o+2,none⟩=some (.int .i64 x.c)
theorem zd3 (p o q:Nat) (x y:Ids) (w:World) (hx:Cell3Io w p o x) (hy:Cell3I w q y) :
    Calls prog 75 #[.slice (some ⟨p,o,none⟩) 3 3,.slice (some ⟨q,0,none⟩) 3 3] w fun e w'=>e=.returned (.int .i64 (cmpIds x y))/\w'=w:=by
 obtain ⟨a1,a2,a3⟩:=hx;obtain ⟨b1,b2,b3⟩:=hy;unfold cmpIds;obtain ⟨xa,xb,xc⟩:=x;obtain ⟨ya,yb,yc⟩:=y;simp only at a1 a2 a3 b1 b2 b3 ⊢;have H1:=hid fun w=>za6 xa ya w;have H2:=hid fun w=>za6 xb yb w;have H3:=hid fun w=>za6 xc yc w;generalize cmpI xa ya=r1 at H1 ⊢;generalize cmpI xb yb=r2 at H2 ⊢;generalize cmpI xc yc=r3 at H3 ⊢;go_enter func75,ntmps75
 go_wp2;go_loopw [11] (fun i wr=>Hid (wr=w)/\∃(k:Nat),i=.int .i64 k/\(k=0\/(k=1/\Hid (r1=0))\/(k=2/\Hid (r1=0)/\Hid (r2=0))\/(k=3/\Hid (r1=0)/\Hid (r2=0)/\Hid (r3=0)))) (fun i _=>3-(RowKit.intOf i).toNat)
 case atStart=>exact ⟨(rfl:w=w),0,rfl,.inl rfl⟩
 case round=>
  obtain ⟨hw,k,rfl,hk⟩:=hrel;obtain rfl:=hw.out;rcases hk with rfl | ⟨rfl,E1⟩ | ⟨rfl,E1,E2⟩ | ⟨rfl,E1,E2,E3⟩
  · by_cases hr:r1=0
    · have hb:(r1 == 0)=true:=(by simp[hr]);have EE:=hid hr;clear hr;go_wp2_with fail
      refine (H1.out _).mono ?_;rintro e w1 ⟨rfl,rfl⟩;go_wp2;go_round
      case measure=>decide
      case rel=>exact ⟨trivial,1,rfl,.inr (.inl ⟨rfl,EE⟩)⟩
    · have hb:(r1 == 0)=false:=(by simp[hr]);have EE:=hid hr;clear hr;go_wp2_with fail
      refine (H1.out _).mono ?_;rintro e w1 ⟨rfl,rfl⟩;go_wp2;go_ret;exact ⟨by unfold or3;rw[if_neg EE.out];rfl,rfl⟩
  · by_cases hr:r2=0
    · have hb:(r2 == 0)=true:=(by simp[hr]);have EE:=hid hr;clear hr;go_wp2_with fail
      refine (H2.out _).mono ?_;rintro e w1 ⟨rfl,rfl⟩;go_wp2;go_round
      case measure=>decide
      case rel=>exact ⟨trivial,2,rfl,.inr (.inr (.inl ⟨rfl,E1,EE⟩))⟩
    · have hb:(r2 == 0)=false:=(by simp[hr]);have EE:=hid hr;clear hr;go_wp2_with fail
      refine (H2.out _).mono ?_;rintro e w1 ⟨rfl,rfl⟩;go_wp2;go_ret;exact ⟨by unfold or3;rw[if_pos E1.out,if_neg EE.out];rfl,rfl⟩
  · by_cases hr:r3=0
    · have hb:(r3 == 0)=true:=(by simp[hr]);have EE:=hid hr;clear hr;go_wp2_with fail
      refine (H3.out _).mono ?_;rintro e w1 ⟨rfl,rfl⟩;go_wp2;go_round
      case measure=>decide
      case rel=>exact ⟨trivial,3,rfl,.inr (.inr (.inr ⟨rfl,E1,E2,EE⟩))⟩
    · have hb:(r3 == 0)=false:=(by simp[hr]);have EE:=hid hr;clear hr;go_wp2_with fail
      refine (H3.out _).mono ?_;rintro e w1 ⟨rfl,rfl⟩;go_wp2;go_ret;exact ⟨by unfold or3;rw[if_pos E1.out,if_pos E2.out];rfl,rfl⟩
  · go_wp2;go_ret;exact ⟨by unfold or3;rw[if_pos E1.out,if_pos E2.out,E3.out];rfl,rfl⟩
structure RNow (w wr:World) (R:Nat) (sv:Value) (l:List Ids):Prop where
 ex:∃q:Array Value,q.size=4/\q[3]?=some sv/\wr.heap[R]?=some (.cells q 168 (0,0))
 row:RowI wr w.heap.size sv l
 below:Below w.heap.size w wr
 ge:w.heap.size<=R
theorem RNow.step {w wr w2:World} {R:Nat} {sv:Value} {l:List Ids} (h:RNow w wr R sv l) (hb:Below wr.heap.size wr w2):RNow w w2 R sv l:=by
 obtain ⟨q,h1,h2,h3⟩:=h.ex;exact ⟨⟨q,h1,h2,(hb.block R (Array.getElem?_eq_some_iff.1 h3).1).trans h3⟩,h.row.below hb,h.below.trans (hb.mono h.below.size),h.ge⟩
theorem RNow.put {w wr:World} {R:Nat} {sv:Value} {l:List Ids} (h:RNow w wr R sv l) (hl:∀k,sv.ownBlock=some k->k<R) (c:Nat) (hc:c<3) (v:Value):RNow w (wr.setCell ⟨R,c,none⟩ v) R sv l:=by
 obtain ⟨q,h1,h2,h3⟩:=h.ex;have hf:Fr wr (wr.setCell ⟨R,c,none⟩ v) (fun k=>k=R):=(Fr.refl wr (fun k=>k=R)).set_ (p:=⟨R,c,none⟩) (.inl rfl) _;refine ⟨⟨q.setIfInBounds c v,by simp[h1],by rw[Array.getElem?_setIfInBounds,if_neg (by omega)];exact h2,by simp[World.setCell,Array.getElem?_modify,h3]⟩,?_,h.below.setCell h.ge _,h.ge⟩;exact hf.own h.row fun k hk e=>by have:=hl k hk;omega
theorem RNow.grown {w wr w2:World} {R:Nat} {sv:Value} {l:List Ids} (h:RNow w wr R sv l) (hl:∀k,sv.ownBlock=some k->k<R) {row:Option Nat} (hg:wr.grownBy w2 row) (hrow:∀k,row=some k->R<k):RNow w w2 R sv l:=by
 obtain ⟨q,h1,h2,h3⟩:=h.ex;have hf:Fr wr w2 (fun k=>row=some k):=⟨hg.os,hg.tape,hg.output,hg.size,fun k hk hn=>hg.block k hk fun e=>hn e.symm⟩;refine ⟨⟨q,h1,h2,hf.heap h3 fun e=>by have:=hrow R e;omega⟩,hf.own h.row fun k hk e=>by have:=hl k hk;have:=hrow k e;omega,?_,h.ge⟩;exact h.below.grown hg h.below.size fun k hk=>by have:=hrow k hk;have:=h.ge;omega
theorem Num.col {x:Ids} (h:Num x) (c:Nat):1<=colI c x/\colI c x<=1000:=by
 unfold colI;split
 · exact h.1
 · split
   · exact h.2.1
   · exact h.2.2
theorem RNow.cell {w wr:World} {R:Nat} {sv:Value} {l:List Ids} (h:RNow w wr R sv l) (c:Nat) (hc:c<3):(∃u,wr.cell? ⟨R,c,none⟩=some u)/\wr.frozen? ⟨R,c,none⟩=false:=by
 obtain ⟨q,h1,h2,h3⟩:=h.ex;refine ⟨⟨q[c]'(by omega),?_⟩,frozen_of_heap h3 c⟩;rw[cell_of_heap h3];exact Array.getElem?_eq_getElem _
theorem zfc (l:List Ids) (v:Value) (B:Nat) (w:World) (h:RowI w B v l) (hl:l.length<=100) (hr:Rise (ltOf cmpIds) l) (hb:∀x∈l,Num x) :
    Calls prog 76 #[v] w fun e w'=>∃R,e=.returned (.tuple #[.pointer (some ⟨R,0,none⟩),.int .i64 0])/\w.heap.size<=R/\RingIs w' R l/\Below w.heap.size w w':=by
 obtain ⟨A,c,rfl⟩:=Fd.zac h;have hlz:(l.length:Int)<=100:=(by omega);have HROW:Hid (∀w1,Below w.heap.size w w1->RowI w1 B (.slice A l.length c) l):=fun w1 hb=>h.below hb;have HR:=hid hr;have HN:=hid hb;clear h hr hb;go_enter func76,ntmps76
 go_wp2;go_loopw [17] (fun i wr=>∃k:Nat,k<=l.length/\i=.int .i64 k/\Below w.heap.size w wr) (fun i _=>l.length-(RowKit.intOf i).toNat)
 case atStart=>exact ⟨0,Nat.zero_le _,rfl,br⟩
 case round=>
  obtain ⟨k,hk,rfl,hB⟩:=hrel;by_cases hlt:k<l.length
  · obtain ⟨x,hx⟩:∃x,l[k]?=some x:=⟨_,List.getElem?_eq_getElem hlt⟩;have hrow:=HROW.out wr hB;obtain ⟨g,cap,he,_,hg,_⟩:∃g cap,Value.slice A l.length c=.slice (some ⟨g,0,none⟩) l.length cap/\B<=g/\g<wr.heap.size/\l.length<=cap:=by
     rcases zaf hrow with ⟨_,h⟩ | ⟨g,cap,hv,hB,hg,hc,_⟩
     · omega
     · exact ⟨g,cap,hv,hB,hg,hc⟩
    cases he
    obtain ⟨a0,a1,a2⟩:=hrow.at_ k x hx;have hnum:Num x:=HN.out x (List.mem_of_getElem? hx);obtain ⟨wa,hwa⟩:∃wa,wr.alloc (.cells #[.int .i64 x.a,.int .i64 x.b,.int .i64 x.c] 103)=wa:=⟨_,rfl⟩;have hba:Below wr.heap.size wr wa:=(by rw[<-hwa];exact br.alloc nL _);have hbox:Cell3I wa wr.heap.size x:=by rw[<-hwa];exact ⟨by simp,by simp,by simp⟩
    have HC:Hid (∀n,Calls prog 138 #[.slice (some ⟨wr.heap.size,0,none⟩) 3 3,.func (.func 137) #[] #[]] (wa.drewN n) fun e w'=>e=.returned (.bool false)/\w'=wa.drewN n):=
     fun n=>zhJ wr.heap.size x _ (hbox.below ⟨rfl,rfl,rfl,nL,fun _ _=>rfl⟩) hnum
    have HB:=hid (hB.trans (hba.mono hB.size));by_cases h0:0<k
    · obtain ⟨y,hy⟩:∃y,l[k-1]?=some y:=⟨_,List.getElem?_eq_getElem (by omega)⟩;have hyr:=hrow.at_ (k-1) y hy;have hlt2:cmpIds y x<0:=by
       have:=(List.pairwise_iff_getElem.1 HR.out) (k-1) k (by omega) hlt (by omega);rw[(List.getElem?_eq_some_iff.1 hx).2,(List.getElem?_eq_some_iff.1 hy).2]at this;unfold ltOf at this;exact oT this
      have HC2:Hid (∀n,Calls prog 75 #[.slice (some ⟨g,(k-1)*3,none⟩) 3 3,.slice (some ⟨wr.heap.size,0,none⟩) 3 3] (wa.drewN n) fun e w'=>e=.returned (.int .i64 (cmpIds y x))/\w'=wa.drewN n):=
       fun n=>zd3 g ((k-1)*3) wr.heap.size y x _ ⟨zaa hyr.1 (hba.trans ⟨rfl,rfl,rfl,nL,fun _ _=>rfl⟩),zaa hyr.2.1 (hba.trans ⟨rfl,rfl,rfl,nL,fun _ _=>rfl⟩),zaa hyr.2.2 (hba.trans ⟨rfl,rfl,rfl,nL,fun _ _=>rfl⟩)⟩ (hbox.below ⟨rfl,rfl,rfl,nL,fun _ _=>rfl⟩)
      generalize cmpIds y x=r at hlt2 HC2;clear hyr hy hbox hba hnum hrow hB;have hd:decide ((0:Int)<(k:Int))=true:=dT (by omega);have hd2:decide ((0:Int)<=r)=false:=dF (by omega);go_wp2;try rw[hwa]
      have hi1:(0:Int)<=(k:Int)-1:=(by omega);have hi2:(k:Int)-1<(l.length:Int):=(by omega);have hi3:IntKind.i64.wrap ((k:Int)-1)=(k:Int)-1:=(wI (by omega));have hi4:((k:Int)-1).toNat=k-1:=(by omega);go_quiet (first | (go_at_call 138;exact Calls.quiet_of_same (HC.out _)) | (go_at_call 75;exact Calls.quiet_of_same (HC2.out _)))
      go_wp2;have HB2:Hid (Below w.heap.size w (wa.drewN nq)):=HB.out.trans ⟨rfl,rfl,rfl,nL,fun _ _=>rfl⟩;clear hi3 hi4;go_round
      case measure=>simp[RowKit.intOf];omega
      case rel=>exact ⟨k+1,by omega,by go_num,HB2.out⟩
    · clear hbox hba hnum hrow hB;have hd:decide ((0:Int)<(k:Int))=false:=dF (by omega);go_wp2;try rw[hwa]
      go_quiet (first | (go_at_call 138;exact Calls.quiet_of_same (HC.out _)))
      go_wp2;have HB2:Hid (Below w.heap.size w (wa.drewN nq)):=HB.out.trans ⟨rfl,rfl,rfl,nL,fun _ _=>rfl⟩;go_round
      case measure=>simp[RowKit.intOf];omega
      case rel=>exact ⟨k+1,by omega,by go_num,HB2.out⟩
  · obtain rfl:k=l.length:=(by omega);have HC:=hid (zcR l (.slice A l.length c) B wr (HROW.out wr hB) (by omega));have HB:=hid hB;clear hB;go_wp2_with fail
    refine HC.out.mono ?_;rintro e w1 ⟨v1,rfl,hrow,hb1⟩;obtain ⟨A1,c1,rfl⟩:=Fd.zac hrow;obtain ⟨w2,hw2⟩:∃w2,w1.alloc (.cells #[.pointer none,.pointer none,.pointer none,.slice A1 l.length c1] 168)=w2:=⟨_,rfl⟩;have hb2:Below w1.heap.size w1 w2:=(by rw[<-hw2];exact br.alloc nL _);have HROW1:=hid hrow;have HRG:Hid (w2.heap[w1.heap.size]?=some (.cells #[.pointer none,.pointer none,.pointer none,.slice A1 l.length c1] 168 (0,0))):=(by rw[<-hw2];exact heap_alloc_new w1 _);have HLT:Hid (∀k,(Value.slice A1 l.length c1).ownBlock=some k->k<w1.heap.size):=fun k hk=>(hrow.lt k hk).2;have HB1:=hid (HB.out.trans (hb1.mono HB.out.size));have HB2:=hid (HB1.out.trans (hb2.mono HB1.out.size));have HROW2:Hid (RowI w2 w.heap.size (.slice A1 l.length c1) l):=(hrow.below hb2).le HB.out.size;have hs2:w1.heap.size<w2.heap.size:=(by rw[<-hw2];simp);have HS1:=hid HB1.out.size;clear hrow hb1 hb2;go_wp2;have RN:Hid (RNow w w2 w1.heap.size (.slice A1 l.length c1) l):=⟨⟨_,rfl,rfl,HRG.out⟩,HROW2.out,HB2.out,HS1.out⟩;generalize w1.heap.size=R at RN HLT hs2 ⊢;clear HRG HROW1 HROW2 HB1 HB2 HS1 hw2 HC HB;obtain ⟨i0,hi,hz0,hz1,hz2⟩:=info_parts Fd.info3;go_loopw [44] (fun i wr=>∃cc:Nat,cc<=3/\i=.int .i64 cc/\RNow w wr R (.slice A1 l.length c1) l/\R<wr.heap.size) (fun i _=>3-(RowKit.intOf i).toNat)
    case atStart=>exact ⟨0,by omega,rfl,RN.out,hs2⟩
    case round=>
     clear RN hs2;obtain ⟨cc,hcc,rfl,hrn,hRlt⟩:=hrel;by_cases hc3:cc<3
     · have RN:=hid hrn;have hcz:decide ((cc:Int)<3)=true:=dT (by omega);clear hrn;go_wp2;go_loopw [9,49] (fun v i wr2=>∃k:Nat,k<=l.length/\i=.int .i64 k/\RNow w wr2 R (.slice A1 l.length c1) l/\R<wr2.heap.size/\wr2.ownsRow (R+1) 3 1 v k (nums .i64 ((l.map (colI cc)).take k))) (fun _ i _=>l.length-(RowKit.intOf i).toNat)
       case atStart=>exact ⟨0,Nat.zero_le _,rfl,RN.out,hRlt,World.ownsRow_nil _ _ _ _⟩
       case round=>
        clear RN hRlt;obtain ⟨k,hk,rfl,hrn,hRlt,hown⟩:=hrel;by_cases hlt:k<l.length
        · obtain ⟨x,hx⟩:∃x,l[k]?=some x:=⟨_,List.getElem?_eq_getElem hlt⟩;have hrow:=HROW.out wr hrn.below;obtain ⟨g,cap,he,_,hg,_⟩:∃g cap,Value.slice A l.length c=.slice (some ⟨g,0,none⟩) l.length cap/\B<=g/\g<wr.heap.size/\l.length<=cap:=by
           rcases zaf hrow with ⟨_,h⟩ | ⟨g,cap,hv,hB,hg,hc,_⟩
           · omega
           · exact ⟨g,cap,hv,hB,hg,hc⟩
          cases he
          obtain ⟨a0,a1,a2⟩:=hrow.at_ k x hx;obtain ⟨wa,hwa⟩:∃wa,wr.alloc (.cells #[.int .i64 x.a,.int .i64 x.b,.int .i64 x.c] 103)=wa:=⟨_,rfl⟩;have hba:Below wr.heap.size wr wa:=(by rw[<-hwa];exact br.alloc nL _);have hbc:wa.cell? ⟨wr.heap.size,cc,none⟩=some (.int .i64 (colI cc x)):=by
           rw[<-hwa]
           match cc,hc3 with
           | 0,_=>simp[colI]
           | 1,_=>simp[colI]
           | 2,_=>simp[colI]
          have RN2:Hid (RNow w wa R (.slice A1 l.length c1) l):=hrn.step hba;have hOWN:=Fd.own_below hown hba;have HNEXT:Hid (nums .i64 ((l.map (colI cc)).take (k+1))=nums .i64 ((l.map (colI cc)).take k)++[.int .i64 (colI cc x)]):=by
           show nums .i64 ((l.map (colI cc)).take (k+1))=_;rw[List.take_add_one,List.getElem?_map,hx];unfold nums;rw[List.map_append];rfl
          have hsa:R<wa.heap.size:=Nat.lt_of_lt_of_le hRlt hba.size;have OWN:=hid hOWN;generalize colI cc x=y at hbc HNEXT;clear hown hOWN hrow hrn hba hx;go_wp2_with (at_builtin;refine wpList_append_own _ rfl _ _ 89 rfl (R+1) 3 i0 (.int .i64 0) 1 8 underlying89 hi hz0 hz1 hz2 rfl (by decide) _ k _ rfl (OWN.out.alloc _) ⟨wa.heap.size,0,none⟩ 1 1 [.int .i64 y] rfl rfl ?c1 ?c2 ?c3 ?c4 ?c5 ?_)
          case c1=>
           intro j u hj
           match j,hj with
           | 0,hj=>simp at hj;subst hj;simp[Addr.add]
          case c2=>intro u hu;simp at hu;subst hu;rfl
          case c3=>unfold maxLen;omega
          case c4=>omega
          case c5=>simp;omega
          intro v2 w3 hown2 hg2 _;have hr3:RNow w w3 R (.slice A1 l.length c1) l:=(RN2.out.step ((Below.refl _ wa).alloc nL _)).grown HLT.out hg2 (fun j hj=>(OWN.out.lt j hj).1);have hs3:R<w3.heap.size:=(by have:=hg2.size;simp at this;omega);rw[<-HNEXT.out]at hown2;have RN3:=hid hr3;have OWN3:=hid hown2;clear hr3 hown2 hg2 OWN RN2 hwa hbc HNEXT;go_wp2;go_round
          case measure=>simp[RowKit.intOf];omega
          case rel=>exact ⟨k+1,by omega,by go_num,RN3.out,hs3,OWN3.out⟩
        · obtain rfl:k=l.length:=(by omega);obtain ⟨A9,c9,rfl⟩:=Fd.zac hown;have hc9:=Fd.own_le' hown;have hcol:(l.map (colI cc)).take l.length=ints (l.map fun x=>(colI cc x).toNat):=by
           rw[List.take_of_length_le (by simp)];unfold ints;rw[List.map_map];apply List.map_congr_left;intro x hx;have:=(HN.out x hx).col cc;show colI cc x=((colI cc x).toNat:Int);omega
          rw[hcol]at hown;have hln:(l.map fun x=>(colI cc x).toNat).length=l.length:=(by simp);have hsg:=Fd.Seg.of_own hown;have HW:Hid (∀w1,Below wr.heap.size wr w1->Calls prog 139 #[.slice A9 l.length c9,.int .i64 10] w1 fun e w'=>∃W,e=.returned (.tuple #[.pointer (some ⟨W,0,none⟩),.int .i64 0])/\Below w1.heap.size w1 w'):=fun w1 hb=>by
           have hW:=zeU A9 c9 (l.map fun x=>(colI cc x).toNat) w1 (by rw[hln];exact hsg.below hb) (by rw[hln];exact hc9) (by
            intro y hy;obtain ⟨x,hx,rfl⟩:=List.mem_map.1 hy;have:=(HN.out x hx).col cc;show (colI cc x).toNat<1024;omega) (by rw[hln];exact hl)
           rw[hln]at hW;exact hW
          have RN:=hid hrn;obtain ⟨⟨u,hu⟩,hfz⟩:=hrn.cell cc hc3;clear hown hcol hln hrn hc9 hsg;go_wp2_with fail
          have hcz2:(cc:Int)<3:=(by omega);go_region_held3 (fun w'=>True) (exact trivial) ((go_at_call 139;refine (HW.out _ (br.drew)).mono ?_;rintro e wx ⟨W,rfl,hbx⟩;have q1:wx.cell? ⟨R,cc,none⟩=some u:=zaa (w0:=wr.drew) hu hbx;have q2:wx.frozen? ⟨R,cc,none⟩=false:=(hbx.frozen (p:=⟨R,cc,none⟩) hRlt).trans hfz))
          have RN4:Hid (RNow w (wx.setCell ⟨R,cc,none⟩ (.pointer (some ⟨W,0,none⟩))) R (.slice A1 l.length c1) l):=(RN.out.step (br.drew.trans hbx)).put HLT.out cc hc3 _;have hs4:R<(wx.setCell ⟨R,cc,none⟩ (.pointer (some ⟨W,0,none⟩))).heap.size:=by
           have:=hbx.size;simp[World.setCell];exact Nat.lt_of_lt_of_le hRlt this
          clear q1 q2 hu hfz RN hbx;go_wp2;go_round
          case measure=>simp[RowKit.intOf];omega
          case rel=>exact ⟨cc+1,by omega,by go_num,RN4.out,hs4⟩
     · obtain rfl:cc=3:=(by omega);obtain ⟨q,h1,h2,h3⟩:=hrn.ex;have HQ:Hid (wr.cell? ⟨R,3,none⟩=some (.slice A1 l.length c1)):=by
        show wr.cell? ⟨R,3,none⟩=some (.slice A1 l.length c1);rw[cell_of_heap h3];exact h2
       have RN:=hid hrn;clear hrn h1 h2 h3;go_wp2;go_ret2;exact ⟨R,rfl,RN.out.ge,⟨_,HQ.out,RN.out.row.le (Nat.zero_le _)⟩,RN.out.below⟩
end Go.Proofs.YtaeiifngjglchaaGreatDoor
end
section
namespace Go.Proofs.YtaeiifngjglchaaGreatDoor
open Go.Proofs.Tryz
open Go.RowKit Go.Lib Tv Go.Sort
open Go.Proofs.YtaeiifngjglchaaGreatDoorW.PrintLast
structure StoreIs (w:World) (S:Nat) (v:Value) (L:List VTri) (ts:List VTm):Prop where
 ex:∃vt R,w.heap[S]?=some (.cells #[v,vt,.pointer (some ⟨R,0,none⟩)] 99 (0,0))/\RowM w 0 vt ts/\RingIs w R (L.map (idsOf ts))
 row:RowV w 0 v L
 ok:StP L ts
theorem StoreIs.below {w w1:World} {S:Nat} {v:Value} {L:List VTri} {ts:List VTm} (h:StoreIs w S v L ts) (hb:Below w.heap.size w w1):StoreIs w1 S v L ts:=by
 obtain ⟨vt,R,h1,h2,h3⟩:=h.ex;exact ⟨⟨vt,R,(hb.block S (Array.getElem?_eq_some_iff.1 h1).1).trans h1,h2.below hb,h3.below hb⟩,h.row.below hb,h.ok⟩
theorem zkI {w:World} {S:Nat} {a b c:Value} {t:TypeId} (h:w.heap[S]?=some (.cells #[a,b,c] t (0,0))) (u:Value):(w.setCell ⟨S,2,none⟩ u).heap[S]?=some (.cells #[a,b,u] t (0,0)):=by
 simp[World.setCell,Array.getElem?_modify,h]
theorem RowV.at_ {w:World} {B n g cap:Nat} {l:List VTri} (h:RowV w B (.slice (some ⟨g,0,none⟩) n cap) l) (i:Nat) (t:VTri) (hi:l[i]?=some t) :
    Cell3 w g (i*9) t.1.s/\Cell3 w g (i*9+3) t.1.p/\Cell3 w g (i*9+6) t.1.o:=by
 rcases zaf h with ⟨h,_⟩ | ⟨g',cap',hv,_,_,_,hc⟩
 · cases h
 · cases hv
   have hil:i<l.length:=(List.getElem?_eq_some_iff.1 hi).1;have key:∀j,j<9->(l.flatMap encV)[i*9+j]?=(encV t)[j]?:=by
    intro j hj;rw[zaH zbd l (i*9+j) (by omega)];rw[show (i*9+j) / 9=i from by omega,show (i*9+j) % 9=j from by omega,List.getD_eq_getElem?_getD,hi];rfl
   exact ⟨⟨hc (i*9) _ (key 0 (by decide)),hc (i*9+1) _ (key 1 (by decide)),hc (i*9+2) _ (key 2 (by decide))⟩,
    ⟨hc (i*9+3) _ (key 3 (by decide)),hc (i*9+3+1) _ (key 4 (by decide)),hc (i*9+3+2) _ (key 5 (by decide))⟩,
    ⟨hc (i*9+6) _ (key 6 (by decide)),hc (i*9+6+1) _ (key 7 (by decide)),hc (i*9+6+2) _ (key 8 (by decide))⟩⟩
theorem RowV.val {w:World} {B n c:Nat} {A:Option Addr} {l:List VTri} (h:RowV w B (.slice A n c) l) (hne:0<l.length):∃g,A=some ⟨g,0,none⟩/\g<w.heap.size/\l.length<=c:=by
 rcases zaf h with ⟨_,h⟩ | ⟨g,cap,hv,hB,hg,hc,_⟩
 · omega
 · cases hv;exact ⟨g,rfl,hg,hc⟩
theorem zeR:∃i,prog.info? 62=some i/\i.zero=some (.agg #[.int .i64 0,.string ⟨#[]⟩,.string ⟨#[]⟩])/\i.size=3/\i.bytes=40:=
 info_parts (by kernel_rfl)
structure MInv (w wr:World) (S:Nat) (v vt:Value) (L:List VTri) (k:Nat):Prop where
 blk:wr.heap[S]?=some (.cells #[v,vt,.pointer none] 99 (0,0))
 own:wr.ownsRow (S+1) 62 3 vt (3*k) ((flatM (L.take k)).flatMap encM)
 below:Below w.heap.size w wr
 ge:w.heap.size<=S
theorem MInv.lt {w wr:World} {S:Nat} {v vt:Value} {L:List VTri} {k:Nat} (h:MInv w wr S v vt L k):S<wr.heap.size:=(Array.getElem?_eq_some_iff.1 h.blk).1
theorem MInv.step {w wr w2:World} {S:Nat} {v vt:Value} {L:List VTri} {k:Nat} (h:MInv w wr S v vt L k) (hb:Below wr.heap.size wr w2):MInv w w2 S v vt L k:=
 ⟨(hb.block S h.lt).trans h.blk,Fd.own_below h.own hb,h.below.trans (hb.mono h.below.size),h.ge⟩
theorem MInv.put {w wr W w1:World} {S:Nat} {v vt vt':Value} {L:List VTri} {k:Nat} (h:MInv w wr S v vt L k) (hb:Below wr.heap.size wr W) (hg:W.grownBy w1 vt.ownBlock)
    (hown:w1.ownsRow (S+1) 62 3 vt' (3*(k+1)) ((flatM (L.take (k+1))).flatMap encM)):MInv w (w1.setCell ⟨S,1,none⟩ vt') S v vt' L (k+1):=by
 have h2:=h.step hb;have hS1:some S≠vt.ownBlock:=fun e=>(by have:=(h.own.lt S e.symm).1;omega);have hb1:w1.heap[S]?=some (.cells #[v,vt,.pointer none] 99 (0,0)):=(hg.block S h2.lt hS1).trans h2.blk;have hf:Fr w1 (w1.setCell ⟨S,1,none⟩ vt') (fun k=>k=S):=(Fr.refl w1 (fun k=>k=S)).set_ (p:=⟨S,1,none⟩) (.inl rfl) _;refine ⟨by simp[World.setCell,Array.getElem?_modify,hb1],hf.own hown fun k hk e=>by have:=(hown.lt k hk).1;omega,?_,h.ge⟩;exact (h2.below.grown hg h2.below.size fun k hk=>by have:=(h.own.lt k hk).1;have:=h.ge;omega).setCell h.ge _
theorem zeK (L:List VTri) (k:Nat) (t:VTri) (h:L[k]?=some t):flatM (L.take (k+1))=flatM (L.take k)++[sM t,pM t,oM t]:=by
 unfold flatM;rw[List.take_add_one,h,List.flatMap_append];rfl
theorem zeC (L:List VTri) (v:Value) (w:World) (h:RowV w 0 v L) (hr:Rise (ltOf cmpV) L) (hl:L.length<=100) :
    Calls prog 26 #[v] w fun e w'=>∃S ts,e=.returned (.pointer (some ⟨S,0,none⟩))/\StoreIs w' S v L ts/\Below w.heap.size w w':=by
 obtain ⟨A,c,rfl⟩:=Fd.zac h;obtain ⟨w0,hw0⟩:∃w0,w.alloc (.cells #[.slice A L.length c,.slice none 0 0,.pointer none] 99)=w0:=⟨_,rfl⟩;have HROW:Hid (∀w1,Below w.heap.size w w1->RowV w1 0 (.slice A L.length c) L):=fun w1 hb=>h.below hb;have HM0:Hid (MInv w w0 w.heap.size (.slice A L.length c) (.slice none 0 0) L 0):=by
  rw[<-hw0];exact ⟨heap_alloc_new w _,World.ownsRow_nil _ _ _ _,br.alloc nL _,nL⟩
 have HR:=hid hr;clear h hr;go_enter func26,ntmps26
 go_wp2;obtain ⟨S,hS⟩:∃S,w.heap.size=S:=⟨_,rfl⟩;rw[hS]at HM0 ⊢;have HS:=hid hS;clear hS hw0;obtain ⟨i0,hi,hz0,hz1,hz2⟩:=zeR;go_loopw [14] (fun i wr=>∃(k:Nat) (vt:Value),k<=L.length/\i=.int .i64 k/\MInv w wr S (.slice A L.length c) vt L k) (fun i _=>L.length-(RowKit.intOf i).toNat)
 case atStart=>exact ⟨0,_,Nat.zero_le _,rfl,HM0.out⟩
 case round=>
  clear HM0;obtain ⟨k,vt,hk,rfl,hm⟩:=hrel;by_cases hlt:k<L.length
  · obtain ⟨t,ht⟩:∃x,L[k]?=some x:=⟨_,List.getElem?_eq_getElem hlt⟩;have hrow:=HROW.out wr hm.below;obtain ⟨g,rfl,hg,hcap⟩:=hrow.val (by omega);obtain ⟨⟨a0,a1,a2⟩,⟨a3,a4,a5⟩,⟨a6,a7,a8⟩⟩:=hrow.at_ k t ht;have HNEXT:Hid ((flatM (L.take (k+1))).flatMap encM=(flatM (L.take k)).flatMap encM++[.int .i64 t.1.s.k,.string (str t.1.s.x),.string (str t.1.s.e),.int .i64 t.1.p.k,.string (str t.1.p.x),.string (str t.1.p.e),.int .i64 t.1.o.k,.string (str t.1.o.x),.string (str t.1.o.e)]):=by
     show (flatM (L.take (k+1))).flatMap encM=_;rw[zeK L k t ht,List.flatMap_append];rfl
    obtain ⟨At,ct,rfl⟩:=Fd.zac hm.own;obtain ⟨⟨⟨k1,x1,e1⟩,⟨k2,x2,e2⟩,⟨k3,x3,e3⟩⟩,htv⟩:=t;simp only[Nat.add_assoc]at a0 a1 a2 a3 a4 a5 a6 a7 a8 HNEXT;obtain ⟨wa,hwa⟩:∃wa,wr.alloc (.cells #[.int .i64 k1,.string (str x1),.string (str e1),.int .i64 k2,.string (str x2),.string (str e2),.int .i64 k3,.string (str x3),.string (str e3)] 110)=wa:=⟨_,rfl⟩;have hba:Below wr.heap.size wr wa:=(by rw[<-hwa];exact br.alloc nL _);have hm2:=hm.step hba;have hA9:A9 wa wr.heap.size 110 (.int .i64 k1) (.string (str x1)) (.string (str e1)) (.int .i64 k2) (.string (str x2)) (.string (str e2)) (.int .i64 k3) (.string (str x3)) (.string (str e3)):=(by rw[<-hwa];exact A9.new _ _ _ _ _ _ _ _ _ _ _);have s1:wa.cell? ⟨S,1,none⟩=some (.slice At (3*k) ct):=(by rw[cell_of_heap hm2.blk];rfl);have s1f:wa.frozen? ⟨S,1,none⟩=false:=frozen_of_heap hm2.blk 1;have b0:=hA9.c0;have b1:=hA9.c1;have b2:=hA9.c2;have b3:=hA9.c3;have b4:=hA9.c4;have b5:=hA9.c5;have b6:=hA9.c6;have b7:=hA9.c7;have b8:=hA9.c8;obtain ⟨bx,hbx⟩:∃bx,wr.heap.size=bx:=⟨_,rfl⟩;have hSb:S<bx:=(by rw[<-hbx];exact hm.lt);have hbl:bx<wa.heap.size:=(by rw[<-hbx,<-hwa];simp);have hbx1:wa.heap.size=bx+1:=(by rw[<-hbx,<-hwa];simp);have HM2:=hid hm2;have HOWN:=hid hm2.own;have hOld:Hid (∀j,(Value.slice At (3*k) ct).ownBlock=some j->j<bx):=fun j hj=>(by have:=(hm.own.lt j hj).2;omega);have hgeS:=hm2.ge;clear hm hm2 hA9 hba hrow;go_wp2_with fail
    rw[hbx]at b0 b1 b2 b3 b4 b5 b6 b7 b8
    have KB:Hid (∀(w':World),Below wa.heap.size wa w'->w'.cell? ⟨S,1,none⟩=some (.slice At (3*k) ct)/\w'.frozen? ⟨S,1,none⟩=false/\w'.cell? ⟨bx,0,none⟩=some (.int .i64 k1)/\w'.cell? ⟨bx,1,none⟩=some (.string (str x1))/\w'.cell? ⟨bx,2,none⟩=some (.string (str e1))/\w'.cell? ⟨bx,3,none⟩=some (.int .i64 k2)/\w'.cell? ⟨bx,4,none⟩=some (.string (str x2))/\w'.cell? ⟨bx,5,none⟩=some (.string (str e2))/\w'.cell? ⟨bx,6,none⟩=some (.int .i64 k3)/\w'.cell? ⟨bx,7,none⟩=some (.string (str x3))/\w'.cell? ⟨bx,8,none⟩=some (.string (str e3))):=
     fun w' hb=>⟨zaa s1 hb,(hb.frozen (p:=⟨S,1,none⟩) (by show S<wa.heap.size;omega)).trans s1f,zaa b0 hb,zaa b1 hb,zaa b2 hb,zaa b3 hb,zaa b4 hb,zaa b5 hb,zaa b6 hb,zaa b7 hb,zaa b8 hb⟩
    have KP:Hid (∀(W w':World),Below wa.heap.size wa W->W.grownBy w' (Value.slice At (3*k) ct).ownBlock->w'.cell? ⟨S,1,none⟩=some (.slice At (3*k) ct)/\w'.frozen? ⟨S,1,none⟩=false/\w'.cell? ⟨bx,0,none⟩=some (.int .i64 k1)/\w'.cell? ⟨bx,1,none⟩=some (.string (str x1))/\w'.cell? ⟨bx,2,none⟩=some (.string (str e1))/\w'.cell? ⟨bx,3,none⟩=some (.int .i64 k2)/\w'.cell? ⟨bx,4,none⟩=some (.string (str x2))/\w'.cell? ⟨bx,5,none⟩=some (.string (str e2))/\w'.cell? ⟨bx,6,none⟩=some (.int .i64 k3)/\w'.cell? ⟨bx,7,none⟩=some (.string (str x3))/\w'.cell? ⟨bx,8,none⟩=some (.string (str e3))):=by
     intro W w' hW hg;have hne:∀j,(Value.slice At (3*k) ct).ownBlock=some j->S<j/\j≠bx:=fun j hj=>by
      have h1:=(HOWN.out.lt j hj);have h2:=hOld.out j hj;omega
     have hcell:∀(o:Nat) (u:Value),wa.cell? ⟨bx,o,none⟩=some u->w'.cell? ⟨bx,o,none⟩=some u:=fun o u hu=>by
      rw[hg.cell_far _ (by have:=hW.size;show bx<W.heap.size;omega) (fun e=>(hne bx e.symm).2 rfl)];exact zaa hu hW
     refine ⟨?_,?_,hcell 0 _ b0,hcell 1 _ b1,hcell 2 _ b2,hcell 3 _ b3,hcell 4 _ b4,hcell 5 _ b5,hcell 6 _ b6,hcell 7 _ b7,hcell 8 _ b8⟩
     · rw[hg.cell_far _ (by have:=hW.size;show S<W.heap.size;omega) (fun e=>by have:=hne S e.symm;omega)];exact zaa s1 hW
     · rw[hg.frozen_far _ (by have:=hW.size;show S<W.heap.size;omega) (fun e=>by have:=hne S e.symm;omega)];exact (hW.frozen (p:=⟨S,1,none⟩) (by show S<wa.heap.size;omega)).trans s1f
    go_wp2_with fail
    refine sA 16 [15] (fun w'=>w'.cell? ⟨S,1,none⟩=some (.slice At (3*k) ct)/\w'.frozen? ⟨S,1,none⟩=false/\w'.cell? ⟨bx,0,none⟩=some (.int .i64 k1)/\w'.cell? ⟨bx,1,none⟩=some (.string (str x1))/\w'.cell? ⟨bx,2,none⟩=some (.string (str e1))/\w'.cell? ⟨bx,3,none⟩=some (.int .i64 k2)/\w'.cell? ⟨bx,4,none⟩=some (.string (str x2))/\w'.cell? ⟨bx,5,none⟩=some (.string (str e2))/\w'.cell? ⟨bx,6,none⟩=some (.int .i64 k3)/\w'.cell? ⟨bx,7,none⟩=some (.string (str x3))/\w'.cell? ⟨bx,8,none⟩=some (.string (str e3))) ?_ (fun hHeld=>?_)
    · exact ⟨s1,s1f,b0,b1,b2,b3,b4,b5,b6,b7,b8⟩
    refine pU 0 ?_;refine pU 1 ?_;refine pU 2 ?_;refine pU 3 ?_;refine tK 4 hHeld ?_;refine pU 5 ?_;refine tK 6 hHeld ?_;refine pU 7 ?_;refine tK 8 hHeld ?_;refine pU 9 ?_;refine tK 10 hHeld ?_;refine oN 11 (fun K hK=>?_);refine vA (.slice (some ⟨wa.heap.size,0,none⟩) 3 3) (wa.drew.alloc (.cells #[.int .i64 k1,.string (str x1),.string (str e1),.int .i64 k2,.string (str x2),.string (str e2),.int .i64 k3,.string (str x3),.string (str e3)] 62)) ?_;refine oU hK (KB.out _ (br.drew.alloc nL _)) (fun hHeld=>?_);clear hK K;refine oN 12 (fun K hK=>?_);refine step_append_lies _ (by rfl) _ _ _ (by rfl) (S+1) 62 i0 _ 3 40 underlying37 hi hz0 hz1 hz2 rfl (by omega) (.slice At (3*k) ct) (3*k) ((flatM (L.take k)).flatMap encM) (by rfl) ((HOWN.out.alloc _).drew) ⟨wa.heap.size,0,none⟩ 3 3 [.int .i64 k1,.string (str x1),.string (str e1),.int .i64 k2,.string (str x2),.string (str e2),.int .i64 k3,.string (str x3),.string (str e3)] (by rfl) (by rfl) (World.news_of_block (cs:=#[.int .i64 k1,.string (str x1),.string (str e1),.int .i64 k2,.string (str x2),.string (str e2),.int .i64 k3,.string (str x3),.string (str e3)]) (t:=62) (fr:=(0,0)) (heap_alloc_new wa _)) (by simp[Value.oneCell']) (by omega) (by unfold maxLen;omega) (by omega) (by simp;omega) (wa.heap.size+1) (by simp) ?_;intro gg cap w1 hown1 hgrow hat hlt1;refine oU hK (KP.out _ _ (br.drew.alloc nL _) hgrow) (fun hHeld=>?_);clear hK K;refine pU 13 ?_;refine pU 14 ?_;refine lA 15 (fun K hK=>?_);refine skip_ (w1:=?_) (by rfl) rfl ?_ ?_;rotate_left
    · obtain ⟨q0,q1,q2,q3,q4,q5,q6,q7,q8,q9,q10⟩:=hHeld;go_simp;rfl
    refine hK.out _ _ ?_;clear hK K;refine done_ (by kernel_rfl) ?_;have hmn:=HM2.out.put ((Below.refl _ wa).drew.alloc nL _) hgrow (vt':=.slice (some ⟨gg,0,none⟩) (3*k+3) cap) (by rw[show 3*(k+1)=3*k+3 from rfl,HNEXT.out];exact hown1);have HMN:=hid hmn;clear hmn hgrow hown1 hat hlt1 KP KB HOWN HM2 hOld b0 b1 b2 b3 b4 b5 b6 b7 b8 s1 s1f hHeld HNEXT hwa;go_wp2;go_round
    case measure=>simp[RowKit.intOf];omega
    case rel=>exact ⟨k+1,_,by omega,by go_num,HMN.out⟩
  · obtain rfl:k=L.length:=(by omega);obtain ⟨At,ct,rfl⟩:=Fd.zac hm.own;have hfl:(flatM L).length=3*L.length:=zdT L;have hrowM:RowM wr (S+1) (.slice At (3*L.length) ct) (flatM L):=by
     have:=hm.own;rw[List.take_length]at this;unfold RowM;rw[hfl];exact this
    have s1:wr.cell? ⟨S,1,none⟩=some (.slice At (3*L.length) ct):=(by rw[cell_of_heap hm.blk];rfl);have HS1:=hid (zg6 (flatM L) (.slice At (3*L.length) ct) (S+1) wr hrowM (by omega));have HOWN:=hid hm.own;have HBLK:=hid hm.blk;have HBW:=hid hm.below;have hgeS:=hm.ge;have hltS:=hm.lt;clear hm hrowM;go_wp2_with fail
    refine HS1.out.mono ?_;rintro e w2 ⟨rfl,r,hown2,hrl,hrp,hrs,hf2⟩;have hnS:¬(Value.slice At (3*L.length) ct).ownBlock=some S:=fun e=>(by have:=(HOWN.out.lt S e).1;omega);have hb2:w2.heap[S]?=_:=hf2.heap HBLK.out hnS;have hB2:Below w.heap.size w w2:=HBW.out.trans (hf2.belowB (fun j hj e=>by have:=(HOWN.out.lt j e).1;omega) HBW.out.size);have s2:w2.cell? ⟨S,1,none⟩=some (.slice At (3*L.length) ct):=(by rw[cell_of_heap hb2];rfl);have HC2:=hid (zen r (.slice At (3*L.length) ct) (S+1) w2 hown2 (by rw[hrl];omega) hrs);have HP2:=hid hrp;have HB2:=hid hB2;have HBL2:=hid hb2;have HOWN2:=hid hown2;clear hf2 hB2 hb2 hown2 hrs hrp hrl HS1 s1;go_wp2_with fail
    refine HC2.out.mono ?_;rintro e w3 ⟨vt,ts,rfl,hrow3,hrise,hmem,hf3⟩;have hterms:TermsOf L ts:=⟨hrise,fun x=>(hmem x).trans HP2.out.mem_iff⟩;have hb3:w3.heap[S]?=_:=hf3.heap HBL2.out hnS;have hB3:Below w.heap.size w w3:=HB2.out.trans (hf3.belowB (fun j hj e=>by have:=(HOWN2.out.lt j e).1;omega) HB2.out.size);have s3:w3.cell? ⟨S,1,none⟩=some (.slice At (3*L.length) ct):=(by rw[cell_of_heap hb3];rfl);have s3f:w3.frozen? ⟨S,1,none⟩=false:=frozen_of_heap hb3 1;obtain ⟨At3,ct3,rfl⟩:=Fd.zac hrow3;have hSP:StP L ts:=⟨HR.out,hl,hterms⟩;have SP:=hid hSP;have HROW3:=hid hrow3;have HB3:=hid hB3;have HBL3:=hid hb3;have hs3:S<w3.heap.size:=(Array.getElem?_eq_some_iff.1 hb3).1;clear hf3 hB3 hb3 hrow3 hrise hmem hterms hSP HC2 HP2 HB2 HBL2 HOWN2 s2 HOWN HBLK HBW hltS;go_wp2;obtain ⟨w4,hw4⟩:∃w4,w3.setCell ⟨S,1,none⟩ (.slice At3 ts.length ct3)=w4:=⟨_,rfl⟩;rw[hw4];have hf4:Fr w3 w4 (fun k=>k=S):=(by rw[<-hw4];exact (Fr.refl w3 (fun k=>k=S)).set_ (p:=⟨S,1,none⟩) (.inl rfl) _);have hBL4:w4.heap[S]?=some (.cells #[.slice A L.length c,.slice At3 ts.length ct3,.pointer none] 99 (0,0)):=(by rw[<-hw4];simp[World.setCell,Array.getElem?_modify,HBL3.out]);have hROW4:RowM w4 (S+1) (.slice At3 ts.length ct3) ts:=hf4.own HROW3.out fun k hk e=>(by have:=(HROW3.out.lt k hk).1;omega);have HB4:Hid (Below w.heap.size w w4):=by
     show Below w.heap.size w w4;rw[<-hw4];exact HB3.out.setCell hgeS _
    have hs4:S<w4.heap.size:=(Array.getElem?_eq_some_iff.1 hBL4).1;have BL4:=hid hBL4;have ROW4:=hid hROW4;clear HBL3 HROW3 HB3 hf4 hBL4 hROW4 s3 s3f hs3 hw4;obtain ⟨j0,hj,hj0,hj1,hj2⟩:=zbw;go_loopw [6,49] (fun v i wr=>∃k:Nat,k<=L.length/\i=.int .i64 k/\Below w4.heap.size w4 wr/\wr.ownsRow w4.heap.size 103 3 v k (((L.map (idsOf ts)).take k).flatMap encI)) (fun _ i _=>L.length-(RowKit.intOf i).toNat)
    case atStart=>exact ⟨0,Nat.zero_le _,rfl,br,World.ownsRow_nil _ _ _ _⟩
    case round=>
     obtain ⟨k,hk,rfl,hb,hown⟩:=hrel;by_cases hlt2:k<L.length
     · obtain ⟨t,ht⟩:∃x,L[k]?=some x:=⟨_,List.getElem?_eq_getElem hlt2⟩;have htm:t∈L:=List.mem_of_getElem? ht;have hrow:=HROW.out wr (HB4.out.trans (hb.mono HB4.out.size));obtain ⟨g,rfl,hg,hcap⟩:=hrow.val (by omega);obtain ⟨⟨a0,a1,a2⟩,⟨a3,a4,a5⟩,⟨a6,a7,a8⟩⟩:=hrow.at_ k t ht;have ns:=SP.out.s htm;have np:=SP.out.p htm;have no:=SP.out.o htm;obtain ⟨g3,cap3,he3,_,hg3,_⟩:=ROW4.out.val (List.length_pos_of_mem ns);cases he3
       have HNEXT:Hid (((L.map (idsOf ts)).take (k+1)).flatMap encI=((L.map (idsOf ts)).take k).flatMap encI++[.int .i64 (noOf ts (sM t):Nat),.int .i64 (noOf ts (pM t):Nat),.int .i64 (noOf ts (oM t):Nat)]):=by
        show ((L.map (idsOf ts)).take (k+1)).flatMap encI=_;rw[List.take_add_one,List.getElem?_map,ht,List.flatMap_append];rfl
       obtain ⟨wa,hwa⟩:∃wa,wr.alloc (.cells #[.int .i64 t.1.s.k,.string (str t.1.s.x),.string (str t.1.s.e),.int .i64 t.1.p.k,.string (str t.1.p.x),.string (str t.1.p.e),.int .i64 t.1.o.k,.string (str t.1.o.x),.string (str t.1.o.e)] 110)=wa:=⟨_,rfl⟩;have hba:Below wr.heap.size wr wa:=(by rw[<-hwa];exact br.alloc nL _);have hA9:A9 wa wr.heap.size 110 (.int .i64 t.1.s.k) (.string (str t.1.s.x)) (.string (str t.1.s.e)) (.int .i64 t.1.p.k) (.string (str t.1.p.x)) (.string (str t.1.p.e)) (.int .i64 t.1.o.k) (.string (str t.1.o.x)) (.string (str t.1.o.e)):=(by rw[<-hwa];exact A9.new _ _ _ _ _ _ _ _ _ _ _);have hba4:Below w4.heap.size w4 wa:=hb.trans (hba.mono hb.size);have ID:∀x:VTm,x∈ts->∀(m:Nat) (os:Array Obj),Calls prog 72 #[.pointer (some ⟨S,0,none⟩),.agg #[.int .i64 x.1.k,.string (str x.1.x),.string (str x.1.e)]] (Sort.grow (wa.drewN m) os) fun e w''=>e=.returned (.int .i64 (noOf ts x:Nat))/\∃p:GrownBy,w''=Sort.grow (wa.drewN p.n) p.os:=fun x hx m os=>by
        have hbg:Below w4.heap.size w4 (Sort.grow (wa.drewN m) os):=hba4.trans ((below_grow wa m os).mono hba4.size)
        have h1:=zmv ts SP.out.terms.1 (by have:=SP.out.tlen;omega) (noOf ts x-1) x (zce hx) (S+1) g3 ct3 S (Sort.grow (wa.drewN m) os) (ROW4.out.below hbg) (by
         have:=BL4.out;rw[cell_of_heap ((hbg.block S hs4).trans this)];rfl)
        have e1:((noOf ts x-1:Nat):Int)+1=(noOf ts x:Nat):=(by have:=zaY hx;omega);rw[e1]at h1;exact Calls.grown_of (Dr.calls_grow h1)
       have I1:=hid (ID (sM t) ns);have I2:=hid (ID (pM t) np);have I3:=hid (ID (oM t) no);have n1:=zaY ns;have n2:=zaY np;have n3:=zaY no;have hOWN:=Fd.own_below hown hba;have BA:=hid hba4;have OWN:=hid hOWN;have hlb:=hA9.lt;have b0:=fun m os=>cell_grown hlb hA9.c0 m os;have b1:=fun m os=>cell_grown hlb hA9.c1 m os;have b2:=fun m os=>cell_grown hlb hA9.c2 m os;have b3:=fun m os=>cell_grown hlb hA9.c3 m os;have b4:=fun m os=>cell_grown hlb hA9.c4 m os;have b5:=fun m os=>cell_grown hlb hA9.c5 m os;have b6:=fun m os=>cell_grown hlb hA9.c6 m os;have b7:=fun m os=>cell_grown hlb hA9.c7 m os;have b8:=fun m os=>cell_grown hlb hA9.c8 m os
       change Hid (∀(m:Nat) (os:Array Obj),Calls prog 72 #[.pointer (some ⟨S,0,none⟩),.agg #[.int .i64 t.1.s.k,.string (str t.1.s.x),.string (str t.1.s.e)]] (Sort.grow (wa.drewN m) os) fun e w''=>e=.returned (.int .i64 (noOf ts (sM t):Nat))/\∃p:GrownBy,w''=Sort.grow (wa.drewN p.n) p.os) at I1
       change Hid (∀(m:Nat) (os:Array Obj),Calls prog 72 #[.pointer (some ⟨S,0,none⟩),.agg #[.int .i64 t.1.p.k,.string (str t.1.p.x),.string (str t.1.p.e)]] (Sort.grow (wa.drewN m) os) fun e w''=>e=.returned (.int .i64 (noOf ts (pM t):Nat))/\∃p:GrownBy,w''=Sort.grow (wa.drewN p.n) p.os) at I2
       change Hid (∀(m:Nat) (os:Array Obj),Calls prog 72 #[.pointer (some ⟨S,0,none⟩),.agg #[.int .i64 t.1.o.k,.string (str t.1.o.x),.string (str t.1.o.e)]] (Sort.grow (wa.drewN m) os) fun e w''=>e=.returned (.int .i64 (noOf ts (oM t):Nat))/\∃p:GrownBy,w''=Sort.grow (wa.drewN p.n) p.os) at I3
       generalize noOf ts (sM t)=m1 at I1 HNEXT n1;generalize noOf ts (pM t)=m2 at I2 HNEXT n2;generalize noOf ts (oM t)=m3 at I3 HNEXT n3;have ent:∀args w,(callFunc 72 args).run prog w=.ok (.enter 72 args) w:=enters_of func72 (by kernel_rfl) rfl;have hmix:=mixed;clear hrow ns np no ID hA9 hba4 hown hOWN hb hba htm;go_wp2_with fail
       refine zcd 13 (v:=?_) (by assumption) (by kernel_rfl) (fun _ _ _ h=>h) (Or.inl ⟨by rfl,?_⟩) ?_;rotate_left
       · intro w';go_simp;try with_reducible rfl
       simp only[List.take_succ_cons,List.take_zero,List.drop_succ_cons,List.drop_zero,List.tail_cons,Act.put,List.setIfInBounds_toArray,List.set_cons_zero,List.set_cons_succ];repeat (quiet_step (first | (go_at_fn 72;first | with_reducible exact I1.out _ _ | with_reducible exact I2.out _ _ | with_reducible exact I3.out _ _)))
       refine wpQuiet_nil ?_;intro _ hw';obtain ⟨⟨nq,osq⟩,hw''⟩:=hw';subst hw'';have hbg:Below wa.heap.size wa (Sort.grow (wa.drewN nq) osq):=below_grow wa nq osq;have OWN2:=hid (Fd.own_below OWN.out hbg);have BA2:=hid (BA.out.trans (hbg.mono BA.out.size));clear b0 b1 b2 b3 b4 b5 b6 b7 b8 I1 I2 I3 ent hwa a0 a1 a2 a3 a4 a5 a6 a7 a8 hbg;generalize Sort.grow (wa.drewN nq) osq=wg at OWN2 BA2 ⊢;clear nq osq;go_wp2_with (at_builtin;refine wpList_append_own _ rfl _ _ 39 rfl w4.heap.size 103 j0 (.agg #[.int .i64 0,.int .i64 0,.int .i64 0]) 3 24 underlying39 hj hj0 hj1 hj2 rfl (by decide) _ k _ rfl (OWN2.out.alloc _) ⟨wg.heap.size,0,none⟩ 1 1 [.int .i64 (m1:Nat),.int .i64 (m2:Nat),.int .i64 (m3:Nat)] rfl rfl ?c1 ?c2 ?c3 ?c4 ?c5 ?_)
       case c1=>exact fun j u hj=>by rw[Fd.add_zero'];exact Fd.zgK wg _ 103 j u hj
       case c2=>intro u hu;simp at hu;rcases hu with rfl | rfl | rfl<;>rfl
       case c3=>unfold maxLen;omega
       case c4=>omega
       case c5=>have:=BA2.out.size;simp;omega
       intro v2 w5 hown2 hg2 _;rw[<-HNEXT.out]at hown2;have OWN5:=hid hown2;have B5:=hid ((BA2.out.alloc BA2.out.size _).grown hg2 (by have:=BA2.out.size;simp;omega) (fun j hj=>(OWN2.out.lt j hj).1));clear hown2 hg2 OWN2 BA2 OWN HNEXT;go_wp2;go_round
       case measure=>simp[RowKit.intOf];omega
       case rel=>exact ⟨k+1,by omega,by go_num,B5.out,OWN5.out⟩
     · obtain rfl:k=L.length:=(by omega);have hrowI:RowI wr w4.heap.size u6 (L.map (idsOf ts)):=by
        unfold RowI;rw[List.take_of_length_le (by simp)]at hown;rw[List.length_map];exact hown
       have hlm:(L.map (idsOf ts)).length=L.length:=List.length_map _;have HS:=hid (ziU (L.map (idsOf ts)) u6 w4.heap.size wr hrowI (by rw[hlm];omega) SP.out.ids);have HRI:=hid hrowI;have HB:=hid hb;clear hrowI hown hb;go_wp2_with fail
       refine HS.out.mono ?_;rintro e w5 ⟨rfl,hrow5,hf5⟩;have hb5:Below w4.heap.size w4 w5:=HB.out.trans (hf5.belowB (fun j hj e=>by have:=(HRI.out.lt j e).1;omega) HB.out.size)
       have HN:=hid (zfc (L.map (idsOf ts)) u6 w4.heap.size w5 hrow5 (by rw[hlm];exact hl) SP.out.ids (by
        intro x hx;obtain ⟨t,ht,rfl⟩:=List.mem_map.1 hx;have n1:=zaY (SP.out.s ht);have n2:=zaY (SP.out.p ht);have n3:=zaY (SP.out.o ht);have n4:=SP.out.tlen;unfold Num idsOf;simp only;omega))
       have HB5:=hid hb5;clear hf5 hb5 hrow5 HS;go_wp2_with fail
       refine HN.out.mono ?_;rintro e w6 ⟨R,rfl,hRge,hring,hb6⟩;have hb46:Below w4.heap.size w4 w6:=HB5.out.trans (hb6.mono HB5.out.size);have hBL6:w6.heap[S]?=_:=(hb46.block S hs4).trans BL4.out;have s6:w6.cell? ⟨S,2,none⟩=some (.pointer none):=(by rw[cell_of_heap hBL6];rfl);have s6f:w6.frozen? ⟨S,2,none⟩=false:=frozen_of_heap hBL6 2;have HBL6:=hid hBL6;have HB46:=hid hb46;have HRING:=hid hring;clear hb6 hb46 hBL6 hring HN;go_wp2;go_ret;have hRS:R≠S:=fun e=>(by have:=HB5.out.size;omega);have hf7:Fr w6 (w6.setCell ⟨S,2,none⟩ (.pointer (some ⟨R,0,none⟩))) (fun k=>k=S):=(Fr.refl w6 (fun k=>k=S)).set_ (p:=⟨S,2,none⟩) (.inl rfl) _;obtain ⟨vr,hvr,hri⟩:=HRING.out;have hB6:Below w.heap.size w w6:=HB4.out.trans (HB46.out.mono HB4.out.size);refine ⟨S,ts,rfl,⟨⟨_,R,zkI HBL6.out _,?_,vr,?_,?_⟩,?_,SP.out⟩,hB6.setCell hgeS _⟩
       · have h4:=hf7.own (ROW4.out.below HB46.out) fun k hk e=>(by have:=(ROW4.out.lt k hk).1;omega);exact zam h4 (Nat.zero_le _)
       · exact hf7.cell hvr (fun e=>hRS e)
       · exact hf7.own hri fun k hk=>zho hri HBL6.out (by decide) k hk
       · exact hf7.own (HROW.out w6 hB6) fun k hk=>zho (HROW.out w6 hB6) HBL6.out (by decide) k hk
end Go.Proofs.YtaeiifngjglchaaGreatDoor
end
section
namespace Go.Proofs.YtaeiifngjglchaaGreatDoor
open Go.Proofs.Tryz
open Go.RowKit Go.Lib Tv Go.Sort
theorem zet (S:Nat) (v:Value) (L:List VTri) (ts:List VTm) (w:World) (h:StoreIs w S v L ts) :
    Calls prog 44 #[.pointer (some ⟨S,0,none⟩)] w fun e w'=>∃v',e=.returned v'/\RowV w' w.heap.size v' L/\Below w.heap.size w w':=by
 obtain ⟨vt,R,hb,_,_⟩:=h.ex;have c0:w.cell? ⟨S,0,none⟩=some v:=(by rw[cell_of_heap hb];rfl);obtain ⟨A,c,rfl⟩:=Fd.zac h.row;have HC:=hid (zcQ L _ 0 w h.row (by have:=h.ok.len;omega));clear hb h;go_enter func44,ntmps44
 go_wp2_with fail
 refine HC.out.mono ?_;rintro e w1 ⟨v',rfl,hrow,hb⟩;go_wp2;go_ret;exact ⟨_,rfl,hrow,hb⟩
theorem len_of (S:Nat) (v:Value) (L:List VTri) (ts:List VTm) (w:World) (h:StoreIs w S v L ts) :
    Calls prog 27 #[.pointer (some ⟨S,0,none⟩)] w fun e w'=>e=.returned (.int .i64 L.length)/\Below w.heap.size w w':=by
 have HC:=hid (zet S v L ts w h);clear h;go_enter func27,ntmps27
 go_wp2_with fail
 refine HC.out.mono ?_;rintro e w1 ⟨v',rfl,hrow,hb⟩;obtain ⟨A,c,rfl⟩:=Fd.zac hrow;have HB:=hid hb;clear hrow hb;go_wp2;go_ret;exact ⟨rfl,HB.out⟩
theorem zgI (l:List VTm) (v:Value) (B:Nat) (w:World) (h:RowM w B v l) (hl:l.length<=100000) :
    Calls prog 77 #[v] w fun e w'=>∃v',e=.returned v'/\RowM w' w.heap.size v' l/\Below w.heap.size w w':=by
 rcases zaf h with ⟨rfl,hn⟩ | ⟨g,cap,rfl,hB,hg,hc,hcell⟩
 · obtain rfl:l=[]:=List.eq_nil_of_length_eq_zero hn;refine (AnyE.slices_Clone_nil (P:=prog) Tryz.cloneT 0 0 w).mono ?_;rintro e w' ⟨rfl,rfl⟩;exact ⟨_,rfl,World.ownsRow_nil _ _ _ _,br⟩
 · obtain ⟨i0,hi,hz0,hz1,hz2⟩:=(info_parts (by kernel_rfl):∃i,prog.info? 62=some i/\i.zero=some (.agg #[.int .i64 0,.string ⟨#[]⟩,.string ⟨#[]⟩])/\i.size=3/\i.bytes=40);have:=AnyE.slices_Clone (P:=prog) Tryz.cloneT i0 _ 3 40 hi hz0 hz1 hz2 rfl (by decide) Tryz.sizeOf62 g 0 l.length cap (l.flatMap encM) w h.1 (by unfold maxLen;omega) (by omega) (fun j u hj=>by rw[Nat.zero_add];exact hcell j u hj) (fun u hu=>by
    rw[List.mem_flatMap]at hu;obtain ⟨x,_,hx⟩:=hu;exact zbu x u hx)
   refine Calls.mono this ?_;rintro e w' ⟨v',rfl,hown,_,hb⟩;exact ⟨v',rfl,hown,hb⟩
theorem zlC (S:Nat) (v:Value) (L:List VTri) (ts:List VTm) (w:World) (h:StoreIs w S v L ts) :
    Calls prog 28 #[.pointer (some ⟨S,0,none⟩)] w fun e w'=>∃v',e=.returned v'/\RowM w' w.heap.size v' ts/\Below w.heap.size w w':=by
 obtain ⟨vt,R,hb,hrow,_⟩:=h.ex;have c0:w.cell? ⟨S,1,none⟩=some vt:=(by rw[cell_of_heap hb];rfl);obtain ⟨A,c,rfl⟩:=Fd.zac hrow;have HC:=hid (zgI ts _ 0 w hrow (by have:=h.ok.tlen;omega));clear hb h hrow;go_enter func28,ntmps28
 go_wp2_with fail
 refine HC.out.mono ?_;rintro e w1 ⟨v',rfl,hrow,hb⟩;go_wp2;go_ret;exact ⟨_,rfl,hrow,hb⟩
end Go.Proofs.YtaeiifngjglchaaGreatDoor
end
