/- Proved on the way: Texts that rise, and how they are writte; Rows of numbers in few bits: plain Lean,; A file of sections, and its sum: plain L; Places of texts that rise: plain Lean, n; The closed facts of the row of TopRound,. Each theorem states its own conditions. -/
import Derived.Test.YtaeiifngjglchaaGreatDoorRows
import Derived.ProofKit
import Derived.Test.YtaeiifngjglchaaGreatDoorPL1
set_option maxRecDepth 1000000
section
namespace Go.Proofs.YtaeiifngjglchaaGreatDoor.Fp
open Go.Proofs.Tryz
def shr:List UInt8->List UInt8->Nat
 | a::x,b::y=>if a=b then shr x y+1 else 0
 | _,_=>0
theorem zm8:∀(x y:List UInt8),shr x y<=x.length/\shr x y<=y.length
 | [],y=>by simp[shr]
 | a::x,[]=>by simp[shr]
 | a::x,b::y=>by
  have:=zm8 x y;unfold shr;split<;>simp<;>omega
theorem zh2:∀(x y:List UInt8),x.take (shr x y)=y.take (shr x y)
 | [],y=>by simp[shr]
 | a::x,[]=>by simp[shr]
 | a::x,b::y=>by
  unfold shr;split
  · rename_i h;subst h;simp[zh2 x y]
  · simp
theorem ze7 (x y:List UInt8) (n:Nat) (h1:n<=x.length) (h2:n<=y.length) (he:x.take n=y.take n) (hs:n=x.length\/n=y.length\/∃(hx:n<x.length) (hy:n<y.length),x[n]≠y[n]):shr x y=n:=by
 induction n generalizing x y with
 | zero=>
  match x,y with
  | [],y=>simp[shr]
  | a::x,[]=>simp[shr]
  | a::x,b::y=>
   unfold shr;rcases hs with hs | hs | ⟨_,_,hs⟩
   · simp at hs
   · simp at hs
   · simp at hs;rw[if_neg hs]
 | succ n ih=>
  match x,y with
  | [],y=>simp at h1
  | a::x,[]=>simp at h2
  | a::x,b::y=>
   simp at he h1 h2;unfold shr;rw[if_pos he.1,ih x y h1 h2 he.2];rcases hs with hs | hs | ⟨p,q,hs⟩
   · left;simpa using hs
   · right;left;simpa using hs
   · right;right;exact ⟨by simpa using p,by simpa using q,by simpa using hs⟩
def com (i:Nat) (prev s:List UInt8):Nat:=if i % 4=0 then 0 else shr prev s
theorem zla (i:Nat) (prev s:List UInt8):com i prev s<=prev.length/\com i prev s<=s.length:=by
 unfold com;split
 · omega
 · exact zm8 _ _
theorem zmW (i:Nat) (prev s:List UInt8):prev.take (com i prev s)=s.take (com i prev s):=by
 unfold com;split
 · simp
 · exact zh2 _ _
def ent (i:Nat) (prev s:List UInt8):List UInt8:=UInt8.ofNat (com i prev s)::UInt8.ofNat (s.length-com i prev s)::s.drop (com i prev s)
def encF:Nat->List UInt8->List (List UInt8)->List UInt8
 | _,_,[]=>[]
 | i,prev,s::r=>ent i prev s++encF (i+1) s r
def enc (X:List (List UInt8)):List UInt8:=UInt8.ofNat (X.length / 256)::UInt8.ofNat X.length::encF 0 [] X
theorem zhF (i:Nat) (prev s:List UInt8):(ent i prev s).length=2+(s.length-com i prev s):=by
 unfold ent;simp;omega
theorem zng (i:Nat) (prev s:List UInt8):(ent i prev s).length<=2+s.length:=by
 rw[zhF];omega
def step (last rest:List UInt8):Option (List UInt8 × List UInt8):=
 match rest with
 | a::c::r=>if a.toNat<=last.length/\c.toNat<=r.length then some (last.take a.toNat++r.take c.toNat,r.drop c.toNat) else none
 | _=>none
def decN:Nat->List UInt8->List UInt8->Option (List (List UInt8) × List UInt8)
 | 0,_,rest=>some ([],rest)
 | n+1,last,rest=>(step last rest).bind fun p=>(decN n p.1 p.2).map fun q=>(p.1::q.1,q.2)
theorem zlJ (i:Nat) (prev s t:List UInt8) (hp:prev.length<=250) (hs:s.length<=250):step prev (ent i prev s++t)=some (s,t):=by
 have hc:=zla i prev s;unfold step ent;simp only[List.cons_append];have e1:(UInt8.ofNat (com i prev s)).toNat=com i prev s:=(by rw[UInt8.toNat_ofNat'];omega);have e2:(UInt8.ofNat (s.length-com i prev s)).toNat=s.length-com i prev s:=(by rw[UInt8.toNat_ofNat'];omega);rw[e1,e2,if_pos ⟨hc.1,by simp⟩];have h1:(s.drop (com i prev s)++t).take (s.length-com i prev s)=s.drop (com i prev s):=by
  rw[List.take_append_of_le_length (by simp),List.take_of_length_le (by simp)]
 have h2:(s.drop (com i prev s)++t).drop (s.length-com i prev s)=t:=by
  rw[List.drop_append_of_le_length (by simp),List.drop_of_length_le (by simp)];rfl
 rw[h1,h2,zmW,List.take_append_drop]
theorem zol (X:List (List UInt8)) (hX:∀s∈X,s.length<=250):∀(i:Nat) (prev t:List UInt8),prev.length<=250->decN X.length prev (encF i prev X++t)=some (X,t):=by
 induction X with
 | nil=>intro i prev t _;rfl
 | cons s r ih=>
  intro i prev t hp;have hs:=hX s (List.mem_cons_self);show (step prev (ent i prev s++encF (i+1) s r++t)).bind _=_;rw[List.append_assoc,zlJ i prev s _ hp hs];simp only[Option.bind_some];rw[ih (fun x hx=>hX x (List.mem_cons_of_mem _ hx)) (i+1) s t hs];rfl
def decB (b:List UInt8):Option (List (List UInt8)):=
 match b with
 | p::q::r=>(decN (p.toNat*256+q.toNat) [] r).map (·.1)
 | _=>none
theorem zmT (X:List (List UInt8)) (hX:∀s∈X,s.length<=250) (hn:X.length<=300) (t:List UInt8):decB (enc X++t)=some X/\decN X.length [] (encF 0 [] X++t)=some (X,t):=by
 have e1:(UInt8.ofNat (X.length / 256)).toNat*256+(UInt8.ofNat X.length).toNat=X.length:=by
  rw[UInt8.toNat_ofNat',UInt8.toNat_ofNat'];omega
 have h:=zol X hX 0 [] t (by simp);refine ⟨?_,h⟩;show (decN ((UInt8.ofNat (X.length / 256)).toNat*256+(UInt8.ofNat X.length).toNat) [] (encF 0 [] X++t)).map _=_;rw[e1,h];rfl
end Go.Proofs.YtaeiifngjglchaaGreatDoor.Fp
end
section
namespace Go.Proofs.YtaeiifngjglchaaGreatDoor.Pk
open Go.Proofs.Tryz
def rdB (b:List Nat) (p:Nat):Bool:=(b.getD (p / 8) 0).testBit (p % 8)
def setB (b:List Nat) (p:Nat) (v:Bool):List Nat:=b.set (p / 8) (b.getD (p / 8) 0 ||| v.toNat <<< (p % 8))
theorem zlR (b:List Nat) (p:Nat) (v:Bool):(setB b p v).length=b.length:=by simp[setB]
theorem zjI (v:Bool) (t:Nat):v.toNat.testBit t=(decide (t=0) && v):=by
 cases v
 · simp
 · cases t with
   | zero=>simp
   | succ t=>simp[Nat.testBit_succ]
theorem znM (b:List Nat) (p q:Nat) (v:Bool) (hp:p / 8<b.length):rdB (setB b p v) q=(rdB b q || (decide (q=p) && v)):=by
 unfold rdB setB;by_cases h:q / 8=p / 8
 · rw[h,List.getD_eq_getElem?_getD,List.getElem?_set_self hp,Option.getD_some,Nat.testBit_or,Nat.testBit_shiftLeft,zjI]
   congr 1
   by_cases h2:q=p
   · subst h2;simp
   · have:¬(q % 8=p % 8):=fun e=>h2 (by omega);simp only[h2,decide_false,Bool.false_and];by_cases h3:p % 8<=q % 8
     · rw[dT h3,dF (by omega)];rfl
     · rw[dF (by omega)];rfl
 · have hne:q≠p:=fun e=>h (by rw[e]);rw[List.getD_eq_getElem?_getD,List.getElem?_set_ne (by omega),<-List.getD_eq_getElem?_getD];simp[hne]
def dgt (l:List Nat) (w m:Nat):Bool:=(l.getD (m / w) 0).testBit (m % w)
def pk (l:List Nat) (w:Nat):Nat->List Nat
 | 0=>List.replicate ((l.length*w+7) / 8) 0
 | m+1=>setB (pk l w m) m (dgt l w m)
def packB (l:List Nat) (w:Nat):List Nat:=pk l w (l.length*w)
theorem zid (l:List Nat) (w:Nat):∀m,(pk l w m).length=(l.length*w+7) / 8
 | 0=>by simp[pk]
 | m+1=>by rw[pk,zlR,zid l w m]
theorem packB_len (l:List Nat) (w:Nat):(packB l w).length=(l.length*w+7) / 8:=zid l w _
theorem zna (l:List Nat) (w q:Nat):∀m,m<=l.length*w->rdB (pk l w m) q=(decide (q<m) && dgt l w q)
 | 0,_=>by
  unfold rdB pk;have:((List.replicate ((l.length*w+7) / 8) 0).getD (q / 8) 0)=0:=by
   rw[List.getD_eq_getElem?_getD,List.getElem?_replicate];split<;>rfl
  rw[this];simp
 | m+1,h=>by
  rw[pk,znM _ _ _ _ (by rw[zid];omega),zna l w q m (by omega)];by_cases h1:q=m
  · subst h1;simp
  · by_cases h2:q<m
    · simp[h1,h2,show q<m+1 by omega]
    · simp[h1,h2,show ¬q<m+1 by omega]
theorem pk_lt (l:List Nat) (w:Nat):∀m,∀x∈pk l w m,x<256
 | 0=>by
  intro x hx;rw[pk,List.mem_replicate]at hx;omega
 | m+1=>by
  intro x hx;rw[pk,setB]at hx;rcases List.mem_or_eq_of_mem_set hx with h | h
  · exact pk_lt l w m x h
  · subst h;refine Nat.or_lt_two_pow (n:=8) ?_ ?_
    · rw[List.getD_eq_getElem?_getD];cases h:(pk l w m)[m / 8]? with
      | none=>simp
      | some y=>exact pk_lt l w m y (List.mem_of_getElem? h)
    · rw[Nat.shiftLeft_eq];have h1:(dgt l w m).toNat<=1:=Bool.toNat_le _
      calc (dgt l w m).toNat*2 ^ (m % 8)<=1*2 ^ (m % 8):=Nat.mul_le_mul_right _ h1
       _<2 ^ 8:=by rw[Nat.one_mul];exact Nat.pow_lt_pow_right (by decide) (by omega)
def unN (b:List Nat) (p:Nat):Nat->Nat
 | 0=>0
 | w+1=>unN b p w+(rdB b (p+w)).toNat*2 ^ w
def unp (b:List Nat) (n w:Nat):List Nat:=(List.range n).map fun i=>unN b (i*w) w
theorem zeX (b:List Nat) (n w:Nat):(unp b n w).length=n:=by simp[unp]
theorem zfK (b:List Nat) (p:Nat):∀w,unN b p w<2 ^ w
 | 0=>by simp[unN]
 | w+1=>by
  have h:=zfK b p w;have h1:(rdB b (p+w)).toNat<=1:=Bool.toNat_le _;rw[unN,Nat.pow_succ];have:=Nat.mul_le_mul_right (2 ^ w) h1;omega
theorem zme (x w:Nat):x % 2 ^ (w+1)=x % 2 ^ w+(x.testBit w).toNat*2 ^ w:=by
 rw[Nat.pow_succ,Nat.mod_mul,Nat.testBit_eq_decide_div_mod_eq]
 congr 1
 rw[Nat.mul_comm]
 congr 1
 have:x / 2 ^ w % 2=0\/x / 2 ^ w % 2=1:=(by omega);rcases this with h | h<;>simp[h]
theorem zhY (l:List Nat) (w i:Nat) (hi:i<l.length):∀k,k<=w->unN (packB l w) (i*w) k=(l.getD i 0) % 2 ^ k
 | 0,_=>by simp[unN,Nat.mod_one]
 | k+1,h=>by
  rw[unN,zhY l w i hi k (by omega),zme]
  congr 2
  have hb:i*w+k<l.length*w:=by
   have:(i+1)*w<=l.length*w:=Nat.mul_le_mul_right w hi;rw[Nat.add_mul]at this;omega
  unfold packB;rw[zna l w _ _ nL,dT hb,Bool.true_and];unfold dgt;have e1:(i*w+k) / w=i:=(by rw[Nat.mul_comm,Nat.mul_add_div (by omega),Nat.div_eq_of_lt (by omega)];rfl);have e2:(i*w+k) % w=k:=(by rw[Nat.mul_comm,Nat.mul_add_mod,Nat.mod_eq_of_lt (by omega)]);rw[e1,e2]
theorem zls (l:List Nat) (w:Nat) (h:∀x∈l,x<2 ^ w):unp (packB l w) l.length w=l:=by
 apply List.ext_getElem?;intro i;by_cases hi:i<l.length
 · unfold unp;rw[List.getElem?_map,List.getElem?_range hi,Option.map_some,zhY l w i hi w nL,List.getElem?_eq_getElem hi,List.getD_eq_getElem?_getD,List.getElem?_eq_getElem hi];simp only[Option.getD_some];rw[Nat.mod_eq_of_lt (h _ (List.getElem_mem hi))]
 · rw[List.getElem?_eq_none (by rw[zeX];omega),List.getElem?_eq_none (by omega)]
def PkIs (b:List Nat) (n w:Nat) (l:List Nat):Prop:=l.length=n/\(∀x∈l,x<2 ^ w)/\packB l w=b
theorem PkIs.unp {b:List Nat} {n w:Nat} {l:List Nat} (h:PkIs b n w l):l=unp b n w:=by
 obtain ⟨rfl,h1,rfl⟩:=h;exact (zls l w h1).symm
theorem zjD (b:List Nat) (n w:Nat):∀x∈unp b n w,x<2 ^ w:=by
 intro x hx;unfold Pk.unp at hx;obtain ⟨i,_,rfl⟩:=List.mem_map.1 hx;exact zfK _ _ _
theorem pk_is (b:List Nat) (n w:Nat):(∃l,PkIs b n w l)↔packB (unp b n w) w=b:=by
 constructor
 · rintro ⟨l,h⟩;rw[<-h.unp];exact h.2.2
 · intro h;exact ⟨_,zeX _ _ _,zjD _ _ _,h⟩
end Go.Proofs.YtaeiifngjglchaaGreatDoor.Pk
end
section
namespace Go.Proofs.YtaeiifngjglchaaGreatDoor.Bx
open Go.Proofs.Tryz
abbrev Bs:=List UInt8
def poly:Nat:=25578747
def stp (x:Nat):Nat:=if 16777216<=2*x then (2*x) ^^^ poly else 2*x
theorem zm7 {x:Nat} (h:x<16777216):stp x<16777216:=by
 unfold stp;split
 · rename_i h2;have h3:(2*x) ^^^ poly<2 ^ 25:=Nat.xor_lt_two_pow (by omega) (by decide);refine Nat.lt_pow_two_of_testBit (n:=24) _ fun j hj=>?_;rcases Nat.lt_or_eq_of_le hj with hj | hj
   · exact Nat.testBit_lt_two_pow (Nat.lt_of_lt_of_le h3 (Nat.pow_le_pow_right (by decide) (by omega)))
   · subst hj;rw[Nat.testBit_xor];have e1:(2*x).testBit 24=true:=(by rw[Nat.testBit_eq_decide_div_mod_eq,decide_eq_true_eq];omega);have e2:poly.testBit 24=true:=(by decide);rw[e1,e2];rfl
 · omega
def stpN:Nat->Nat->Nat
 | 0,x=>x
 | n+1,x=>stpN n (stp x)
theorem zjR:∀(n:Nat) {x:Nat},x<16777216->stpN n x<16777216
 | 0,_,h=>h
 | n+1,_,h=>zjR n (zm7 h)
def crc1 (x:Nat) (c:UInt8):Nat:=stpN 8 (x ^^^ (c.toNat*65536))
theorem znj {x:Nat} (c:UInt8) (h:x<16777216):x ^^^ (c.toNat*65536)<16777216:=
 Nat.xor_lt_two_pow (n:=24) h (by have:=c.toNat_lt;omega)
theorem zon {x:Nat} (c:UInt8) (h:x<16777216):crc1 x c<16777216:=zjR 8 (znj c h)
def crcF (x:Nat) (l:Bs):Nat:=List.foldl crc1 x l
theorem zmU (x:Nat):crcF x []=x:=by unfold crcF;exact List.foldl_nil
theorem zk9 (x:Nat) (c:UInt8) (l:Bs):crcF x (c::l)=crcF (crc1 x c) l:=by unfold crcF;exact List.foldl_cons ..
def crcN (l:Bs):Nat:=crcF 11994318 l
theorem bit24 {y:Nat} (h:y<33554432):y &&& 16777216=if 16777216<=y then 16777216 else 0:=by
 apply Nat.eq_of_testBit_eq;intro j;rw[Nat.testBit_and,show (16777216:Nat)=2 ^ 24 from rfl,Nat.testBit_two_pow];by_cases hj:24=j
 · subst hj;rw[dT rfl,Bool.and_true,Nat.testBit_eq_decide_div_mod_eq];split
   · rw[Nat.testBit_two_pow,dT rfl,decide_eq_true_eq];omega
   · rw[Nat.zero_testBit,decide_eq_false_iff_not];omega
 · rw[dF hj,Bool.and_false];split
   · rw[Nat.testBit_two_pow,dF hj]
   · rw[Nat.zero_testBit]
structure Sec where
 id:Nat
 body:Bs
def w24 (n:Nat):Bs:=[UInt8.ofNat (n / 65536),UInt8.ofNat (n / 256),UInt8.ofNat n]
def r24 (a b c:UInt8):Nat:=a.toNat*65536+b.toNat*256+c.toNat
theorem znN {n:Nat} (h:n<16777216):r24 (UInt8.ofNat (n / 65536)) (UInt8.ofNat (n / 256)) (UInt8.ofNat n)=n:=by
 unfold r24;rw[UInt8.toNat_ofNat',UInt8.toNat_ofNat',UInt8.toNat_ofNat'];omega
def hdB (s:Sec):Bs:=UInt8.ofNat s.id::(w24 s.body.length++w24 (crcN s.body))
theorem zod (s:Sec):(hdB s).length=7:=rfl
def hdsB (l:List Sec):Bs:=l.flatMap hdB
def bodB (l:List Sec):Bs:=l.flatMap Sec.body
theorem zit:∀l:List Sec,(hdsB l).length=7*l.length
 | []=>rfl
 | s::l=>by
  have:=zit l;unfold hdsB at *;rw[List.flatMap_cons,List.length_append,this,zod,List.length_cons];omega
def headB (l:List Sec):Bs:=[84,82,73,86,1,UInt8.ofNat l.length]++hdsB l
theorem zgr (l:List Sec):(headB l).length=6+7*l.length:=by
 unfold headB;rw[List.length_append,zit];rfl
def boxB (l:List Sec):Bs:=headB l++w24 (crcN (headB l))++bodB l
theorem zc5 (l:List Sec):(boxB l).length=9+7*l.length+(bodB l).length:=by
 unfold boxB;rw[List.length_append,List.length_append,zgr];show 6+7*l.length+3+_=_;omega
def Ids:Nat->List Sec->Prop
 | _,[]=>True
 | last,s::l=>last<s.id/\s.id<=255/\Ids s.id l
def MayB (l:List Sec):Prop:=l.length<=8/\Ids 0 l/\9+7*l.length+(bodB l).length<=100000
def rdS:Nat->Bs->Bs->Option (List Sec)
 | 0,_,_=>some []
 | n+1,h,b=>match h with
  | i::x::y::z::_=>if r24 x y z<=b.length then (rdS n (h.drop 7) (b.drop (r24 x y z))).map fun r=>⟨i.toNat,b.take (r24 x y z)⟩::r else none
  | _=>none
def parB (b:Bs):Option (List Sec):=
 if 6<=b.length then
  if 9+7*(b.getD 5 0).toNat<=b.length then rdS (b.getD 5 0).toNat (b.drop 6) (b.drop (9+7*(b.getD 5 0).toNat)) else none
 else none
theorem zib:∀(l:List Sec) (t r:Bs) (last:Nat),Ids last l->(bodB l).length<=100000->rdS l.length (hdsB l++t) (bodB l++r)=some l
 | [],_,_,_,_,_=>rfl
 | s::l,t,r,last,hi,hb=>by
  have e1:hdsB (s::l)++t=UInt8.ofNat s.id::UInt8.ofNat (s.body.length / 65536)::UInt8.ofNat (s.body.length / 256)::UInt8.ofNat s.body.length::(w24 (crcN s.body)++(hdsB l++t)):=by
   unfold hdsB hdB w24;simp
  have e2:bodB (s::l)++r=s.body++(bodB l++r):=by
   unfold bodB;rw[List.flatMap_cons,List.append_assoc]
  have e3:(bodB (s::l)).length=s.body.length+(bodB l).length:=by
   unfold bodB;rw[List.flatMap_cons,List.length_append]
  have hsz:s.body.length<16777216:=(by omega);rw[List.length_cons,e1,e2,rdS,znN hsz,if_pos (by rw[List.length_append];omega)];have e4:(UInt8.ofNat s.id::UInt8.ofNat (s.body.length / 65536)::UInt8.ofNat (s.body.length / 256)::UInt8.ofNat s.body.length::(w24 (crcN s.body)++(hdsB l++t))).drop 7=hdsB l++t:=rfl;rw[e4,List.drop_left,List.take_left,zib l t r s.id hi.2.2 (by omega),Option.map_some];have e5:(UInt8.ofNat s.id).toNat=s.id:=by
   rw[UInt8.toNat_ofNat'];have:=hi.2.1;omega
  rw[e5]
theorem zkb (l:List Sec) (h:MayB l):parB (boxB l)=some l:=by
 obtain ⟨h1,h2,h3⟩:=h;have hl:=zc5 l;have e5:(boxB l).getD 5 0=UInt8.ofNat l.length:=rfl;have e6:(UInt8.ofNat l.length).toNat=l.length:=(by rw[UInt8.toNat_ofNat'];omega);unfold parB;rw[if_pos (by omega),e5,e6,if_pos (by omega)];have d6:(boxB l).drop 6=hdsB l++(w24 (crcN (headB l))++bodB l):=by
  unfold boxB;rw[List.append_assoc];rfl
 have d9:(boxB l).drop (9+7*l.length)=bodB l:=by
  unfold boxB;have:(headB l++w24 (crcN (headB l))).length=9+7*l.length:=by
   rw[List.length_append,zgr];show 6+7*l.length+3=_;omega
  rw[<-this,List.drop_left]
 rw[d6,d9];have:=zib l (w24 (crcN (headB l))++bodB l) [] 0 h2 (by omega);rwa[List.append_nil]at this
def BxIs (b:Bs) (l:List Sec):Prop:=MayB l/\boxB l=b
theorem BxIs.par {b:Bs} {l:List Sec} (h:BxIs b l):parB b=some l:=by
 obtain ⟨h1,rfl⟩:=h;exact zkb l h1
theorem zhR {b:Bs} (h:parB b=none):¬∃l,BxIs b l:=by
 rintro ⟨l,hl⟩;rw[hl.par]at h;cases h
theorem zlf {b:Bs} {l:List Sec} (h:parB b=some l) (hn:¬(MayB l/\boxB l=b)):¬∃l,BxIs b l:=by
 rintro ⟨l',hl⟩;rw[hl.par]at h;cases h
 exact hn hl
theorem BxIs.uniq {b:Bs} {l l':List Sec} (h:BxIs b l) (h':BxIs b l'):l=l':=by
 have:=h.par;rw[h'.par]at this;exact (Option.some.inj this).symm
end Go.Proofs.YtaeiifngjglchaaGreatDoor.Bx
end
section
namespace Go.Proofs.YtaeiifngjglchaaGreatDoor.Fp
open Go.Proofs.Tryz
structure PreIs (X:List (List UInt8)) (p:List UInt8) (a b:Nat):Prop where
 ok:(a=0/\b=0)\/(1<=a/\a<=b/\b<=X.length)
 iff:∀i,(h:i<X.length)->(p <+: X[i]↔a<=i+1/\i+1<=b)
end Go.Proofs.YtaeiifngjglchaaGreatDoor.Fp
end
section
namespace Go.Proofs.YtaeiifngjglchaaGreatDoor.FcTopRound
open Go.Proofs.Tryz
open Go.ChangeShapes
theorem an {a b:Bool} (h:a=true) (k:b=true):(a && b)=true:=by rw[h,k];rfl
theorem k0:(Rows.topRoundRow.wf (OpenSpec.ofChange (OpenSpec.ofChange Rows.topRoundSpec).bare))=true:=by kernel_rfl
theorem k1:(laidOutB prog)=true:=by kernel_rfl
theorem k2:(mapsRowed prog)=true:=by kernel_rfl
theorem k3:(Tryz.f3.params.all (prog.readableRec ·))=true:=by kernel_rfl
theorem k4:(namedTie prog Rows.topRoundRow.named (OpenSpec.ofChange Rows.topRoundSpec).bare.vars)=true:=by kernel_rfl
theorem k5:((Rows.topRoundRow.stops == []))=true:=by kernel_rfl
theorem k6:((prog.stops == []))=true:=by kernel_rfl
theorem k7:((Rows.topRoundRow.knobs == []))=true:=by kernel_rfl
theorem k8:((prog.stopKnobs == []))=true:=by kernel_rfl
theorem k9:((Rows.topRoundRow.inPlace == prog.inPlace 3))=true:=by kernel_rfl
theorem k10:((Rows.topRoundRow.unfollowed == prog.unfollowed 3))=true:=by kernel_rfl
theorem k11:((Rows.topRoundRow.recurses == prog.recurses 3))=true:=by kernel_rfl
theorem k12:((Rows.topRoundRow.named == prog.varsNamed 3))=true:=by kernel_rfl
theorem k13:((Rows.topRoundRow.maps == (Tryz.f3.params.toList++(OpenSpec.ofChange Rows.topRoundSpec).bare.plain.varTypes prog).any (prog.mapsRec ·)))=true:=by kernel_rfl
theorem k14:((Rows.topRoundRow.ifaces == (Tryz.f3.params.toList++(OpenSpec.ofChange Rows.topRoundSpec).bare.plain.varTypes prog).any (prog.ifacesRec ·)))=true:=by kernel_rfl
theorem k15:((Rows.topRoundRow.mapsOut == prog.mapsAmong Tryz.f3.resultTypes.toList))=true:=by kernel_rfl
theorem k16:((Rows.topRoundRow.loops == (Tryz.f3.params.toList++(OpenSpec.ofChange Rows.topRoundSpec).bare.plain.varTypes prog).any (prog.loopsFrom ·)))=true:=by kernel_rfl
theorem k17:((Rows.topRoundRow.wideKeys == (Tryz.f3.params.toList++(OpenSpec.ofChange Rows.topRoundSpec).bare.plain.varTypes prog++Tryz.f3.resultTypes.toList).any (prog.wideKeysFrom ·)))=true:=by kernel_rfl
theorem k18:((OpenSpec.ofChange Rows.topRoundSpec).bare.vars.all (prog.varReadable ·))=true:=by kernel_rfl
theorem k19:(Tryz.f3.resultTypes.all (fun t=>prog.readableRec t && decide (t<prog.types.size)))=true:=by kernel_rfl
theorem k20:((Rows.topRoundRow.ifacesOut == Tryz.f3.resultTypes.toList.any (prog.ifacesRec ·)))=true:=by kernel_rfl
theorem k21:((Rows.topRoundRow.loopsOut == Tryz.f3.resultTypes.toList.any (prog.loopsFrom ·)))=true:=by kernel_rfl
theorem k22:((Rows.topRoundRow.plainKeys == prog.plainKeys))=true:=by kernel_rfl
theorem k23:(Rows.topRoundRow.shortTexts.isNone)=true:=by kernel_rfl
theorem k24:(prog.stopsHeard)=true:=by kernel_rfl
theorem k25:(prog.mayEnter)=true:=by kernel_rfl
theorem k26:((Rows.topRoundRow.lifted == prog.liftsFinal))=true:=by kernel_rfl
theorem k27:((prog.make == some Rows.topRoundRow.make))=true:=by kernel_rfl
theorem k28:((Rows.topRoundRow.kinds == (if Rows.topRoundRow.domain.isEmpty then [] else Tryz.f3.params.toList.map fun t=>match prog.underlying t with | some (.int k)=>some k | _=>none)))=true:=by kernel_rfl
theorem k29:((Rows.topRoundRow.pinned == Rows.topRoundRow.pinnedBy))=true:=by kernel_rfl
theorem k30:((Rows.topRoundRow.veiled == (Tryz.f3.params.toList++(OpenSpec.ofChange Rows.topRoundSpec).bare.plain.varTypes prog++Tryz.f3.resultTypes.toList).any (prog.veiledRec ·)))=true:=by kernel_rfl
theorem k31:(Rows.topRoundRow.veiledFits prog Tryz.f3.params.toList (Tryz.f3.params.toList++(OpenSpec.ofChange Rows.topRoundSpec).bare.plain.varTypes prog++Tryz.f3.resultTypes.toList))=true:=by kernel_rfl
theorem closed:joinedFacts Tryz.pinned.checked.prog 3 f3 (OpenSpec.ofChange Rows.topRoundSpec).bare Rows.topRoundRow=true:=by
 unfold joinedFacts;exact an (an (an (an (an (an (an (an (an (an (an (an (an (an (an (an (an (an (an (an (an (an (an (an (an (an (an (an (an (an (an k0 k1) k2) k3) k4) k5) k6) k7) k8) k9) k10) k11) k12) k13) k14) k15) k16) k17) k18) k19) k20) k21) k22) k23) k24) k25) k26) k27) k28) k29) k30) k31
end Go.Proofs.YtaeiifngjglchaaGreatDoor.FcTopRound
end
