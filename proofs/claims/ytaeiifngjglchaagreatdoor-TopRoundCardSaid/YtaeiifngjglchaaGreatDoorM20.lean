/- Proved on the way: The lines of a text, one step at a time:; Lines as the document's Parse cuts them,; The document's reading of a term and of ; The document's reader: a literal; The document's reader: a term. Each theorem states its own conditions. -/
import Derived.Test.YtaeiifngjglchaaGreatDoorM14
import Derived.Test.YtaeiifngjglchaaGreatDoorM10
import Derived.Test.YtaeiifngjglchaaGreatDoorM15
set_option maxHeartbeats 16000000
set_option maxRecDepth 1000000
set_option linter.unusedSimpArgs false
section
namespace Go.Proofs.YtaeiifngjglchaaGreatDoor.Tv
open Go.Proofs.Tryz
open Go.Lib
theorem zcA (nl:Bool):∀(f f':Nat) (s:Bs) (acc:List Tri) (n:Nat),s.length<f->s.length<f'->parGo nl f s acc n=parGo nl f' s acc n
 | 0,_,_,_,_,h,_=>absurd h (by omega)
 | _,0,_,_,_,_,h=>absurd h (by omega)
 | f+1,f'+1,s,acc,n,h1,h2=>by
  unfold parGo;by_cases hs:s=[]
  · rw[if_pos hs,if_pos hs]
  · have hl:=zfm s hs;rw[if_neg hs,if_neg hs];rw[zcA nl f f' (lnB s) acc (n+1) (by omega) (by omega)];have:∀t:Tri,parGo nl f (lnB s) (acc++[t]) (n+1)=parGo nl f' (lnB s) (acc++[t]) (n+1):=fun t=>zcA nl f f' (lnB s) (acc++[t]) (n+1) (by omega) (by omega);simp only[this]
def parX (s:Bs) (acc:List Tri) (n:Nat):Except (Nat × Nat) (List Tri × Nat):=parGo false (s.length+1) s acc n
theorem zfi (acc:List Tri) (n:Nat):parX [] acc n=.ok (acc,n):=rfl
theorem zcz (s:Bs) (acc:List Tri) (n:Nat) (h:s≠[]):parX s acc n=if 200<n+1 then .error (n+1,3)
    else match oneV false (ln s) with
     | none=>.error (n+1,2)
     | some none=>parX (lnB s) acc (n+1)
     | some (some t)=>
      if t∈acc then parX (lnB s) acc (n+1)
      else if 100<acc.length+1 then .error (n+1,3)
      else parX (lnB s) (acc++[t]) (n+1):=by
 have hl:=zfm s h;have e:∀acc n,parX (lnB s) acc n=parGo false s.length (lnB s) acc n:=fun acc n=>zcA false _ _ _ _ _ (by omega) (by omega);simp only[e]
 conv=>lhs;unfold parX parGo
 rw[if_neg h];rfl
theorem zf6 {s:Bs} {acc:List Tri} {n:Nat} (h:s≠[]) (h2:200<n+1):parX s acc n=.error (n+1,3):=by rw[zcz s acc n h,if_pos h2]
theorem zfj {s:Bs} {acc:List Tri} {n:Nat} (h:s≠[]) (h2:¬200<n+1) (h3:oneV false (ln s)=none):parX s acc n=.error (n+1,2):=by rw[zcz s acc n h,if_neg h2,h3]
theorem zhl {s:Bs} {acc:List Tri} {n:Nat} (h:s≠[]) (h2:¬200<n+1) (h3:oneV false (ln s)=some none):parX s acc n=parX (lnB s) acc (n+1):=by rw[zcz s acc n h,if_neg h2,h3]
theorem zhm {s:Bs} {acc:List Tri} {n:Nat} {t:Tri} (h:s≠[]) (h2:¬200<n+1) (h3:oneV false (ln s)=some (some t)) (h4:t∈acc):parX s acc n=parX (lnB s) acc (n+1):=by
 rw[zcz s acc n h,if_neg h2,h3];exact if_pos h4
theorem zdI {s:Bs} {acc:List Tri} {n:Nat} {t:Tri} (h:s≠[]) (h2:¬200<n+1) (h3:oneV false (ln s)=some (some t)) (h4:t∉acc) (h5:100<acc.length+1):parX s acc n=.error (n+1,3):=by
 rw[zcz s acc n h,if_neg h2,h3];show (if t∈acc then _ else _)=_;rw[if_neg h4,if_pos h5]
theorem zcX {s:Bs} {acc:List Tri} {n:Nat} {t:Tri} (h:s≠[]) (h2:¬200<n+1) (h3:oneV false (ln s)=some (some t)) (h4:t∉acc) (h5:¬100<acc.length+1):parX s acc n=parX (lnB s) (acc++[t]) (n+1):=by
 rw[zcz s acc n h,if_neg h2,h3];show (if t∈acc then _ else _)=_;rw[if_neg h4,if_neg h5]
theorem zf7 {s:Bs} (h:20000<s.length):parV false s=.error (0,4):=by unfold parV;rw[if_pos h]
theorem zhn {s:Bs} (h:¬20000<s.length):parV false s=parX s [] 0:=by unfold parV;rw[if_neg h];rfl
theorem zeG:parV false knownS=.ok ([knownT],1):=by
 have h:=zky;cases hp:parV false knownS with
 | error e=>rw[hp]at h;cases h
 | ok p=>
  obtain ⟨l,m⟩:=p;rw[hp]at h;have h':decide (l=[knownT]/\m=1)=true:=h;obtain ⟨rfl,rfl⟩:=oT h';rfl
end Go.Proofs.YtaeiifngjglchaaGreatDoor.Tv
end
section
namespace Go.Proofs.YtaeiifngjglchaaGreatDoor
open Go.Proofs.Tryz
open Go.Lib Tv Go.Sort
theorem lnA_c (c:UInt8) (t:Bs):lnA (c::t)=if c=10 then [] else c::lnA t:=by
 unfold lnA;rw[List.takeWhile_cons];by_cases h:c=10
 · subst h;rfl
 · rw[if_neg h,if_pos (by simp[h])]
theorem lnB_c (c:UInt8) (t:Bs):lnB (c::t)=if c=10 then t else lnB t:=by
 unfold lnB;rw[List.dropWhile_cons];by_cases h:c=10
 · subst h;rfl
 · rw[if_neg h,if_pos (by simp[h])]
theorem lnE_c (c:UInt8) (t:Bs):lnE (c::t)=if c=10 then true else lnE t:=by
 unfold lnE;rw[List.any_cons];by_cases h:c=10
 · subst h;rfl
 · rw[if_neg h];simp[h]
theorem ln_at:∀t:Bs,(∀k c,k<(lnA t).length->t[k]?=some c->c≠10)/\(lnA t).length<=t.length/\((lnA t).length<t.length->t[(lnA t).length]?=some 10/\lnE t=true)/\((lnA t).length=t.length->lnE t=false)/\lnA t=t.take (lnA t).length/\lnB t=t.drop ((lnA t).length+1)
 | []=>⟨fun k c h=>by simp[lnA]at h,by simp[lnA],fun h=>by simp[lnA]at h,fun _=>rfl,rfl,rfl⟩
 | c::t=>by
  obtain ⟨h1,h2,h3,h4,h5,h6⟩:=ln_at t;rw[lnA_c,lnB_c,lnE_c];by_cases hc:c=10
  · subst hc;simp
  · rw[if_neg hc,if_neg hc,if_neg hc];refine ⟨fun k d hk hd=>?_,by simp only[List.length_cons];omega,fun h=>?_,fun h=>h4 (by simpa using h),?_,by simpa using h6⟩
    · cases k with
      | zero=>simp at hd;rw[<-hd];exact hc
      | succ k=>exact h1 k d (by simpa using hk) (by simpa using hd)
    · simpa using h3 (by simpa using h)
    · simp only[List.length_cons,List.take_succ_cons];rw[<-h5]
theorem zn4 (t:Bs) (k:Nat) (hk:(lnA t).length=k+1) (hE:lnE t=true):ln t=if t[k]?=some 13 then t.take k else t.take (k+1):=by
 obtain ⟨_,h2,_,_,h5,_⟩:=ln_at t;rw[hk]at h5;unfold ln cr;rw[hE,if_pos rfl,h5];have hl:(t.take (k+1)).getLast?=t[k]?:=by
  rw[List.getLast?_eq_getElem?,List.length_take,Nat.min_eq_left (by omega),Nat.add_sub_cancel,List.getElem?_take_of_lt (by omega)]
 rw[hl];by_cases h:t[k]?=some 13
 · rw[if_pos h,if_pos h,List.dropLast_eq_take,List.length_take,Nat.min_eq_left (by omega),Nat.add_sub_cancel,List.take_take,Nat.min_eq_left (by omega)]
 · rw[if_neg h,if_neg h]
theorem zn3 (t:Bs) (hk:(lnA t).length=0):ln t=[]:=by
 have h:lnA t=[]:=List.eq_nil_of_length_eq_zero hk;unfold ln;rw[h];split<;>rfl
theorem zmf (t:Bs) (hE:lnE t=false):ln t=t.take (lnA t).length:=by
 unfold ln;rw[hE,if_neg (by decide)];exact (ln_at t).2.2.2.2.1
theorem ziW {lt:VTri->VTri->Bool} (hO:SWO lt) {l:List VTri} (h:Rise lt l):l.Nodup:=h.imp fun {a b} hab e=>by
 subst e;have:=hO.irrefl a;rw[hab]at this;cases this
theorem zfg {A r r':List VTri} {x:VTri} (hs:SortB (ltOf cmpV) A r) (hl:r.length=A.length) (h:PutIs (ltOf cmpV) r x r') :
    (x∈A->SortB (ltOf cmpV) A r'/\r'.length=A.length)/\(x∉A->SortB (ltOf cmpV) (A++[x]) r'/\r'.length=(A++[x]).length):=by
 have h1:=h.sort swoV hs;have hn:=ziW swoV h1.1;rcases h with ⟨hx,rfl⟩ | ⟨i,hsp,hge,rfl⟩
 · refine ⟨fun _=>⟨hs,hl⟩,fun h=>absurd ((hs.2 x).1 hx) h⟩
 · refine ⟨fun hx=>?_,fun _=>⟨h1,?_⟩⟩
   · exfalso;have hxr:x∈r:=(hs.2 x).2 hx;rw[<-List.take_append_drop i r,List.mem_append]at hxr;rw[List.nodup_append]at hn;rcases hxr with h | h
     · exact hn.2.2 x h x (by simp) rfl
     · have:=hn.2.1;rw[List.nodup_cons]at this;exact this.1 h
   · have:=hsp.le;rw[List.length_append,List.length_cons,List.length_take,List.length_drop,List.length_append,List.length_singleton];omega
end Go.Proofs.YtaeiifngjglchaaGreatDoor
end
section
namespace Go.Proofs.YtaeiifngjglchaaGreatDoor.Tv
open Go.Proofs.Tryz
open Go.Lib
theorem zgT (e:UInt8) (lit:Bool):∀(n:Nat) (l:Bs),untl n true e lit l=untl n false e lit l\/(untl n true e lit l=none/\∀x q,untl n false e lit l=some (x,q)->10∈x\/13∈x)
 | 0,l=>.inl rfl
 | n+1,[]=>.inl rfl
 | n+1,c::l=>by
  by_cases h1:c=e
  · left;simp only[untl];rw[if_pos h1,if_pos h1]
  by_cases h2:c=92
  · simp only[untl];rw[if_neg h1,if_pos h2,if_neg h1,if_pos h2];cases hx:esc lit l with
    | none=>left;rfl
    | some p=>
     rw[Option.bind_some,Option.bind_some];rcases zgT e lit n p.2 with h | ⟨h,k⟩
     · left;rw[h]
     · right
       refine ⟨by rw[h];rfl,?_⟩;intro x q hq;cases hy:untl n false e lit p.2 with
       | none=>rw[hy]at hq;cases hq
       | some y=>
        rw[hy]at hq;simp only[Option.map_some,Option.some.injEq,Prod.mk.injEq]at hq;obtain ⟨rfl,rfl⟩:=hq;rcases k y.1 y.2 hy with k | k
        · exact .inl (List.mem_append.2 (.inr k))
        · exact .inr (List.mem_append.2 (.inr k))
  by_cases h3:c=10\/c=13
  · right
    simp only[untl];rw[if_neg h1,if_neg h2,if_pos ⟨trivial,h3⟩,if_neg h1,if_neg h2,if_neg (by simp)];refine ⟨rfl,?_⟩;intro x q hq;cases hy:untl n false e lit l with
    | none=>rw[hy]at hq;cases hq
    | some y=>
     rw[hy]at hq;simp only[Option.map_some,Option.some.injEq,Prod.mk.injEq]at hq;obtain ⟨rfl,rfl⟩:=hq;rcases h3 with rfl | rfl
     · exact .inl List.mem_cons_self
     · exact .inr List.mem_cons_self
  · simp only[untl];rw[if_neg h1,if_neg h2,if_neg (fun h=>h3 h.2),if_neg h1,if_neg h2,if_neg (by simp)];rcases zgT e lit n l with h | ⟨h,k⟩
    · left;rw[h]
    · right
      refine ⟨by rw[h];rfl,?_⟩;intro x q hq;cases hy:untl n false e lit l with
      | none=>rw[hy]at hq;cases hq
      | some y=>
       rw[hy]at hq;simp only[Option.map_some,Option.some.injEq,Prod.mk.injEq]at hq;obtain ⟨rfl,rfl⟩:=hq;rcases k y.1 y.2 hy with k | k
       · exact .inl (List.mem_cons_of_mem _ k)
       · exact .inr (List.mem_cons_of_mem _ k)
theorem zkB {x:Bs} (h:10∈x\/13∈x):iriT x=false:=by
 cases hi:iriT x with
 | false=>rfl
 | true=>
  exfalso;rcases h with h | h
  · exact (zck x hi _ h).2.2.1 rfl
  · exact (zck x hi _ h).2.2.2 rfl
def tailR (x:Bs):Bs->Option (Tm × Bs)
 | 64::r=>some (⟨4,x,(r.takeWhile isTag).map low⟩,r.dropWhile isTag)
 | 94::94::60::r=>(upTo true 62 false r).map fun q=>(⟨5,x,q.1⟩,q.2)
 | r=>some (⟨3,x,[]⟩,r)
def litR (l:Bs):Option (Tm × Bs):=(upTo true 34 true l).bind fun p=>tailR p.1 p.2
theorem zbl (l:Bs):litR l=(upTo true 34 true l).bind fun p=>tailR p.1 p.2:=rfl
theorem zds (x q:Bs) (h1:¬∃r,q=64::r) (h2:¬∃r,q=94::94::60::r):tailR x q=some (⟨3,x,[]⟩,q):=by
 unfold tailR;split
 · exact absurd ⟨_,rfl⟩ h1
 · exact absurd ⟨_,rfl⟩ h2
 · rfl
def termR:Bs->Option (Tm × Bs)
 | 60::r=>(upTo true 62 false r).map fun p=>(⟨1,p.1,[]⟩,p.2)
 | 95::58::r=>some (⟨2,r.takeWhile isAl,[]⟩,r.dropWhile isAl)
 | 34::r=>litR r
 | _=>none
def termW (l:Bs):Option (Tm × Bs):=(termR l).bind fun p=>if tmT p.1 then some p else none
theorem tm1_no {x:Bs} (h:iriT x=false):tmT ⟨1,x,[]⟩=false:=by
 unfold tmT;rw[if_pos rfl];simp[h]
theorem tm5_no {x e:Bs} (h:iriT e=false):tmT ⟨5,x,e⟩=false:=by
 unfold tmT;simp[h]
theorem iriW (r:Bs) (f:Bs->Tm) (hf:∀x,iriT x=false->tmT (f x)=false) :
    ((upTo true 62 false r).map fun p=>(f p.1,p.2)).bind (fun p:Tm × Bs=>if tmT p.1 then some p else none)=((upTo false 62 false r).map fun p=>(f p.1,p.2)).bind (fun p:Tm × Bs=>if tmT p.1 then some p else none):=by
 unfold upTo;rcases zgT 62 false (r.length+1) r with h | ⟨h,k⟩
 · rw[h]
 · rw[h];cases hy:untl (r.length+1) false 62 false r with
   | none=>rfl
   | some y=>
    have:=hf y.1 (zkB (k y.1 y.2 hy));simp[this]
theorem ziO (l:Bs):termW (34::l)=(litR l).bind fun p=>if tmT p.1 then some p else none:=rfl
theorem ziP (l:Bs):termV false (34::l)=(litT false l).bind fun p=>if tmT p.1 then some p else none:=rfl
theorem ze2 (l:Bs):termW l=termV false l\/(termV false l=none/\∃t r,termW l=some (t,94::r))\/(termV false l=none/\termW l=none):=by
 by_cases h1:∃r,l=60::r
 · obtain ⟨r,rfl⟩:=h1
   left
   exact iriW r (fun x=>⟨1,x,[]⟩) fun x h=>tm1_no h
 by_cases h2:∃r,l=95::58::r
 · obtain ⟨r,rfl⟩:=h2
   left
   unfold termW termV;rw[zbS];rfl
 by_cases h3:∃r,l=34::r
 · obtain ⟨r,rfl⟩:=h3;rw[ziO,ziP];cases hu:upTo true 34 true r with
   | none=>left;rw[zgg false r hu,zbl,hu];rfl
   | some p=>
    obtain ⟨x,q⟩:=p;have hR:litR r=tailR x q:=(by rw[zbl,hu];rfl);rw[hR];by_cases g1:∃r,q=64::r
    · obtain ⟨r',rfl⟩:=g1
      left
      have:litT false r=some (⟨4,x,(r'.takeWhile isTag).map low⟩,r'.dropWhile isTag):=(by unfold litT;rw[hu];rfl);rw[this];rfl
    by_cases g3:∃r,q=94::94::60::r
    · obtain ⟨r',rfl⟩:=g3
      left
      have:litT false r=(upTo false 62 false r').map fun q=>(⟨5,x,q.1⟩,q.2):=(by unfold litT;rw[hu];rfl);rw[this];exact iriW r' (fun e=>⟨5,x,e⟩) fun e h=>tm5_no h
    rw[zds x q g1 g3];by_cases g2:∃r,q=94::94::r
    · obtain ⟨r',rfl⟩:=g2;rw[zim false r x r' hu fun s hs=>absurd ⟨s,by rw[hs]⟩ g3]
      right
      by_cases ht:tmT ⟨3,x,[]⟩=true
      · left
        exact ⟨rfl,_,_,by rw[Option.bind_some,if_pos ht]⟩
      · right
        exact ⟨rfl,by rw[Option.bind_some,if_neg ht]⟩
    · left
      rw[zeE false r x q hu g1 g2]
 · left
   unfold termV termW;rw[zbR false l h1 h2 h3];have:termR l=none:=by
    unfold termR;split
    · exact absurd ⟨_,rfl⟩ h1
    · exact absurd ⟨_,rfl⟩ h2
    · exact absurd ⟨_,rfl⟩ h3
    · rfl
   rw[this]
def threeW (l:Bs):Option (Tri × Bs):=
 (termW l).bind fun s=>(termW (blk s.2)).bind fun p=>(termW (blk p.2)).map fun o=>(⟨s.1,p.1,o.1⟩,blk o.2)
def oneW (l:Bs):Option (Option Tri):=
 if validD l then if ovr (blk l) then some none else (threeW (blk l)).bind fun q=>tailV q.1 q.2 else none
theorem blk94 (r:Bs):blk (94::r)=94::r:=by unfold blk;rw[List.dropWhile_cons,if_neg (by decide)]
theorem termW94 (r:Bs):termW (94::r)=none:=rfl
theorem tail94 (t:Tri) (r:Bs):tailV t (94::r)=none:=rfl
theorem zjK (l:Bs):threeW l=threeV false l\/(threeV false l=none/\∃t r,threeW l=some (t,94::r))\/(threeV false l=none/\threeW l=none):=by
 unfold threeW threeV;rcases ze2 l with h | ⟨h,t,r,h'⟩ | ⟨h,h'⟩
 · rw[h];cases termV false l with
   | none=>left;rfl
   | some a=>
    simp only[Option.bind_some];rcases ze2 (blk a.2) with h | ⟨h,t,r,h'⟩ | ⟨h,h'⟩
    · rw[h];cases termV false (blk a.2) with
      | none=>left;rfl
      | some b=>
       simp only[Option.bind_some];rcases ze2 (blk b.2) with h | ⟨h,t,r,h'⟩ | ⟨h,h'⟩
       · rw[h];left;rfl
       · rw[h,h']
         right;left
         exact ⟨rfl,_,_,by simp only[Option.map_some];rw[blk94]⟩
       · rw[h,h'];left;rfl
    · rw[h,h']
      right;right
      refine ⟨rfl,?_⟩;simp only[Option.bind_some];rw[blk94,termW94];rfl
    · rw[h,h'];left;rfl
 · rw[h,h']
   right;right
   refine ⟨rfl,?_⟩;simp only[Option.bind_some];rw[blk94,termW94];rfl
 · rw[h,h'];left;rfl
theorem znS (l:Bs):oneW l=oneV false l:=by
 unfold oneW oneV;split
 · split
   · rfl
   · rcases zjK (blk l) with h | ⟨h,t,r,h'⟩ | ⟨h,h'⟩
     · rw[h]
     · rw[h,h'];exact tail94 t r
     · rw[h,h']
 · rfl
end Go.Proofs.YtaeiifngjglchaaGreatDoor.Tv
section
namespace Go.Proofs.YtaeiifngjglchaaGreatDoor.Tv
open Go.Proofs.Tryz
open Go.Lib
theorem take1 (q:Bs) (c:UInt8) (h:¬∃r,q=c::r):decide (q.take 1=[c])=false:=by
 rw[decide_eq_false_iff_not];intro e;cases q with
 | nil=>cases e
 | cons d r=>simp at e;exact h ⟨r,by rw[e]⟩
theorem take3 (q:Bs) (a b c:UInt8) (h:¬∃r,q=a::b::c::r):decide (q.take 3=[a,b,c])=false:=by
 rw[decide_eq_false_iff_not];intro e
 match q,e with
 | [],e=>cases e
 | [_],e=>simp at e
 | [_,_],e=>simp at e
 | x::y::z::r,e=>simp at e;exact h ⟨r,by rw[e.1,e.2.1,e.2.2]⟩
theorem take2 (q:Bs) (a b:UInt8) (h:¬∃r,q=a::b::r):decide (q.take 2=[a,b])=false:=by
 rw[decide_eq_false_iff_not];intro e
 match q,e with
 | [],e=>cases e
 | [_],e=>simp at e
 | x::y::r,e=>simp at e;exact h ⟨r,by rw[e.1,e.2]⟩
theorem znn {nl:Bool} {e:UInt8} {lit:Bool} {l x r:Bs} (h:upTo nl e lit l=some (x,r)):r.length<=l.length:=by
 unfold upTo at h;have key:∀(n:Nat) (l x r:Bs),untl n nl e lit l=some (x,r)->r.length<=l.length:=by
  intro n;induction n with
  | zero=>intro l x r h;cases h
  | succ n ih=>
   intro l x r h;cases l with
   | nil=>cases h
   | cons c l=>
    simp only[untl]at h;split at h
    · cases h;simp
    · split at h
      · cases he:esc lit l with
        | none=>rw[he]at h;cases h
        | some p=>
         rw[he,Option.bind_some]at h;have h1:=(zcD lit l p.1 p.2 he).1;cases hu:untl n nl e lit p.2 with
         | none=>rw[hu]at h;cases h
         | some q=>
          rw[hu]at h;simp only[Option.map_some,Option.some.injEq,Prod.mk.injEq]at h;have:=ih _ _ _ hu;rw[<-h.2];simp only[List.length_cons];omega
      · split at h
        · cases h
        · cases hu:untl n nl e lit l with
          | none=>rw[hu]at h;cases h
          | some q=>
           rw[hu]at h;simp only[Option.map_some,Option.some.injEq,Prod.mk.injEq]at h;have:=ih _ _ _ hu;rw[<-h.2];simp only[List.length_cons];omega
 exact key _ _ _ _ h
end Go.Proofs.YtaeiifngjglchaaGreatDoor.Tv
namespace Go.Proofs.YtaeiifngjglchaaGreatDoor
open Go.Proofs.Tryz
open Go.RowKit Go.Lib Tv
def LitO (o:Option (Tm × Bs)) (b:Bool) (g:Nat) (v:Ending) (w':World):Prop:=
 (∃t r,o=some (t,r)/\v=.returned (.agg (encT t).toArray)/\Rd5 w' g r b)\/(o=none/\(∃t:Tm,v=.returned (.agg (encT t).toArray))/\Rd5 w' g [] true)
structure Ls (w W:World) (g A B:Nat) (l:Bs) (b:Bool) (x y z:Value):Prop where
 fr:Fr w W (Gn g w.heap.size)
 rd:Rd5 W g l b
 t2:∃x y z,T3 W A x y z
 t3:T3 W B x y z
 hA:w.heap.size<=A
 hB:w.heap.size<=B
 hg:g<w.heap.size
 ne:A≠B
section
variable {w W W1:World} {g A B:Nat} {l:Bs} {b:Bool} {x y z:Value}
theorem Ls.call (h:Ls w W g A B l b x y z) {l':Bs} {b':Bool} (hf:Fr W W1 (fun k=>k=g)) (hr:Rd5 W1 g l' b'):Ls w W1 g A B l' b' x y z:=by
 obtain ⟨_,_,_,h2⟩:=h.t2;have h1:=h.hA;have h3:=h.hB;have h4:=h.hg
 exact ⟨h.fr.gn hf fun k hk=>.inl hk,hr,⟨_,_,_,h2.fr hf (by omega)⟩,h.t3.fr hf (by omega),h1,h3,h4,h.ne⟩
theorem Ls.below (h:Ls w W g A B l b x y z) (hb:Below W.heap.size W W1):Ls w W1 g A B l b x y z:=
 h.call (Fr.of_below hb _) (h.rd.below hb)
theorem Ls.setr (h:Ls w W g A B l b x y z) (r:Bs):Ls w (W.setCell ⟨g,0,none⟩ (.string (str r))) g A B r b x y z:=
 h.call (Fr.set1 W g 0 _) (h.rd.set0 r)
theorem Ls.st (h:Ls w W g A B l b x y z) (j:Nat) (v:Value) {x' y' z':Value} (ht:T3 (W.setCell ⟨B,j,none⟩ v) B x' y' z'):Ls w (W.setCell ⟨B,j,none⟩ v) g A B l b x' y' z':=by
 obtain ⟨_,_,_,h2⟩:=h.t2;have h1:=h.hA;have h3:=h.hB;have h4:=h.hg;have h5:=h.ne
 exact ⟨h.fr.gn (Fr.set1 W B j v) fun k hk=>gn_at h3 hk,h.rd.fr (Fr.set1 W B j v) (by omega),⟨_,_,_,h2.fr (Fr.set1 W B j v) h5⟩,ht,h1,h3,h4,h5⟩
theorem Ls.s0 (h:Ls w W g A B l b x y z) (v:Value):Ls w (W.setCell ⟨B,0,none⟩ v) g A B l b v y z:=h.st 0 v (h.t3.set0 v)
theorem Ls.s1 (h:Ls w W g A B l b x y z) (v:Value):Ls w (W.setCell ⟨B,1,none⟩ v) g A B l b x v z:=h.st 1 v (h.t3.set1 v)
theorem Ls.s2 (h:Ls w W g A B l b x y z) (v:Value):Ls w (W.setCell ⟨B,2,none⟩ v) g A B l b x y v:=h.st 2 v (h.t3.set2 v)
theorem Ls.fin (h:Ls w W g A B l b x y z) (u0 u1 u2:Value):T3 (((W.setCell ⟨A,0,none⟩ u0).setCell ⟨A,1,none⟩ u1).setCell ⟨A,2,none⟩ u2) A u0 u1 u2/\
    Fr w (((W.setCell ⟨A,0,none⟩ u0).setCell ⟨A,1,none⟩ u1).setCell ⟨A,2,none⟩ u2) (fun k=>k=g)/\Rd5 (((W.setCell ⟨A,0,none⟩ u0).setCell ⟨A,1,none⟩ u1).setCell ⟨A,2,none⟩ u2) g l b:=by
 obtain ⟨_,_,_,h2⟩:=h.t2;have h1:=h.hA;have h4:=h.hg
 refine ⟨((h2.set0 u0).set1 u1).set2 u2,(((h.fr.gn (Fr.set1 _ A 0 u0) fun k h=>gn_at h1 h).gn (Fr.set1 _ A 1 u1) fun k h=>gn_at h1 h).gn (Fr.set1 _ A 2 u2) fun k h=>gn_at h1 h).un_gn,?_⟩;exact ((h.rd.fr (Fr.set1 _ A 0 u0) (by omega)).fr (Fr.set1 _ A 1 u1) (by omega)).fr (Fr.set1 _ A 2 u2) (by omega)
end
theorem zi9 (g:Nat) (l:Bs) (b:Bool) (w:World) (h:Rd5 w g l b) (hl:l.length<=200000) :
    Calls prog 194 #[.pointer (some ⟨g,0,none⟩)] w fun v w'=>Fr w w' (fun k=>k=g)/\LitO (litR l) b g v w':=by
 have hgl:=h.lt;obtain ⟨w0,hw0⟩:∃w0,w.alloc (.cells #[.int .i64 0,.string ⟨#[]⟩,.string ⟨#[]⟩] 62)=w0:=⟨_,rfl⟩;have hb0:Below w.heap.size w w0:=(by rw[<-hw0];exact br.alloc nL _);have hn0:w.heap.size<w0.heap.size:=(by rw[<-hw0];simp);have ht2:T3 w0 w.heap.size (.int .i64 0) (.string ⟨#[]⟩) (.string ⟨#[]⟩):=(by rw[<-hw0];exact T3.new _ _ _ _);have HU:=hid (zbQ g l 34 true b w0 (h.below hb0) (by omega) (by decide));have HUU:Hid (Calls prog 192 #[.pointer (some ⟨g,0,none⟩),.int .u8 34,.bool true] w0 (UpA w0 g 34 true l b)):=HU;have HT2:=hid ht2;have HB0:=hid hb0;clear h hb0 ht2 HU;go_enter func194,ntmps194
 go_wp2_with fail
 refine HUU.out.mono ?_;clear HUU hw0;rintro v w1 ⟨hf1,hor⟩;obtain ⟨x,q,b',rfl,hr1,hq,HP⟩:∃x q b',v=.returned (.string (str x))/\Rd5 w1 g q b'/\q.length<=l.length/\Hid (∀v w',LitO (tailR x q) b' g v w'->LitO (litR l) b g v w'):=by
  rcases hor with ⟨x,r,hx,rfl,hr⟩ | ⟨hx,rfl,hr⟩
  · refine ⟨x,r,b,rfl,hr,znn hx,hid fun v w' h=>?_⟩;rw[zbl,hx];exact h
  · refine ⟨[],[],true,rfl,hr,Nat.zero_le _,hid fun v w' h=>?_⟩;rw[zbl,hx];rcases h with ⟨t,r,h1,h2,h3⟩ | ⟨h1,_⟩
    · cases h1
      exact .inr ⟨rfl,⟨_,h2⟩,h3⟩
    · cases h1
 obtain ⟨w2,hw2⟩:∃w2,w1.alloc (.cells #[.int .i64 3,.string (str x),.string ⟨#[]⟩] 62)=w2:=⟨_,rfl⟩;have hb2:Below w1.heap.size w1 w2:=(by rw[<-hw2];exact br.alloc nL _);have ht3:T3 w2 w1.heap.size (.int .i64 3) (.string (str x)) (.string ⟨#[]⟩):=(by rw[<-hw2];exact T3.new _ _ _ _);have hn1:=hf1.size
 have hLs:Ls w w2 g w.heap.size w1.heap.size q b' (.int .i64 3) (.string (str x)) (.string ⟨#[]⟩):=
  ⟨(((Fr.of_below HB0.out (Gn g w.heap.size)).gn hf1 fun k h=>.inl h).step hb2),hr1.below hb2,⟨_,_,_,(HT2.out.fr hf1 (by omega)).fr (Fr.of_below hb2 fun _=>False) fun h=>h⟩,ht3,nL,by omega,hgl,by omega⟩
 have HLS:=hid hLs;have HW2:=hid hw2;clear hor hf1 hr1 hb2 ht3 hLs hw2 HT2 HB0;by_cases h1:∃r,q=64::r
 · obtain ⟨r,rfl⟩:=h1;have HH1:=hid (zah g (64::r) [64] b' w2 HLS.out.rd);simp only[List.length_cons,List.length_nil,Nat.zero_add]at HH1 hq;rw[show str [64]=(⟨#[64]⟩:ByteArray) from rfl,dT (show (64::r).take 1=[64] from rfl)]at HH1;have k0:=HLS.out.rd.c0;have kf:=HLS.out.rd.f 0;have hsd:(str (64::r)).extract 1 (str (64::r)).size=str r:=(by rw[zab];exact zaW (64::r) 1);have hsz:(1:Int)<=((str (64::r)).size:Int):=(by rw[zab];simp only[List.length_cons];omega);generalize str (64::r)=S at k0 hsd hsz;have HLS2:=hid (HLS.out.setr r);have HRUN:=hid (zey g r true b' _ HLS2.out.rd (by omega));rw[zlV]at HRUN;have hlt:(r.takeWhile isTag).length<=1000000:=Nat.le_trans (List.takeWhile_sublist _).length_le (by omega);have HSM:=hid fun W=>zfU (r.takeWhile isTag) W hlt;clear HLS hq hlt;go_wp2_with fail
   rw[HW2.out];refine HH1.out.mono ?_;rintro v w3 ⟨rfl,rfl⟩;go_wp2_with fail
   refine HRUN.out.mono ?_;rintro v w4 ⟨rfl,hr4,hf4⟩;have HLS4:=hid (HLS2.out.call hf4 hr4);clear hr4 hf4 HLS2;go_wp2_with fail
   refine (HSM.out _).mono ?_;rintro v w5 ⟨rfl,hb5⟩;have HLS5:=hid (HLS4.out.below hb5);have f0:=HLS5.out.t3.f 0;have f2:=HLS5.out.t3.f 2;have c0:=HLS5.out.t3.c0;have c1:=HLS5.out.t3.c1;have c2:=HLS5.out.t3.c2;have HLS6:=hid ((HLS5.out.s0 (.int .i64 4)).s2 (.string (str ((r.takeWhile isTag).map low))));obtain ⟨x2,y2,z2,t2⟩:=HLS6.out.t2;obtain ⟨x3,y3,z3,t3⟩:=HLS5.out.t2;have d0:=t2.c0;have d1:=t2.c1;have d2:=t2.c2;have df0:=t3.f 0;have df1:=t3.f 1;have df2:=t3.f 2;have hAB:¬w.heap.size=w1.heap.size:=(by omega);clear t2 t3 hb5 HLS4;go_wp2;obtain ⟨q1,q2,q3⟩:=HLS6.out.fin (.int .i64 4) (.string (str x)) (.string (str ((r.takeWhile isTag).map low)));refine zai rfl rfl rfl q1 ?_;exact ⟨q2,HP.out _ _ (.inl ⟨_,_,rfl,rfl,q3⟩)⟩
 · by_cases h2:∃r,q=94::94::60::r
   · obtain ⟨r,rfl⟩:=h2;have HH1:=hid (zah g (94::94::60::r) [64] b' w2 HLS.out.rd);have HH2:=hid (zah g (94::94::60::r) [94,94,60] b' w2 HLS.out.rd);simp only[List.length_cons,List.length_nil,Nat.zero_add,Nat.reduceAdd]at HH1 HH2 hq;rw[show str [64]=(⟨#[64]⟩:ByteArray) from rfl,take1 (94::94::60::r) 64 h1]at HH1;rw[show str [94,94,60]=(⟨#[94,94,60]⟩:ByteArray) from rfl,dT (show (94::94::60::r).take 3=[94,94,60] from rfl)]at HH2;have k0:=HLS.out.rd.c0;have kf:=HLS.out.rd.f 0;have hsd:(str (94::94::60::r)).extract 3 (str (94::94::60::r)).size=str r:=(by rw[zab];exact zaW (94::94::60::r) 3);have hsz:(3:Int)<=((str (94::94::60::r)).size:Int):=(by rw[zab];simp only[List.length_cons];omega);generalize str (94::94::60::r)=S at k0 hsd hsz;have HLS2:=hid (HLS.out.setr r);have HUP0:=zbQ g r 62 false b' _ HLS2.out.rd (by omega) (by decide);have HUP:Hid (Calls prog 192 #[.pointer (some ⟨g,0,none⟩),.int .u8 62,.bool false] _ (UpA _ g 62 false r b')):=HUP0;clear HLS hq h1 HUP0;go_wp2_with fail
     rw[HW2.out];refine HH1.out.mono ?_;rintro v w3 ⟨rfl,rfl⟩;go_wp2_with fail
     refine HH2.out.mono ?_;rintro v w3 ⟨rfl,rfl⟩;go_wp2_with fail
     refine HUP.out.mono ?_;rintro v w4 ⟨hf4,hor⟩;obtain ⟨y,q',b2,rfl,hr4,HP2⟩:∃y q' b2,v=.returned (.string (str y))/\Rd5 w4 g q' b2/\Hid (∀w',Rd5 w' g q' b2->LitO (tailR x (94::94::60::r)) b' g (.returned (.agg (encT ⟨5,x,y⟩).toArray)) w'):=by
      rcases hor with ⟨y,q',hy,rfl,hr⟩ | ⟨hy,rfl,hr⟩
      · refine ⟨y,q',b',rfl,hr,hid fun w' h=>.inl ⟨⟨5,x,y⟩,q',?_,rfl,h⟩⟩;show (upTo true 62 false r).map _=_;rw[hy];rfl
      · refine ⟨[],[],true,rfl,hr,hid fun w' h=>.inr ⟨?_,⟨_,rfl⟩,h⟩⟩;show (upTo true 62 false r).map _=_;rw[hy];rfl
     have HLS5:=hid (HLS2.out.call hf4 hr4);clear hr4 hf4 HLS2 hor HUP;have f0:=HLS5.out.t3.f 0;have f2:=HLS5.out.t3.f 2;have c0:=HLS5.out.t3.c0;have c1:=HLS5.out.t3.c1;have c2:=HLS5.out.t3.c2;have HLS6:=hid ((HLS5.out.s0 (.int .i64 5)).s2 (.string (str y)));obtain ⟨x2,y2,z2,t2⟩:=HLS6.out.t2;obtain ⟨x3,y3,z3,t3⟩:=HLS5.out.t2;have d0:=t2.c0;have d1:=t2.c1;have d2:=t2.c2;have df0:=t3.f 0;have df1:=t3.f 1;have df2:=t3.f 2;have hAB:¬w.heap.size=w1.heap.size:=(by omega);clear t2 t3;go_wp2;obtain ⟨q1,q2,q3⟩:=HLS6.out.fin (.int .i64 5) (.string (str x)) (.string (str y));refine zai rfl rfl rfl q1 ?_;exact ⟨q2,HP.out _ _ (HP2.out _ q3)⟩
   · have HT:=hid (zds x q h1 h2);have HH1:=hid (zah g q [64] b' w2 HLS.out.rd);have HH2:=hid (zah g q [94,94,60] b' w2 HLS.out.rd);have e1:=take1 q 64 h1;have e2:=take3 q 94 94 60 h2;simp only[List.length_cons,List.length_nil,Nat.zero_add,Nat.reduceAdd]at HH1 HH2;rw[show str [64]=(⟨#[64]⟩:ByteArray) from rfl,e1]at HH1;rw[show str [94,94,60]=(⟨#[94,94,60]⟩:ByteArray) from rfl,e2]at HH2;have c0:=HLS.out.t3.c0;have c1:=HLS.out.t3.c1;have c2:=HLS.out.t3.c2;obtain ⟨x2,y2,z2,t2⟩:=HLS.out.t2;have d0:=t2.c0;have d1:=t2.c1;have d2:=t2.c2;have f0:=t2.f 0;have f1:=t2.f 1;have f2:=t2.f 2;clear t2 e1 e2 h1 h2;go_wp2_with fail
     rw[HW2.out];refine HH1.out.mono ?_;rintro v w3 ⟨rfl,rfl⟩;go_wp2_with fail
     refine HH2.out.mono ?_;rintro v w4 ⟨rfl,rfl⟩;go_wp2;obtain ⟨q1,q2,q3⟩:=HLS.out.fin (.int .i64 3) (.string (str x)) (.string ⟨#[]⟩);refine zai rfl rfl rfl q1 ?_;exact ⟨q2,HP.out _ _ (by rw[HT.out];exact .inl ⟨_,_,rfl,rfl,q3⟩)⟩
end Go.Proofs.YtaeiifngjglchaaGreatDoor
end
section
namespace Go.Proofs.YtaeiifngjglchaaGreatDoor
open Go.Proofs.Tryz
open Go.RowKit Go.Lib Tv
theorem zmh {l r:Bs} {t:Tm} (h:litR l=some (t,r)) (hl:l.length<=50000):Sml t:=by
 rw[zbl]at h;cases hx:upTo true 34 true l with
 | none=>rw[hx]at h;cases h
 | some p=>
  obtain ⟨x,q⟩:=p;have h1:=zaE hx;rw[hx,Option.bind_some]at h;unfold tailR at h;split at h
  · cases h
    rename_i r' e;simp only at e;subst e;have h3:=(List.takeWhile_sublist isTag (l:=r')).length_le;simp only[List.length_cons]at h1;exact ⟨by show x.length<=_;omega,by show ((r'.takeWhile isTag).map low).length<=_;rw[List.length_map];omega⟩
  · rename_i r' e;simp only at e;subst e;cases hy:upTo true 62 false r' with
    | none=>rw[hy]at h;cases h
    | some y=>
     have h2:=zaE hy;rw[hy]at h;simp only[Option.map_some,Option.some.injEq,Prod.mk.injEq]at h;obtain ⟨rfl,rfl⟩:=h;simp only[List.length_cons]at h1;exact ⟨by show x.length<=_;omega,by show y.1.length<=_;omega⟩
  · cases h
    exact ⟨by show x.length<=_;omega,by show ([]:Bs).length<=_;simp⟩
theorem zfQ {x q r:Bs} {t:Tm} (h:tailR x q=some (t,r)):r.length<=q.length:=by
 unfold tailR at h;split at h
 · cases h
   rename_i r';have h3:=(List.dropWhile_sublist isTag (l:=r')).length_le;simp only[List.length_cons];omega
 · rename_i r';cases hy:upTo true 62 false r' with
   | none=>rw[hy]at h;cases h
   | some y=>
    have h2:=zaE hy;rw[hy]at h;simp only[Option.map_some,Option.some.injEq,Prod.mk.injEq]at h;rw[<-h.2];simp only[List.length_cons];omega
 · cases h
   exact nL
def TmO (o:Option (Tm × Bs)) (g:Nat) (v:Ending) (w':World):Prop:=
 (∃t r,o=some (t,r)/\v=.returned (.agg (encT t).toArray)/\Rd5 w' g (blk r) false)\/(o=none/\(∃t:Tm,v=.returned (.agg (encT t).toArray))/\Rd5 w' g [] true)
theorem zgW {l r:Bs} {t:Tm} (h:termR l=some (t,r)) (ht:tmT t=true):termW l=some (t,r):=by unfold termW;rw[h,Option.bind_some,if_pos ht]
theorem zgX {l r:Bs} {t:Tm} (h:termR l=some (t,r)) (ht:tmT t=false):termW l=none:=by unfold termW;rw[h,Option.bind_some];simp only[ht];rfl
theorem zgY {l:Bs} (h:termR l=none):termW l=none:=by unfold termW;rw[h];rfl
theorem zbZ:blk []=[]:=rfl
theorem zg0 (g:Nat) (l:Bs) (w:World) (h:Rd5 w g l false) (ht:Lay w) (hl:l.length<=50000) (h4:4<=g) :
    Calls prog 129 #[.pointer (some ⟨g,0,none⟩)] w fun v w'=>Fr w w' (fun k=>k=g)/\TmO (termW l) g v w':=by
 have hgl:=h.lt;obtain ⟨w0,hw0⟩:∃w0,w.alloc (.cells #[.int .i64 0,.string ⟨#[]⟩,.string ⟨#[]⟩] 62)=w0:=⟨_,rfl⟩;have hb0:Below w.heap.size w w0:=(by rw[<-hw0];exact br.alloc nL _);have hn0:w0.heap.size=w.heap.size+1:=(by rw[<-hw0];simp);have ht2:T3 w0 w.heap.size (.int .i64 0) (.string ⟨#[]⟩) (.string ⟨#[]⟩):=(by rw[<-hw0];exact T3.new _ _ _ _);obtain ⟨w2,hw2⟩:∃w2,w0.alloc (.cells #[.int .i64 0,.string ⟨#[]⟩,.string ⟨#[]⟩] 62)=w2:=⟨_,rfl⟩;have hb2:Below w0.heap.size w0 w2:=(by rw[<-hw2];exact br.alloc nL _);have ht3:T3 w2 w0.heap.size (.int .i64 0) (.string ⟨#[]⟩) (.string ⟨#[]⟩):=by rw[<-hw2];exact T3.new _ _ _ _
 have hLs:Ls w w2 g w.heap.size w0.heap.size l false (.int .i64 0) (.string ⟨#[]⟩) (.string ⟨#[]⟩):=
  ⟨((Fr.of_below hb0 (Gn g w.heap.size)).step hb2),(h.below hb0).below hb2,⟨_,_,_,ht2.fr (Fr.of_below hb2 fun _=>False) fun h=>h⟩,ht3,nL,by omega,hgl,by omega⟩
 have HLS:=hid hLs;have HLY:=hid fun W (hW:Fr w W (Gn g w.heap.size)) (hg:4<=g)=>ht.fr hW fun k hk h=>(by rcases h with h | h<;>omega);have HW2:=hid hw2;rw[hn0]at HLS;clear h ht hb0 hb2 ht2 ht3 hLs hw2;by_cases h1:∃r,l=60::r
 · obtain ⟨r,rfl⟩:=h1;have HH1:=hid (zah g (60::r) [60] false w2 HLS.out.rd);simp only[List.length_cons,List.length_nil,Nat.zero_add,Nat.reduceAdd]at HH1;rw[show str [60]=(⟨#[60]⟩:ByteArray) from rfl,dT (show (60::r).take 1=[60] from rfl)]at HH1;simp only[List.length_cons]at hl;have k0:=HLS.out.rd.c0;have kf:=HLS.out.rd.f 0;have hsd:(str (60::r)).extract 1 (str (60::r)).size=str r:=(by rw[zab];exact zaW (60::r) 1);have hsz:(1:Int)<=((str (60::r)).size:Int):=(by rw[zab];simp only[List.length_cons];omega);generalize str (60::r)=S at k0 hsd hsz;have HLS2:=hid (HLS.out.setr r);have HUP0:=zbQ g r 62 false false _ HLS2.out.rd (by omega) (by decide);have HUP:Hid (Calls prog 192 #[.pointer (some ⟨g,0,none⟩),.int .u8 62,.bool false] _ (UpA _ g 62 false r false)):=HUP0;clear HLS HUP0;go_enter func129,ntmps129
   go_wp2_with fail
   rw[HW2.out];refine HH1.out.mono ?_;rintro v w3 ⟨rfl,rfl⟩;go_wp2_with fail
   refine HUP.out.mono ?_;rintro v w4 ⟨hf4,⟨x,q,hx,rfl,hr4⟩ | ⟨hx,rfl,hr4⟩⟩
   · have hxl:=zaE hx;have htr:termR (60::r)=some (⟨1,x,[]⟩,q):=(by show (upTo true 62 false r).map _=_;rw[hx];rfl);have HLS4:=hid (HLS2.out.call hf4 hr4);have HLS5:=hid (((HLS4.out.s0 (.int .i64 1)).s1 (.string (str x))).s2 (.string (str [])));rw[show str []=(⟨#[]⟩:ByteArray) from rfl]at HLS5;clear hr4 hf4 HLS2 HUP hx;have f0:=HLS4.out.t3.f 0;have f1:=HLS4.out.t3.f 1;have f2:=HLS4.out.t3.f 2;have c0:=HLS4.out.t3.c0;have c1:=HLS4.out.t3.c1;have c2:=HLS4.out.t3.c2;cases htm:tmT ⟨1,x,[]⟩ with
     | true=>
      have HTW:=hid (zgW htr htm);have HTM:=hid htm;clear htr htm;have k1:=HLS5.out.rd.c1;have HIS:=hid (zaM ⟨1,x,[]⟩ ⟨by show x.length<=_;omega,by show ([]:Bs).length<=_;simp⟩ _ (HLY.out _ HLS5.out.fr h4));rw[HTM.out]at HIS;unfold encT at HIS;simp only at HIS;have f0:=HLS5.out.t3.f 0;have f1:=HLS5.out.t3.f 1;have f2:=HLS5.out.t3.f 2;have c0:=HLS5.out.t3.c0;have c1:=HLS5.out.t3.c1;have c2:=HLS5.out.t3.c2;go_wp2_with fail
      refine HIS.out.mono ?_;rintro v w6 ⟨rfl,hb6⟩;have HLS6:=hid (HLS5.out.below hb6);clear hb6 HIS c0 c1 c2 f0 f1 f2;have HBL:=hid (zal g q false _ HLS6.out.rd (by omega));go_wp2_with fail
      refine HBL.out.mono ?_;rintro v w7 ⟨rfl,hr7,hf7⟩;have HLS7:=hid (HLS6.out.call hf7 hr7);clear hr7 hf7 HBL;obtain ⟨_,_,_,t2⟩:=HLS7.out.t2;have d0:=t2.c0;have d1:=t2.c1;have d2:=t2.c2;have df0:=t2.f 0;have df1:=t2.f 1;have df2:=t2.f 2;have c0:=HLS7.out.t3.c0;have c1:=HLS7.out.t3.c1;have c2:=HLS7.out.t3.c2;clear t2;go_wp2;obtain ⟨q1,q2,q3⟩:=HLS7.out.fin (.int .i64 1) (.string (str x)) (.string ⟨#[]⟩);refine zai rfl rfl rfl q1 ?_;exact ⟨q2,.inl ⟨_,_,HTW.out,rfl,q3⟩⟩
     | false=>
      have HTW:=hid (zgX htr htm);have HTM:=hid htm;clear htr htm;have k1:=HLS5.out.rd.c1;have HIS:=hid (zaM ⟨1,x,[]⟩ ⟨by show x.length<=_;omega,by show ([]:Bs).length<=_;simp⟩ _ (HLY.out _ HLS5.out.fr h4));rw[HTM.out]at HIS;unfold encT at HIS;simp only at HIS;have f0:=HLS5.out.t3.f 0;have f1:=HLS5.out.t3.f 1;have f2:=HLS5.out.t3.f 2;have c0:=HLS5.out.t3.c0;have c1:=HLS5.out.t3.c1;have c2:=HLS5.out.t3.c2;go_wp2_with fail
      refine HIS.out.mono ?_;rintro v w6 ⟨rfl,hb6⟩;have HLS6:=hid (HLS5.out.below hb6);clear hb6 HIS c0 c1 c2 f0 f1 f2;have HFA:=hid (zaS g q false _ HLS6.out.rd);go_wp2_with fail
      refine HFA.out.mono ?_;rintro v w7 ⟨rfl,hr7,hf7⟩;have HLS7:=hid (HLS6.out.call hf7 hr7);clear hr7 hf7 HFA;have HBL:=hid (zal g [] true _ HLS7.out.rd (by simp));rw[zbZ]at HBL;go_wp2_with fail
      refine HBL.out.mono ?_;rintro v w8 ⟨rfl,hr8,hf8⟩;have HLS8:=hid (HLS7.out.call hf8 hr8);clear hr8 hf8 HBL;obtain ⟨_,_,_,t2⟩:=HLS8.out.t2;have d0:=t2.c0;have d1:=t2.c1;have d2:=t2.c2;have df0:=t2.f 0;have df1:=t2.f 1;have df2:=t2.f 2;have c0:=HLS8.out.t3.c0;have c1:=HLS8.out.t3.c1;have c2:=HLS8.out.t3.c2;clear t2;go_wp2;obtain ⟨q1,q2,q3⟩:=HLS8.out.fin (.int .i64 1) (.string (str x)) (.string ⟨#[]⟩);refine zai rfl rfl rfl q1 ?_;exact ⟨q2,.inr ⟨HTW.out,⟨⟨1,x,[]⟩,rfl⟩,q3⟩⟩
   · have HTW:Hid (termW (60::r)=none):=zgY (by show (upTo true 62 false r).map _=_;rw[hx];rfl);have HLS4:=hid (HLS2.out.call hf4 hr4);have HLS5:=hid (((HLS4.out.s0 (.int .i64 1)).s1 (.string (str []))).s2 (.string (str [])));rw[show str []=(⟨#[]⟩:ByteArray) from rfl]at HLS5 ⊢;clear hr4 hf4 HLS2 HUP hx;have f0:=HLS4.out.t3.f 0;have f1:=HLS4.out.t3.f 1;have f2:=HLS4.out.t3.f 2;have c0:=HLS4.out.t3.c0;have c1:=HLS4.out.t3.c1;have c2:=HLS4.out.t3.c2;have k1:=HLS5.out.rd.c1;have HBL:=hid (zal g [] true _ HLS5.out.rd (by simp));rw[zbZ]at HBL;go_wp2_with fail
     refine HBL.out.mono ?_;rintro v w7 ⟨rfl,hr7,hf7⟩;have HLS7:=hid (HLS5.out.call hf7 hr7);clear hr7 hf7 HBL;obtain ⟨_,_,_,t2⟩:=HLS7.out.t2;have d0:=t2.c0;have d1:=t2.c1;have d2:=t2.c2;have df0:=t2.f 0;have df1:=t2.f 1;have df2:=t2.f 2;have c0:=HLS7.out.t3.c0;have c1:=HLS7.out.t3.c1;have c2:=HLS7.out.t3.c2;clear t2;go_wp2;obtain ⟨q1,q2,q3⟩:=HLS7.out.fin (.int .i64 1) (.string ⟨#[]⟩) (.string ⟨#[]⟩);refine zai rfl rfl rfl q1 ?_;exact ⟨q2,.inr ⟨HTW.out,⟨⟨1,[],[]⟩,rfl⟩,q3⟩⟩
 by_cases h2:∃r,l=95::58::r
 · obtain ⟨r,rfl⟩:=h2;have HH1:=hid (zah g (95::58::r) [60] false w2 HLS.out.rd);simp only[List.length_cons,List.length_nil,Nat.zero_add,Nat.reduceAdd]at HH1;rw[show str [60]=(⟨#[60]⟩:ByteArray) from rfl,take1 (95::58::r) 60 h1]at HH1;have HH2:=hid (zah g (95::58::r) [95,58] false w2 HLS.out.rd);simp only[List.length_cons,List.length_nil,Nat.zero_add,Nat.reduceAdd]at HH2;rw[show str [95,58]=(⟨#[95,58]⟩:ByteArray) from rfl,dT (show (95::58::r).take 2=[95,58] from rfl)]at HH2;simp only[List.length_cons]at hl;have k0:=HLS.out.rd.c0;have kf:=HLS.out.rd.f 0;have hsd:(str (95::58::r)).extract 2 (str (95::58::r)).size=str r:=(by rw[zab];exact zaW (95::58::r) 2);have hsz:(2:Int)<=((str (95::58::r)).size:Int):=(by rw[zab];simp only[List.length_cons];omega);generalize str (95::58::r)=S at k0 hsd hsz;have HLS2:=hid (HLS.out.setr r);have HRUN:=hid (zey g r false false _ HLS2.out.rd (by omega));rw[znH]at HRUN;have htr:termR (95::58::r)=some (⟨2,r.takeWhile isAl,[]⟩,r.dropWhile isAl):=rfl;have hxl:=(List.takeWhile_sublist isAl (l:=r)).length_le;have hql:=(List.dropWhile_sublist isAl (l:=r)).length_le;generalize r.takeWhile isAl=x at HRUN htr hxl;generalize r.dropWhile isAl=q at HRUN htr hql;clear HLS h1;go_enter func129,ntmps129
   go_wp2_with fail
   rw[HW2.out];refine HH1.out.mono ?_;rintro v w3 ⟨rfl,rfl⟩;go_wp2_with fail
   refine HH2.out.mono ?_;rintro v w3 ⟨rfl,rfl⟩;go_wp2_with fail
   refine HRUN.out.mono ?_;rintro v w4 ⟨rfl,hr4,hf4⟩;have HLS4:=hid (HLS2.out.call hf4 hr4);have HLS5:=hid (((HLS4.out.s0 (.int .i64 2)).s1 (.string (str x))).s2 (.string (str [])));rw[show str []=(⟨#[]⟩:ByteArray) from rfl]at HLS5;clear hr4 hf4 HLS2 HRUN;have f0:=HLS4.out.t3.f 0;have f1:=HLS4.out.t3.f 1;have f2:=HLS4.out.t3.f 2;have c0:=HLS4.out.t3.c0;have c1:=HLS4.out.t3.c1;have c2:=HLS4.out.t3.c2;cases htm:tmT ⟨2,x,[]⟩ with
   | true=>
    have HTW:=hid (zgW htr htm);have HTM:=hid htm;clear htr htm;have k1:=HLS5.out.rd.c1;have HIS:=hid (zaM ⟨2,x,[]⟩ ⟨by show x.length<=_;omega,by show ([]:Bs).length<=_;simp⟩ _ (HLY.out _ HLS5.out.fr h4));rw[HTM.out]at HIS;unfold encT at HIS;simp only at HIS;have f0:=HLS5.out.t3.f 0;have f1:=HLS5.out.t3.f 1;have f2:=HLS5.out.t3.f 2;have c0:=HLS5.out.t3.c0;have c1:=HLS5.out.t3.c1;have c2:=HLS5.out.t3.c2;go_wp2_with fail
    refine HIS.out.mono ?_;rintro v w6 ⟨rfl,hb6⟩;have HLS6:=hid (HLS5.out.below hb6);clear hb6 HIS c0 c1 c2 f0 f1 f2;have HBL:=hid (zal g q false _ HLS6.out.rd (by omega));go_wp2_with fail
    refine HBL.out.mono ?_;rintro v w7 ⟨rfl,hr7,hf7⟩;have HLS7:=hid (HLS6.out.call hf7 hr7);clear hr7 hf7 HBL;obtain ⟨_,_,_,t2⟩:=HLS7.out.t2;have d0:=t2.c0;have d1:=t2.c1;have d2:=t2.c2;have df0:=t2.f 0;have df1:=t2.f 1;have df2:=t2.f 2;have c0:=HLS7.out.t3.c0;have c1:=HLS7.out.t3.c1;have c2:=HLS7.out.t3.c2;clear t2;go_wp2;obtain ⟨q1,q2,q3⟩:=HLS7.out.fin (.int .i64 2) (.string (str x)) (.string ⟨#[]⟩);refine zai rfl rfl rfl q1 ?_;exact ⟨q2,.inl ⟨_,_,HTW.out,rfl,q3⟩⟩
   | false=>
    have HTW:=hid (zgX htr htm);have HTM:=hid htm;clear htr htm;have k1:=HLS5.out.rd.c1;have HIS:=hid (zaM ⟨2,x,[]⟩ ⟨by show x.length<=_;omega,by show ([]:Bs).length<=_;simp⟩ _ (HLY.out _ HLS5.out.fr h4));rw[HTM.out]at HIS;unfold encT at HIS;simp only at HIS;have f0:=HLS5.out.t3.f 0;have f1:=HLS5.out.t3.f 1;have f2:=HLS5.out.t3.f 2;have c0:=HLS5.out.t3.c0;have c1:=HLS5.out.t3.c1;have c2:=HLS5.out.t3.c2;go_wp2_with fail
    refine HIS.out.mono ?_;rintro v w6 ⟨rfl,hb6⟩;have HLS6:=hid (HLS5.out.below hb6);clear hb6 HIS c0 c1 c2 f0 f1 f2;have HFA:=hid (zaS g q false _ HLS6.out.rd);go_wp2_with fail
    refine HFA.out.mono ?_;rintro v w7 ⟨rfl,hr7,hf7⟩;have HLS7:=hid (HLS6.out.call hf7 hr7);clear hr7 hf7 HFA;have HBL:=hid (zal g [] true _ HLS7.out.rd (by simp));rw[zbZ]at HBL;go_wp2_with fail
    refine HBL.out.mono ?_;rintro v w8 ⟨rfl,hr8,hf8⟩;have HLS8:=hid (HLS7.out.call hf8 hr8);clear hr8 hf8 HBL;obtain ⟨_,_,_,t2⟩:=HLS8.out.t2;have d0:=t2.c0;have d1:=t2.c1;have d2:=t2.c2;have df0:=t2.f 0;have df1:=t2.f 1;have df2:=t2.f 2;have c0:=HLS8.out.t3.c0;have c1:=HLS8.out.t3.c1;have c2:=HLS8.out.t3.c2;clear t2;go_wp2;obtain ⟨q1,q2,q3⟩:=HLS8.out.fin (.int .i64 2) (.string (str x)) (.string ⟨#[]⟩);refine zai rfl rfl rfl q1 ?_;exact ⟨q2,.inr ⟨HTW.out,⟨⟨2,x,[]⟩,rfl⟩,q3⟩⟩
 by_cases h3:∃r,l=34::r
 · obtain ⟨r,rfl⟩:=h3;have HH1:=hid (zah g (34::r) [60] false w2 HLS.out.rd);simp only[List.length_cons,List.length_nil,Nat.zero_add,Nat.reduceAdd]at HH1;rw[show str [60]=(⟨#[60]⟩:ByteArray) from rfl,take1 (34::r) 60 h1]at HH1;have HH2:=hid (zah g (34::r) [95,58] false w2 HLS.out.rd);simp only[List.length_cons,List.length_nil,Nat.zero_add,Nat.reduceAdd]at HH2;rw[show str [95,58]=(⟨#[95,58]⟩:ByteArray) from rfl,take2 (34::r) 95 58 h2]at HH2;have HH3:=hid (zah g (34::r) [34] false w2 HLS.out.rd);simp only[List.length_cons,List.length_nil,Nat.zero_add,Nat.reduceAdd]at HH3;rw[show str [34]=(⟨#[34]⟩:ByteArray) from rfl,dT (show (34::r).take 1=[34] from rfl)]at HH3;simp only[List.length_cons]at hl;have k0:=HLS.out.rd.c0;have kf:=HLS.out.rd.f 0;have hsd:(str (34::r)).extract 1 (str (34::r)).size=str r:=(by rw[zab];exact zaW (34::r) 1);have hsz:(1:Int)<=((str (34::r)).size:Int):=(by rw[zab];simp only[List.length_cons];omega);generalize str (34::r)=S at k0 hsd hsz;have HLS2:=hid (HLS.out.setr r);have HLI:=hid (zi9 g r false _ HLS2.out.rd (by omega));have htr0:termR (34::r)=litR r:=rfl;clear HLS h1 h2;go_enter func129,ntmps129
   go_wp2_with fail
   rw[HW2.out];refine HH1.out.mono ?_;rintro v w3 ⟨rfl,rfl⟩;go_wp2_with fail
   refine HH2.out.mono ?_;rintro v w3 ⟨rfl,rfl⟩;go_wp2_with fail
   refine HH3.out.mono ?_;rintro v w3 ⟨rfl,rfl⟩;go_wp2_with fail
   refine HLI.out.mono ?_;rintro v w4 ⟨hf4,⟨⟨k,x,e⟩,q,hx,rfl,hr4⟩ | ⟨hx,⟨⟨k,x,e⟩,rfl⟩,hr4⟩⟩
   · have hsml:=zmh hx (by omega);have htr:termR (34::r)=some (⟨k,x,e⟩,q):=htr0.trans hx;have hql:q.length<=1000000:=by
      rw[zbl]at hx;cases hu:upTo true 34 true r with
      | none=>rw[hu]at hx;cases hx
      | some p=>
       have h1:=zaE hu;rw[hu,Option.bind_some]at hx;have h2:=zfQ hx;omega
     have HSML:=hid hsml;have HLS4:=hid (HLS2.out.call hf4 hr4);have HLS5:=hid (((HLS4.out.s0 (.int .i64 k)).s1 (.string (str x))).s2 (.string (str e)));clear hr4 hf4 HLS2 HLI hx htr0 hsml;unfold encT;simp only;have f0:=HLS4.out.t3.f 0;have f1:=HLS4.out.t3.f 1;have f2:=HLS4.out.t3.f 2;have c0:=HLS4.out.t3.c0;have c1:=HLS4.out.t3.c1;have c2:=HLS4.out.t3.c2;cases htm:tmT ⟨k,x,e⟩ with
     | true=>
      have HTW:=hid (zgW htr htm);have HTM:=hid htm;clear htr htm;have k1:=HLS5.out.rd.c1;have HIS:=hid (zaM ⟨k,x,e⟩ HSML.out _ (HLY.out _ HLS5.out.fr h4));rw[HTM.out]at HIS;unfold encT at HIS;simp only at HIS;have f0:=HLS5.out.t3.f 0;have f1:=HLS5.out.t3.f 1;have f2:=HLS5.out.t3.f 2;have c0:=HLS5.out.t3.c0;have c1:=HLS5.out.t3.c1;have c2:=HLS5.out.t3.c2;go_wp2_with fail
      refine HIS.out.mono ?_;rintro v w6 ⟨rfl,hb6⟩;have HLS6:=hid (HLS5.out.below hb6);clear hb6 HIS c0 c1 c2 f0 f1 f2;have HBL:=hid (zal g q false _ HLS6.out.rd (by omega));go_wp2_with fail
      refine HBL.out.mono ?_;rintro v w7 ⟨rfl,hr7,hf7⟩;have HLS7:=hid (HLS6.out.call hf7 hr7);clear hr7 hf7 HBL;obtain ⟨_,_,_,t2⟩:=HLS7.out.t2;have d0:=t2.c0;have d1:=t2.c1;have d2:=t2.c2;have df0:=t2.f 0;have df1:=t2.f 1;have df2:=t2.f 2;have c0:=HLS7.out.t3.c0;have c1:=HLS7.out.t3.c1;have c2:=HLS7.out.t3.c2;clear t2;go_wp2;obtain ⟨q1,q2,q3⟩:=HLS7.out.fin (.int .i64 k) (.string (str x)) (.string (str e));refine zai rfl rfl rfl q1 ?_;exact ⟨q2,.inl ⟨_,_,HTW.out,rfl,q3⟩⟩
     | false=>
      have HTW:=hid (zgX htr htm);have HTM:=hid htm;clear htr htm;have k1:=HLS5.out.rd.c1;have HIS:=hid (zaM ⟨k,x,e⟩ HSML.out _ (HLY.out _ HLS5.out.fr h4));rw[HTM.out]at HIS;unfold encT at HIS;simp only at HIS;have f0:=HLS5.out.t3.f 0;have f1:=HLS5.out.t3.f 1;have f2:=HLS5.out.t3.f 2;have c0:=HLS5.out.t3.c0;have c1:=HLS5.out.t3.c1;have c2:=HLS5.out.t3.c2;go_wp2_with fail
      refine HIS.out.mono ?_;rintro v w6 ⟨rfl,hb6⟩;have HLS6:=hid (HLS5.out.below hb6);clear hb6 HIS c0 c1 c2 f0 f1 f2;have HFA:=hid (zaS g q false _ HLS6.out.rd);go_wp2_with fail
      refine HFA.out.mono ?_;rintro v w7 ⟨rfl,hr7,hf7⟩;have HLS7:=hid (HLS6.out.call hf7 hr7);clear hr7 hf7 HFA;have HBL:=hid (zal g [] true _ HLS7.out.rd (by simp));rw[zbZ]at HBL;go_wp2_with fail
      refine HBL.out.mono ?_;rintro v w8 ⟨rfl,hr8,hf8⟩;have HLS8:=hid (HLS7.out.call hf8 hr8);clear hr8 hf8 HBL;obtain ⟨_,_,_,t2⟩:=HLS8.out.t2;have d0:=t2.c0;have d1:=t2.c1;have d2:=t2.c2;have df0:=t2.f 0;have df1:=t2.f 1;have df2:=t2.f 2;have c0:=HLS8.out.t3.c0;have c1:=HLS8.out.t3.c1;have c2:=HLS8.out.t3.c2;clear t2;go_wp2;obtain ⟨q1,q2,q3⟩:=HLS8.out.fin (.int .i64 k) (.string (str x)) (.string (str e));refine zai rfl rfl rfl q1 ?_;exact ⟨q2,.inr ⟨HTW.out,⟨⟨k,x,e⟩,rfl⟩,q3⟩⟩
   · have HTW:Hid (termW (34::r)=none):=zgY (htr0.trans hx);have HLS4:=hid (HLS2.out.call hf4 hr4);have HLS5:=hid (((HLS4.out.s0 (.int .i64 k)).s1 (.string (str x))).s2 (.string (str e)));clear hr4 hf4 HLS2 HLI hx htr0;unfold encT;simp only;have f0:=HLS4.out.t3.f 0;have f1:=HLS4.out.t3.f 1;have f2:=HLS4.out.t3.f 2;have c0:=HLS4.out.t3.c0;have c1:=HLS4.out.t3.c1;have c2:=HLS4.out.t3.c2;have k1:=HLS5.out.rd.c1;have HBL:=hid (zal g [] true _ HLS5.out.rd (by simp));rw[zbZ]at HBL;go_wp2_with fail
     refine HBL.out.mono ?_;rintro v w7 ⟨rfl,hr7,hf7⟩;have HLS7:=hid (HLS5.out.call hf7 hr7);clear hr7 hf7 HBL;obtain ⟨_,_,_,t2⟩:=HLS7.out.t2;have d0:=t2.c0;have d1:=t2.c1;have d2:=t2.c2;have df0:=t2.f 0;have df1:=t2.f 1;have df2:=t2.f 2;have c0:=HLS7.out.t3.c0;have c1:=HLS7.out.t3.c1;have c2:=HLS7.out.t3.c2;clear t2;go_wp2;obtain ⟨q1,q2,q3⟩:=HLS7.out.fin (.int .i64 k) (.string (str x)) (.string (str e));refine zai rfl rfl rfl q1 ?_;exact ⟨q2,.inr ⟨HTW.out,⟨⟨k,x,e⟩,rfl⟩,q3⟩⟩
 have HH1:=hid (zah g l [60] false w2 HLS.out.rd);simp only[List.length_cons,List.length_nil,Nat.zero_add,Nat.reduceAdd]at HH1;rw[show str [60]=(⟨#[60]⟩:ByteArray) from rfl,take1 l 60 h1]at HH1;have HH2:=hid (zah g l [95,58] false w2 HLS.out.rd);simp only[List.length_cons,List.length_nil,Nat.zero_add,Nat.reduceAdd]at HH2;rw[show str [95,58]=(⟨#[95,58]⟩:ByteArray) from rfl,take2 l 95 58 h2]at HH2;have HH3:=hid (zah g l [34] false w2 HLS.out.rd);simp only[List.length_cons,List.length_nil,Nat.zero_add,Nat.reduceAdd]at HH3;rw[show str [34]=(⟨#[34]⟩:ByteArray) from rfl,take1 l 34 h3]at HH3
 have HTW:Hid (termW l=none):=zgY (by
  unfold termR;split
  · exact absurd ⟨_,rfl⟩ h1
  · exact absurd ⟨_,rfl⟩ h2
  · exact absurd ⟨_,rfl⟩ h3
  · rfl)
 clear h1 h2 h3;go_enter func129,ntmps129
 go_wp2_with fail
 rw[HW2.out];refine HH1.out.mono ?_;rintro v w3 ⟨rfl,rfl⟩;go_wp2_with fail
 refine HH2.out.mono ?_;rintro v w3 ⟨rfl,rfl⟩;go_wp2_with fail
 refine HH3.out.mono ?_;rintro v w3 ⟨rfl,rfl⟩;have k1:=HLS.out.rd.c1;have HIS:=hid (zaM ⟨0,[],[]⟩ ⟨by show ([]:Bs).length<=_;simp,by show ([]:Bs).length<=_;simp⟩ _ (HLY.out _ HLS.out.fr h4));rw[show tmT ⟨0,[],[]⟩=false from rfl]at HIS;unfold encT at HIS;simp only at HIS;rw[show str []=(⟨#[]⟩:ByteArray) from rfl]at HIS;have f0:=HLS.out.t3.f 0;have f1:=HLS.out.t3.f 1;have f2:=HLS.out.t3.f 2;have c0:=HLS.out.t3.c0;have c1:=HLS.out.t3.c1;have c2:=HLS.out.t3.c2;go_wp2_with fail
 refine HIS.out.mono ?_;rintro v w6 ⟨rfl,hb6⟩;have HLS6:=hid (HLS.out.below hb6);clear hb6 HIS c0 c1 c2 f0 f1 f2;have HFA:=hid (zaS g l false _ HLS6.out.rd);go_wp2_with fail
 refine HFA.out.mono ?_;rintro v w7 ⟨rfl,hr7,hf7⟩;have HLS7:=hid (HLS6.out.call hf7 hr7);clear hr7 hf7 HFA;have HBL:=hid (zal g [] true _ HLS7.out.rd (by simp));rw[zbZ]at HBL;go_wp2_with fail
 refine HBL.out.mono ?_;rintro v w8 ⟨rfl,hr8,hf8⟩;have HLS8:=hid (HLS7.out.call hf8 hr8);clear hr8 hf8 HBL;obtain ⟨_,_,_,t2⟩:=HLS8.out.t2;have d0:=t2.c0;have d1:=t2.c1;have d2:=t2.c2;have df0:=t2.f 0;have df1:=t2.f 1;have df2:=t2.f 2;have c0:=HLS8.out.t3.c0;have c1:=HLS8.out.t3.c1;have c2:=HLS8.out.t3.c2;clear t2;go_wp2;obtain ⟨q1,q2,q3⟩:=HLS8.out.fin (.int .i64 0) (.string ⟨#[]⟩) (.string ⟨#[]⟩);refine zai rfl rfl rfl q1 ?_;exact ⟨q2,.inr ⟨HTW.out,⟨⟨0,[],[]⟩,rfl⟩,q3⟩⟩
theorem zjL (g:Nat) (l:Bs) (w:World) (h:Rd5 w g l true) (ht:Lay w) (hl:l=[]) :
    Calls prog 129 #[.pointer (some ⟨g,0,none⟩)] w fun v w'=>Fr w w' (fun k=>k=g)/\TmO none g v w':=by
 subst hl;have hgl:=h.lt;obtain ⟨w0,hw0⟩:∃w0,w.alloc (.cells #[.int .i64 0,.string ⟨#[]⟩,.string ⟨#[]⟩] 62)=w0:=⟨_,rfl⟩;have hb0:Below w.heap.size w w0:=(by rw[<-hw0];exact br.alloc nL _);have hn0:w0.heap.size=w.heap.size+1:=(by rw[<-hw0];simp);have ht2:T3 w0 w.heap.size (.int .i64 0) (.string ⟨#[]⟩) (.string ⟨#[]⟩):=(by rw[<-hw0];exact T3.new _ _ _ _);obtain ⟨w2,hw2⟩:∃w2,w0.alloc (.cells #[.int .i64 0,.string ⟨#[]⟩,.string ⟨#[]⟩] 62)=w2:=⟨_,rfl⟩;have hb2:Below w0.heap.size w0 w2:=(by rw[<-hw2];exact br.alloc nL _);have ht3:T3 w2 w0.heap.size (.int .i64 0) (.string ⟨#[]⟩) (.string ⟨#[]⟩):=by rw[<-hw2];exact T3.new _ _ _ _
 have hLs:Ls w w2 g w.heap.size w0.heap.size [] true (.int .i64 0) (.string ⟨#[]⟩) (.string ⟨#[]⟩):=
  ⟨((Fr.of_below hb0 (Gn g w.heap.size)).step hb2),(h.below hb0).below hb2,⟨_,_,_,ht2.fr (Fr.of_below hb2 fun _=>False) fun h=>h⟩,ht3,nL,by omega,hgl,by omega⟩
 have HLS:=hid hLs;have HLY:=hid fun W (hW:Fr w W (Gn g w.heap.size)) (hg:4<=g)=>ht.fr hW fun k hk h=>(by rcases h with h | h<;>omega);have HW2:=hid hw2;rw[hn0]at HLS;clear h ht hb0 hb2 ht2 ht3 hLs hw2;have HH1:=hid (zah g ([]:Bs) [60] true w2 HLS.out.rd);simp only[List.length_cons,List.length_nil,Nat.zero_add,Nat.reduceAdd]at HH1;rw[show str [60]=(⟨#[60]⟩:ByteArray) from rfl,show decide (([]:Bs).take 1=[60])=false from rfl]at HH1;have HH2:=hid (zah g ([]:Bs) [95,58] true w2 HLS.out.rd);simp only[List.length_cons,List.length_nil,Nat.zero_add,Nat.reduceAdd]at HH2;rw[show str [95,58]=(⟨#[95,58]⟩:ByteArray) from rfl,show decide (([]:Bs).take 2=[95,58])=false from rfl]at HH2;have HH3:=hid (zah g ([]:Bs) [34] true w2 HLS.out.rd);simp only[List.length_cons,List.length_nil,Nat.zero_add,Nat.reduceAdd]at HH3;rw[show str [34]=(⟨#[34]⟩:ByteArray) from rfl,show decide (([]:Bs).take 1=[34])=false from rfl]at HH3;clear HLY;go_enter func129,ntmps129
 go_wp2_with fail
 rw[HW2.out];refine HH1.out.mono ?_;rintro v w3 ⟨rfl,rfl⟩;go_wp2_with fail
 refine HH2.out.mono ?_;rintro v w3 ⟨rfl,rfl⟩;go_wp2_with fail
 refine HH3.out.mono ?_;rintro v w3 ⟨rfl,rfl⟩;have k1:=HLS.out.rd.c1;have HBL:=hid (zal g [] true _ HLS.out.rd (by simp));rw[zbZ]at HBL;go_wp2_with fail
 refine HBL.out.mono ?_;rintro v w7 ⟨rfl,hr7,hf7⟩;have HLS7:=hid (HLS.out.call hf7 hr7);clear hr7 hf7 HBL;obtain ⟨_,_,_,t2⟩:=HLS7.out.t2;have d0:=t2.c0;have d1:=t2.c1;have d2:=t2.c2;have df0:=t2.f 0;have df1:=t2.f 1;have df2:=t2.f 2;have c0:=HLS7.out.t3.c0;have c1:=HLS7.out.t3.c1;have c2:=HLS7.out.t3.c2;clear t2;go_wp2;obtain ⟨q1,q2,q3⟩:=HLS7.out.fin (.int .i64 0) (.string ⟨#[]⟩) (.string ⟨#[]⟩);refine zai rfl rfl rfl q1 ?_;exact ⟨q2,.inr ⟨rfl,⟨⟨0,[],[]⟩,rfl⟩,q3⟩⟩
end Go.Proofs.YtaeiifngjglchaaGreatDoor
end
