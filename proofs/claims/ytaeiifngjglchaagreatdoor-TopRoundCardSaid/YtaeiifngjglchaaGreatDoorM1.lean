/- Proved on the way: Terms as texts, and texts read as terms:; What a call has drawn is never taken bac; Valid UTF-8, a rune at a time: plain Lea; Reading up to a sign, a rune at a time: ; Texts, rune by rune: what the library's ; A language: its parts; what may be a ter; The document's languages; the runes of a. Each theorem states its own conditions. -/
import Derived.Lib.ValidLaws
import Derived.Shelf.GgClosure.StringsTrimFunc
import Derived.Lib.SplitLaws
import Derived.Test.YtaeiifngjglchaaGreatDoorPL1
section
namespace Go.Proofs.YtaeiifngjglchaaGreatDoor.Tv
open Go.Proofs.Tryz
open Go.Lib
abbrev Bs:=List UInt8
structure Tm where
 k:Int
 x:Bs
 e:Bs
 deriving DecidableEq
def hexB (n:Nat):UInt8:=if n<10 then UInt8.ofNat (48+n) else UInt8.ofNat (55+n)
def escB (c:UInt8):Bs:=
 if c=34 then [92,34] else if c=92 then [92,92] else if c=10 then [92,110] else if c=13 then [92,114]
 else if c=9 then [92,116] else if c=8 then [92,98] else if c=12 then [92,102]
 else if c<32\/c=127 then [92,117,48,48,hexB (c.toNat / 16),hexB (c.toNat % 16)] else [c]
def escS (l:Bs):Bs:=l.flatMap escB
def qt (l:Bs):Bs:=34::(escS l++[34])
def shw (t:Tm):Bs:=
 if t.k=1 then 60::(t.x++[62]) else if t.k=2 then 95::58::t.x else if t.k=4 then qt t.x++64::t.e
 else if t.k=5 then qt t.x++94::94::60::(t.e++[62]) else qt t.x
def dig (c:UInt8):Option Nat:=
 if 48<=c/\c<=57 then some (c.toNat-48) else if 97<=c/\c<=102 then some (c.toNat-87)
 else if 65<=c/\c<=70 then some (c.toNat-55) else none
def hexN:Nat->Nat->Bs->Option (Nat × Bs)
 | 0,v,l=>some (v,l)
 | _+1,_,[]=>none
 | n+1,v,c::l=>(dig c).bind fun d=>hexN n (v*16+d) l
def unesc (c:UInt8):Option UInt8:=
 if c=116 then some 9 else if c=98 then some 8 else if c=110 then some 10 else if c=114 then some 13
 else if c=102 then some 12 else if c=34 then some 34 else if c=39 then some 39 else if c=92 then some 92 else none
def num (n:Nat) (l:Bs):Option (Bs × Bs):=
 (hexN n 0 l).bind fun p=>if Lib.validRune p.1 then some (encodeRune p.1,p.2) else none
def esc (lit:Bool):Bs->Option (Bs × Bs)
 | []=>none
 | c::l=>if c=117 then num 4 l else if c=85 then num 8 l
  else if lit then (unesc c).map fun d=>([d],l) else none
def untl:Nat->Bool->UInt8->Bool->Bs->Option (Bs × Bs)
 | 0,_,_,_,_=>none
 | _+1,_,_,_,[]=>none
 | n+1,nl,e,lit,c::l=>
  if c=e then some ([],l)
  else if c=92 then (esc lit l).bind fun p=>(untl n nl e lit p.2).map fun q=>(p.1++q.1,q.2)
  else if nl/\(c=10\/c=13) then none
  else (untl n nl e lit l).map fun q=>(c::q.1,q.2)
def isAl (c:UInt8):Bool:=(97<=c && c<=122) || (65<=c && c<=90) || (48<=c && c<=57)
def isTag (c:UInt8):Bool:=isAl c || c == 45
def isBl (c:UInt8):Bool:=c == 32 || c == 9
def blk (l:Bs):Bs:=l.dropWhile isBl
def low (c:UInt8):UInt8:=if 65<=c/\c<=90 then c+32 else c
def upTo (nl:Bool) (e:UInt8) (lit:Bool) (l:Bs):Option (Bs × Bs):=untl (l.length+1) nl e lit l
def litT (nl:Bool) (l:Bs):Option (Tm × Bs):=
 (upTo true 34 true l).bind fun p=>
  match p.2 with
  | 64::r=>some (⟨4,p.1,(r.takeWhile isTag).map low⟩,r.dropWhile isTag)
  | 94::94::r=>match r with
   | 60::r=>(upTo nl 62 false r).map fun q=>(⟨5,p.1,q.1⟩,q.2)
   | _=>none
  | r=>some (⟨3,p.1,[]⟩,r)
def termT (nl:Bool):Bs->Option (Tm × Bs)
 | 60::r=>(upTo nl 62 false r).map fun p=>(⟨1,p.1,[]⟩,p.2)
 | 95::58::r=>some (⟨2,r.takeWhile isAl,[]⟩,r.dropWhile isAl)
 | 34::r=>litT nl r
 | _=>none
theorem zas (c:UInt8) (P:UInt8->Prop) (h:∀n:Fin 256,P (UInt8.ofNat n.val)):P c:=by
 have:=h ⟨c.toNat,c.toNat_lt⟩;simpa using this
theorem ziz:∀n:Fin 16,dig (hexB n.val)=some n.val:=by decide
theorem zd0 (n:Nat) (h:n<128):encodeRune (n:Int)=[UInt8.ofNat n]:=by
 unfold encodeRune encodeRuneZ;rw[if_pos (by omega)];simp
theorem zgR (n:Nat) (h:n<128):Lib.validRune (n:Int)=true:=by
 unfold Lib.validRune;exact dT (Or.inl (by omega))
theorem zkH (a b c d:UInt8) (i j k m:Nat) (l:Bs) (h1:dig a=some i) (h2:dig b=some j) (h3:dig c=some k) (h4:dig d=some m):hexN 4 0 (a::b::c::d::l)=some ((((0*16+i)*16+j)*16+k)*16+m,l):=by
 rw[hexN,h1,Option.bind_some,hexN,h2,Option.bind_some,hexN,h3,Option.bind_some,hexN,h4,Option.bind_some,hexN]
theorem znV (c:UInt8) (h:c<128) (l:Bs):num 4 (48::48::hexB (c.toNat / 16)::hexB (c.toNat % 16)::l)=some ([c],l):=by
 have hc:c.toNat<128:=h;have e1:dig (hexB (c.toNat / 16))=some (c.toNat / 16):=ziz ⟨c.toNat / 16,by omega⟩;have e2:dig (hexB (c.toNat % 16))=some (c.toNat % 16):=ziz ⟨c.toNat % 16,by omega⟩;have e3:dig 48=some 0:=(by decide);have e5:(((0*16+0)*16+0)*16+c.toNat / 16)*16+c.toNat % 16=c.toNat:=(by omega);have e6:=zkH 48 48 (hexB (c.toNat / 16)) (hexB (c.toNat % 16)) 0 0 (c.toNat / 16) (c.toNat % 16) l e3 e3 e1 e2;rw[e5]at e6;unfold num;rw[e6,Option.bind_some];show (if Lib.validRune (c.toNat:Int)=true then some (encodeRune (c.toNat:Int),l) else none)=_;rw[if_pos (zgR _ hc),zd0 c.toNat hc];simp
theorem zcE (c:UInt8):(∃d,unesc d=some c/\d≠117/\d≠85/\escB c=[92,d])\/(c<128/\escB c=[92,117,48,48,hexB (c.toNat / 16),hexB (c.toNat % 16)])\/(c≠34/\c≠92/\c≠10/\c≠13/\escB c=[c]):=by
 unfold escB;split
 · rename_i h;subst h;exact .inl ⟨34,by decide⟩
 · split
   · rename_i h;subst h;exact .inl ⟨92,by decide⟩
   · split
     · rename_i h;subst h;exact .inl ⟨110,by decide⟩
     · split
       · rename_i h;subst h;exact .inl ⟨114,by decide⟩
       · split
         · rename_i h;subst h;exact .inl ⟨116,by decide⟩
         · split
           · rename_i h;subst h;exact .inl ⟨98,by decide⟩
           · split
             · rename_i h;subst h;exact .inl ⟨102,by decide⟩
             · split
               · rename_i h;refine .inr (.inl ⟨?_,rfl⟩);rcases h with h | h
                 · exact UInt8.lt_trans h (by decide)
                 · subst h;decide
               · exact .inr (.inr ⟨by assumption,by assumption,by assumption,by assumption,rfl⟩)
theorem zlr (n:Nat) (nl:Bool) (c:UInt8) (l:Bs):untl (n+1) nl 34 true (escB c++l)=(untl n nl 34 true l).map fun q=>(c::q.1,q.2):=by
 rcases zcE c with ⟨d,h1,h2,h3,h4⟩ | ⟨h1,h2⟩ | ⟨h1,h2,h3,h4,h5⟩
 · rw[h4];show untl (n+1) nl 34 true (92::d::l)=_;simp only[untl,esc,if_neg h2,if_neg h3,h1,if_true,Option.map_some,Option.bind_some];rw[if_neg (by decide)];rfl
 · rw[h2];show untl (n+1) nl 34 true (92::117::48::48::hexB (c.toNat / 16)::hexB (c.toNat % 16)::l)=_;simp only[untl,esc,if_true];rw[if_neg (by decide),znV c h1];rfl
 · rw[h5];show untl (n+1) nl 34 true (c::l)=_;simp only[untl];rw[if_neg h1,if_neg h2,if_neg (by simp[h3,h4])]
theorem zlq (nl:Bool) (l r:Bs):∀n,l.length<n->untl n nl 34 true (escS l++34::r)=some (l,r):=by
 induction l with
 | nil=>
  intro n hn;obtain ⟨m,rfl⟩:∃m,n=m+1:=⟨n-1,by simp at hn;omega⟩;simp[escS,untl]
 | cons c l ih=>
  intro n hn;simp at hn;obtain ⟨m,rfl⟩:∃m,n=m+1:=⟨n-1,by omega⟩;show untl (m+1) nl 34 true (escB c++escS l++34::r)=_;rw[List.append_assoc,zlr,ih m (by omega)];rfl
theorem ziI (nl:Bool) (e:UInt8) (lit:Bool) (l r:Bs) (h:∀c∈l,c≠e/\c≠92/\c≠10/\c≠13):∀n,l.length<n->untl n nl e lit (l++e::r)=some (l,r):=by
 induction l with
 | nil=>
  intro n hn;obtain ⟨m,rfl⟩:∃m,n=m+1:=⟨n-1,by simp at hn;omega⟩;simp[untl]
 | cons c l ih=>
  intro n hn;simp at hn;obtain ⟨m,rfl⟩:∃m,n=m+1:=⟨n-1,by omega⟩;obtain ⟨h1,h2,h3,h4⟩:=h c List.mem_cons_self;show untl (m+1) nl e lit (c::(l++e::r))=_;simp only[untl];rw[if_neg h1,if_neg h2,if_neg (by simp[h3,h4]),ih (fun c hc=>h c (List.mem_cons_of_mem _ hc)) m (by omega)];rfl
theorem zeV (nl:Bool) (l r:Bs):upTo nl 34 true (escS l++34::r)=some (l,r):=by
 refine zlq nl l r _ ?_;have:∀l:Bs,l.length<=(escS l).length:=by
  intro l;induction l with
  | nil=>simp
  | cons c l ih=>
   show l.length+1<=(escB c++escS l).length;have:1<=(escB c).length:=by
    rcases zcE c with ⟨d,_,_,_,h⟩ | ⟨_,h⟩ | ⟨_,_,_,_,h⟩<;>rw[h]<;>simp
   rw[List.length_append];omega
 have:=this l;simp;omega
theorem zes (nl:Bool) (e:UInt8) (lit:Bool) (l r:Bs) (h:∀c∈l,c≠e/\c≠92/\c≠10/\c≠13):upTo nl e lit (l++e::r)=some (l,r):=
 ziI nl e lit l r h _ (by simp;omega)
theorem zcv (p:UInt8->Bool) (l r:Bs) (h:∀c∈l,p c=true) (hr:∀c,r.head?=some c->p c=false):(l++r).takeWhile p=l/\(l++r).dropWhile p=r:=by
 induction l with
 | nil=>
  cases r with
  | nil=>simp
  | cons c r=>simp[hr c rfl]
 | cons c l ih=>
  have h1:=h c List.mem_cons_self;have h2:=ih fun c hc=>h c (List.mem_cons_of_mem _ hc);simp[h1,h2.1,h2.2]
structure Fit (t:Tm):Prop where
 kind:t.k=1\/t.k=2\/t.k=3\/t.k=4\/t.k=5
 iri:t.k=1->∀c∈t.x,c≠62/\c≠92/\c≠10/\c≠13
 label:t.k=2->∀c∈t.x,isAl c=true
 none:t.k=1\/t.k=2\/t.k=3->t.e=[]
 lang:t.k=4->∀c∈t.e,isTag c=true/\low c=c
 type:t.k=5->∀c∈t.e,c≠62/\c≠92/\c≠10/\c≠13
theorem zdo (nl:Bool) (t:Tm) (h:Fit t) (r:Bs) (hr:∀c,r.head?=some c->isTag c=false/\c≠64/\c≠94):termT nl (shw t++r)=some (t,r):=by
 obtain ⟨k,x,e⟩:=t;have hk:=h.kind;simp only at hk;have hA:∀c,r.head?=some c->isAl c=false:=fun c hc=>by
  have:=(hr c hc).1;unfold isTag at this;simp at this;simp[this.1]
 rcases hk with rfl | rfl | rfl | rfl | rfl
 · have he:=h.none (.inl rfl);simp only at he;subst he;show termT nl (60::(x++[62])++r)=_;have:=zes nl 62 false x r (h.iri rfl);simp[termT,this]
 · have he:=h.none (.inr (.inl rfl));simp only at he;subst he;show termT nl (95::58::(x++r))=_;have:=zcv isAl x r (h.label rfl) hA;simp[termT,this.1,this.2]
 · have he:=h.none (.inr (.inr rfl));simp only at he;subst he;show termT nl (34::(escS x++[34])++r)=_;have:=zeV true x r;simp only[termT,litT,List.cons_append,List.append_assoc,List.nil_append,this,Option.bind_some];split
   · rename_i r' _;exact absurd rfl (hr 64 rfl).2.1
   · exact absurd rfl (hr 94 rfl).2.2
   · rfl
 · show termT nl (34::(escS x++[34])++64::e++r)=_;have:=zeV true x (64::(e++r));have h2:=zcv isTag e r (fun c hc=>(h.lang rfl c hc).1) (fun c hc=>(hr c hc).1);simp only[termT,litT,List.cons_append,List.append_assoc,List.nil_append,this,Option.bind_some,h2.1,h2.2];have h3:e.map low=e:=by
    conv=>rhs;rw[<-List.map_id e]
    exact List.map_congr_left fun c hc=>(h.lang rfl c hc).2
   rw[h3]
 · show termT nl (34::(escS x++[34])++94::94::60::(e++[62])++r)=_;have:=zeV true x (94::94::60::(e++62::r));have h2:=zes nl 62 false e r (h.type rfl);simp only[termT,litT,List.cons_append,List.append_assoc,List.nil_append,this,Option.bind_some,h2,Option.map_some]
theorem znF (s t:Tm) (hs:Fit s) (ht:Fit t) (h:shw s=shw t):s=t:=by
 have h1:=zdo true s hs [] (by simp);have h2:=zdo true t ht [] (by simp);rw[h,h2]at h1;exact (Prod.mk.inj (Option.some.inj h1)).1.symm
end Go.Proofs.YtaeiifngjglchaaGreatDoor.Tv
end
section
namespace Go.Proofs.YtaeiifngjglchaaGreatDoor.Dr
open Go.Proofs.Tryz
open Go Go.RowKit
def RD {α:Type} (n:Nat):Result α->Prop
 | .ok _ w=>n<=w.drawn
 | .halt _ w=>n<=w.drawn
theorem RD.le {α:Type} {n m:Nat} {r:Result α} (h:RD m r) (hn:n<=m):RD n r:=by
 cases r with
 | ok a w=>exact Nat.le_trans hn h
 | halt a w=>exact Nat.le_trans hn h
theorem ask_le {α:Type} (c:Ask α):∀w:World,w.drawn<=(w.ask c).2.drawn:=by
 induction c with
 | done a=>intro w;exact nL
 | ask what range k ih=>
  intro w;unfold World.ask;simp only[];split
  · exact ih _ _
  · exact Nat.le_trans (Nat.le_succ _) (ih (Question.cut (.extern what range) (w.tape w.drawn (.extern what range))) { w with drawn:=w.drawn+1 })
theorem zm5 (w:World) (c:Sys):w.drawn<=(w.sys c).2.drawn:=by
 unfold World.sys;have h:=ask_le (Kernel.perform c w.os) w;split
 · exact nL
 · rename_i r os w' _ he;rw[he]at h;exact h
theorem zfI (p:Program) (w w':World) (a k:Addr) (u:TypeId) (v:Value) (b:Bool) (l:List Addr) (h:w.viewStore p a u k v b=.ok (w',l)):w'.drawn=w.drawn:=by
 unfold World.viewStore at h;simp only[bind,Except.bind,pure,Except.pure]at h
 repeat' first
  | (cases h;done)
  | (injection h with h;injection h with h _;subst h;rfl)
  | split at h
theorem zdU (p:Program) (w w':World) (a:Addr) (v:Value) (b:Bool) (l:List Addr) (h:w.farStore p a v b=.ok (w',l)):w'.drawn=w.drawn:=by
 unfold World.farStore at h;split at h
 · split at h
   · rename_i r he;injection h with h;subst h;exact zfI _ _ _ _ _ _ _ _ _ he
   · cases h
 · cases h
theorem zcM (w:World) (a:Addr) (n:Nat):(w.freeze a n).drawn=w.drawn:=by
 unfold World.freeze;split<;>rfl
theorem zbf {α:Type} (p:Program) (s:Sem α):∀(w:World) (es:Array Event),RD w.drawn (s.runT p w es).1:=by
 induction s with
 | pure a=>intro w es;exact nL
 | load m a k ih=>
  intro w es;simp only[Sem.runT];split
  · exact ih _ _ _
  · split
    · exact ih _ _ _
    · exact nL
 | store m a v k ih=>
  intro w es
  cases v<;>simp only[Sem.runT]<;>first
   | exact nL
   | (split
      · split
        · exact nL
        · exact ih _ _
      · split
        · rename_i he;exact (ih _ _).le (Nat.le_of_eq (zdU _ _ _ _ _ _ _ he).symm)
        · exact nL)
 | new o k ih=>intro w es;exact ih _ _ _
 | shape r k ih=>intro w es;exact ih _ _ _
 | freeze a n k ih=>intro w es;exact (ih (w.freeze a n) es).le (Nat.le_of_eq (zcM w a n).symm)
 | frozen a k ih=>intro w es;exact ih _ _ _
 | getObj r k ih=>
  intro w es;simp only[Sem.runT];split
  · exact nL
  · exact ih _ _ _
  · exact nL
 | setObj r o k ih=>
  intro w es;simp only[Sem.runT];split
  · exact nL
  · exact ih _ _
  · exact nL
 | choose q k ih=>
  intro w es;simp only[Sem.runT];split
  · exact ih _ _ _
  · exact (ih _ _ _).le (Nat.le_succ _)
 | sys c k ih=>intro w es;exact (ih _ _ _).le (zm5 w c)
 | program k ih=>intro w es;exact ih _ _ _
 | mark m k ih=>intro w es;exact ih _ _
 | halt h=>intro w es;exact nL
theorem zj0 {α:Type} (p:Program) (s:Sem α):∀(w:World),RD w.drawn (s.run p w):=by
 induction s with
 | pure a=>intro w;exact nL
 | load m a k ih=>
  intro w;simp only[Sem.run];split
  · exact ih _ _
  · split
    · exact ih _ _
    · exact nL
 | store m a v k ih=>
  intro w
  cases v<;>simp only[Sem.run]<;>first
   | exact nL
   | (split
      · split
        · exact nL
        · exact ih _
      · split
        · rename_i he;exact (ih _).le (Nat.le_of_eq (zdU _ _ _ _ _ _ _ he).symm)
        · exact nL)
 | new o k ih=>intro w;exact ih _ _
 | shape r k ih=>intro w;exact ih _ _
 | freeze a n k ih=>intro w;exact (ih (w.freeze a n)).le (Nat.le_of_eq (zcM w a n).symm)
 | frozen a k ih=>intro w;exact ih _ _
 | getObj r k ih=>
  intro w;simp only[Sem.run];split
  · exact nL
  · exact ih _ _
  · exact nL
 | setObj r o k ih=>
  intro w;simp only[Sem.run];split
  · exact nL
  · exact ih _
  · exact nL
 | choose q k ih=>
  intro w;simp only[Sem.run];split
  · exact ih _ _
  · exact (ih _ _).le (Nat.le_succ _)
 | sys c k ih=>intro w;exact (ih _ _).le (zm5 w c)
 | program k ih=>intro w;exact ih _ _
 | mark m k ih=>intro w;exact ih _
 | halt h=>intro w;exact nL
theorem zaL {α:Type} {p:Program} {s:Sem α} {w w':World} {a:α} (h:s.run p w=.ok a w'):w.drawn<=w'.drawn:=by
 have:=zj0 p s w;rw[h]at this;exact this
theorem run_halt {α:Type} {p:Program} {s:Sem α} {w w':World} {a:Halt} (h:s.run p w=.halt a w'):w.drawn<=w'.drawn:=by
 have:=zj0 p s w;rw[h]at this;exact this
theorem znG {α:Type} {p:Program} {s:Sem α} {w w':World} {a:α} {es es':Array Event} (h:s.runT p w es=(.ok a w',es')):w.drawn<=w'.drawn:=by
 have:=zbf p s w es;rw[h]at this;exact this
theorem zj1 {α:Type} {p:Program} {s:Sem α} {w w':World} {a:Halt} {es es':Array Event} (h:s.runT p w es=(.halt a w',es')):w.drawn<=w'.drawn:=by
 have:=zbf p s w es;rw[h]at this;exact this
def GD (n:Nat):GStep->Prop
 | .ended ..=>True
 | .go _ w _ | .comm _ _ _ _ w _ | .spawn _ _ w _ | .count _ w _ | .timer _ _ w _ | .alone _ _ w _ | .newcoro _ _ _ w _ | .coroswitch _ _ _ w _ | .collect _ w _ | .watch _ w _=>n<=w.drawn
theorem GD.after {n:Nat} {g:GStep} (h:GD n g) (es:Array Event):GD n (GStep.after es g):=by cases g<;>exact h
theorem GD.le {n m:Nat} {g:GStep} (h:GD m g) (hn:n<=m):GD n g:=by
 cases g<;>first | trivial | exact Nat.le_trans hn h
theorem GD.ite {n:Nat} {c:Prop} [Decidable c] {a b:GStep} (ha:GD n a) (hb:GD n b):GD n (if c then a else b):=by
 split
 · exact ha
 · exact hb
theorem zdX (fr:Frame) (m:String) (w:World):GD w.drawn (endThrow fr m w):=nL
theorem zbO (p:Program) (fr:Frame) (v:Value) (w:World):GD w.drawn (endPrinting p fr v w):=by
 unfold endPrinting;simp only[];split
 · exact nL
 · trivial
theorem zjo (n:Nat) (w:World) (fd:Nat) (s:ByteArray) (o:Outcome):GD n (endWith w fd s o):=by
 unfold endWith;simp only[];split
 · split<;>trivial
 · trivial
 · trivial
theorem zdY (p:Program) (fr:Frame) (callers:List Frame) (dying:Option Dying) (m:String) (w:World):GD w.drawn (endFatal p fr callers dying m w):=by
 unfold endFatal;simp only[];split
 · rename_i he;exact zaL he
 · trivial
 · trivial
theorem zbX (p:Program) (main:Bool) (fr:Frame) (callers:List Frame) (dying:Option Dying) (v:Value) (w:World):GD w.drawn (doReturn p main fr callers dying v w):=by
 unfold doReturn;simp only[]
 repeat' first
  | exact nL
  | trivial
  | split
theorem zmQ (p:Program) (fr:Frame) (callers:List Frame) (dying:Option Dying) (g:Nat) (w:World):GD w.drawn (early p fr callers dying g w):=by
 unfold early;simp only[]
 repeat' first
  | exact nL
  | trivial
  | (have h_:=zaL ‹Sem.run p (choose (.early g)) w=Result.ok _ _›;exact h_)
  | split
theorem ziH (p:Program) (fr:Frame) (d:Dying) (f:Fatal) (w:World):GD w.drawn (writeOn p fr d f w):=by
 unfold writeOn;simp only[]
 repeat' first
  | exact nL
  | trivial
  | exact znG (by assumption)
  | exact zj1 (by assumption)
  | split
theorem die_gd (p:Program) (fr:Frame) (d:Dying) (w:World):GD w.drawn (die p fr d w):=by
 unfold die;simp only[];split
 · exact ziH _ _ _ _ _
 · split
   · split
     · exact nL
     · exact zjo _ _ _ _ _
   · split
     · exact nL
     · split
       · exact zaL (by assumption)
       · trivial
     · rename_i t recv name _;refine GD.after ?_ _;have H:=zbf p (invoke (.fn (.method name) #[]) #[.iface t recv]) w #[];generalize (invoke (.fn (.method name) #[]) #[.iface t recv]).runT p w #[]=r at H ⊢;obtain ⟨r,es⟩:=r;dsimp only at H ⊢
       repeat' first
        | exact H
        | trivial
        | exact (zbO _ _ _ _).le H
        | split
     · trivial
theorem zd5 (p:Program) (fr:Frame) (callers:List Frame) (dying:Option Dying) (d:Deferred) (w:World):GD w.drawn (callDeferred p fr callers dying d w):=by
 unfold callDeferred;simp only[];refine GD.ite trivial ?_
 · refine GD.after ?_ _;have H:=zbf p (invoke d.target d.args) w #[];generalize (invoke d.target d.args).runT p w #[]=r at H ⊢;obtain ⟨r,es⟩:=r;dsimp only at H ⊢
   repeat' first
    | exact H
    | trivial
    | exact (zdY _ _ _ _ _ _).le H
    | exact (zdX _ _ _).le H
    | split
theorem zjB (p:Program) (main:Bool) (fr:Frame) (callers:List Frame) (dying:Option Dying) (w:World):GD w.drawn (unwind p main fr callers dying w):=by
 unfold unwind;split
 · rename_i block _ _ _;simp only[];refine GD.after ?_ _;have H:=zbf p (Instr.takeDeferred block) w #[];generalize (Instr.takeDeferred block).runT p w #[]=r at H ⊢;obtain ⟨r,es⟩:=r;dsimp only at H ⊢
   repeat' first
    | exact H
    | trivial
    | split
 · exact zd5 _ _ _ _ _ _
 · split
   · trivial
   · repeat' first
      | exact nL
      | trivial
      | exact zaL (by assumption)
      | exact zbO _ _ _ _
      | split
   · split
     · exact zbX _ _ _ _ _ _ _
     · rename_i fn _;simp only[];refine GD.after ?_ _;have H:=zbf p (results fn fr.tmps) w #[];generalize (results fn fr.tmps).runT p w #[]=r at H ⊢;obtain ⟨r,es⟩:=r;dsimp only at H ⊢;split
       · exact (zbX _ _ _ _ _ _ _).le H
       · trivial
       · trivial
theorem zcq (p:Program) (listen:Bool) (fr:Frame) (callers:List Frame) (dying:Option Dying) (s:Sem Next) (w:World):GD w.drawn (stepG.apply p listen fr callers dying s w):=by
 unfold stepG.apply;simp only[];refine GD.after ?_ _;have H:RD w.drawn (if listen=true then s.runT p w #[] else (s.run p w,#[])).1:=by
  split
  · exact zbf p s w #[]
  · exact zj0 p s w
 generalize (if listen=true then s.runT p w #[] else (s.run p w,#[]))=r at H ⊢;obtain ⟨r,es⟩:=r;dsimp only at H ⊢
 repeat' first
  | exact H
  | trivial
  | exact (zdY _ _ _ _ _ _).le H
  | exact (zdX _ _ _).le H
  | exact (zmQ _ _ _ _ _ _).le H
  | split
theorem znR (p:Program) (listen:Bool) (fr:Frame) (callers:List Frame) (dying:Option Dying) (w:World):GD w.drawn (stepG.oper p listen fr callers dying w):=by
 unfold stepG.oper;split
 · trivial
 · split
   · exact zcq _ _ _ _ _ _ _
   · exact zcq _ _ _ _ _ _ _
theorem zog (p:Program) (main listen:Bool) (fr:Frame) (callers:List Frame) (dying:Option Dying) (w:World):GD w.drawn (stepG.exec p main listen fr callers dying w):=by
 have leave_gd:∀jump:Option Code,GD w.drawn (match fr.roundOf with
     | none=>if jump matches none | some .ret then (GStep.go { frame:={ fr with mode:=.returning },callers,status:=.running,dying } w) else .ended (.stuck "exit, goto: no such block or label" (fr.pos p)) w
     | some l=>
      GStep.after (seen p fr.fn ((Instr.endRound l jump).runT p w #[]).2) <| match ((Instr.endRound l jump).runT p w #[]).1 with
      | .ok v w=>doReturn p main fr callers dying v w
      | .halt _ w=>.ended (.stuck "range over a function: no such loop" (fr.pos p)) w):=by
  intro jump;split
  · exact GD.ite nL trivial
  · rename_i l _;refine GD.after ?_ _;have H:=zbf p (Instr.endRound l jump) w #[];generalize (Instr.endRound l jump).runT p w #[]=r at H ⊢;obtain ⟨r,es⟩:=r;dsimp only at H ⊢;split
    · exact (zbX _ _ _ _ _ _ _).le H
    · trivial
 unfold stepG.exec;simp only[];split
 · exact leave_gd none
 · exact leave_gd (some .ret)
 all_goals first
  | exact nL
  | trivial
  | exact zcq _ _ _ _ _ _ _
  | skip
 · split
   · exact nL
   · trivial
 · rename_i id k _;cases exitTo id k with
   | none=>exact leave_gd (some (.exit id))
   | some _=>exact nL
 · rename_i l k _;cases gotoIn l k with
   | none=>exact leave_gd (some (.goto l))
   | some _=>exact nL
 · rename_i f params assign body k _;refine GD.after ?_ _;have H:=zbf p (Instr.enterLoop fr.fn fr.tmps params assign body fr.roundOf) w #[];generalize (Instr.enterLoop fr.fn fr.tmps params assign body fr.roundOf).runT p w #[]=r at H ⊢;obtain ⟨r,es⟩:=r;dsimp only at H ⊢;split
   · exact (zcq _ _ _ _ _ _ _).le H
   · trivial
 · rename_i l k _;refine GD.after ?_ _;have H:=zbf p (Instr.endLoop l) w #[];generalize (Instr.endLoop l).runT p w #[]=r at H ⊢;obtain ⟨r,es⟩:=r;dsimp only at H ⊢;split
   · exact H
   · exact H
   · trivial
 · rename_i row args k _;cases Extern.next row with
   | none=>trivial
   | some e=>exact zcq _ _ _ _ _ _ _
 · split
   · exact nL
   · split
     · rename_i he;have h_:=zaL he;exact h_
     · trivial
 · split
   · exact znR _ _ _ _ _ _
   · exact nL
theorem zlK (p:Program) (main:Bool) (g:Goroutine) (w:World) (listen:Bool):GD w.drawn (stepG p main g w listen):=by
 unfold stepG;simp only[];split
 · exact die_gd _ _ _ _
 · exact zog _ _ _ _ _ _ _
 · exact zjB _ _ _ _ _ _
theorem zep (p:Program) (rest:Rest) (gs:Array Goroutine) (i:Nat) (g:Goroutine) (cases:Array CommCase) (blocking:Bool)
    (shape:CommShape) (w:World) (m':Machine) (h:(communicate p rest gs i g cases blocking shape w).1=.next m'):w.drawn<=m'.world.drawn:=by
 have wait_le:∀w',waitingAt rest cases w=some w'->w.drawn<=w'.drawn:=by
  intro w' he;unfold waitingAt at he;split at he
  · split at he
    · injection he with he;subst he;exact nL
    · cases he
  · injection he with he;subst he;exact nL
 unfold communicate at h;simp only[]at h
 repeat' first
  | (simp at h;done)
  | (simp only[Stepped.next.injEq]at h;subst h;exact nL)
  | (simp only[Stepped.next.injEq]at h;subst h;exact wait_le _ (by assumption))
  | (simp only[Stepped.next.injEq]at h;subst h;have h1_:=zaL ‹Sem.run p (choose _) _=Result.ok _ _›;have h2_:=zaL ‹Sem.run p _ w=Result.ok _ _›;exact Nat.le_trans h2_ h1_)
  | (simp only[Stepped.next.injEq]at h;subst h;have h2_:=zaL ‹Sem.run p _ w=Result.ok _ _›;exact h2_)
  | (simp only[Stepped.next.injEq]at h;subst h;have h2_:=zaL ‹Sem.run p _ w=Result.ok _ _›;have h1_:=run_halt ‹Sem.run p (runtimePanic _:Sem Unit) _=Result.halt _ _›;exact Nat.le_trans h2_ h1_)
  | split at h
theorem zkr (p:Program) (gs:Array Goroutine) (rest:Rest) (w:World) (m':Machine) (h:look p gs rest w=.next m'):w.drawn<=m'.world.drawn:=by
 unfold look at h;simp only[]at h
 repeat' first
  | (simp at h;done)
  | (simp only[Stepped.next.injEq]at h;subst h;have h2_:=zaL ‹Sem.run p _ w=Result.ok _ _›;exact h2_)
  | split at h
theorem zfY (m:Machine) (k:Nat) (t:Timer) (a b:Nat):m.world.drawn<=(retime m k t a b).2.world.drawn:=by
 unfold retime;simp only[];split
 · unfold drain;split<;>exact nL
 · exact nL
theorem ziN (m m':Machine) (o:TimerOp) (v:Value) (h:timerOp m o=.ok (v,m')):m.world.drawn<=m'.world.drawn:=by
 have named_le:∀(n:Machine) (var:Addr) (f:Nat->Timer->Value × Machine),(∀k t,n.world.drawn<=(f k t).2.world.drawn)->timerOp.named m var f=.ok (v,m')->n.world.drawn<=m'.world.drawn:=by
  intro n var f hf he;unfold timerOp.named at he;split at he
  · rename_i c _;injection he with he;have:=hf c (m.rest.timers.getD c default);rw[he]at this;exact this
  · cases he
 unfold timerOp at h;simp only[]at h;split at h
 · repeat' first
    | (simp at h;done)
    | (injection h with h;injection h with _ h;subst h;exact nL)
    | split at h
 · exact named_le m _ _ (fun k t=>zfY m k t _ _) h
 · split at h
   · rename_i n hn;have hmn:m.world.drawn<=n.world.drawn:=by
      unfold timerOp.opened at hn;split at hn
      · split at hn
        · injection hn with hn;subst hn;exact nL
        · cases hn
      · injection hn with hn;subst hn;exact nL
     exact Nat.le_trans hmn (named_le n _ _ (fun k t=>zfY n k t _ _) h)
   · cases h
 · injection h with h;injection h with _ h;subst h;exact nL
theorem zht (p:Program) (m m':Machine) (i:Nat) (b:Bool) (h:(Go.runT p m i b).1=.next m'):m.world.drawn<=m'.world.drawn:=by
 simp only[Go.runT]at h;revert h;generalize m.gs.swapAt! _ _=gg;have H:=zlK p (i == 0) gg.1 m.world b;revert H;generalize stepG p _ gg.1 m.world b=s;intro H h;cases s<;>simp only[]at h
 all_goals first
  | (simp at h;done)
  | exact Nat.le_trans H (zep _ _ _ _ _ _ _ _ _ _ h)
  | exact Nat.le_trans H (zkr _ _ _ _ _ h)
  | (simp only[Stepped.next.injEq]at h;subst h;exact H)
  | skip
 · split at h
   · simp at h
   · simp only[Stepped.next.injEq]at h;subst h;exact H
 · split at h
   · rename_i he;simp only[Stepped.next.injEq]at h;subst h;exact Nat.le_trans H (ziN _ _ _ _ he)
   · split at h
     · rename_i he;simp only[endThrow,dieOf,GStep.go.injEq]at he;obtain ⟨_,rfl,_⟩:=he;simp only[Stepped.next.injEq]at h;subst h;exact H
     · simp at h
   · simp at h
   · simp at h
 · split at h
   · simp only[Stepped.next.injEq]at h;subst h;exact H
   · split at h
     · rename_i he;simp only[endThrow,dieOf,GStep.go.injEq]at he;obtain ⟨_,rfl,_⟩:=he;simp only[Stepped.next.injEq]at h;subst h;exact H
     · simp at h
   · simp at h
theorem zlT (p:Program) (m m':Machine) (k:Nat) (h:serve p m k=.next m'):m.world.drawn<=m'.world.drawn:=by
 unfold serve at h;simp only[]at h
 repeat' first
  | (simp at h;done)
  | (simp only[Stepped.next.injEq]at h;subst h;exact nL)
  | split at h
def MD (n:Nat):Move->Prop
 | .goroutine m _=>n<=m.world.drawn
 | .machine (.next m) _=>n<=m.world.drawn
 | .machine (.ended _ _) _=>True
theorem MD.le {n m:Nat} {g:Move} (h:MD m g) (hn:n<=m):MD n g:=by
 match g,h with
 | .goroutine _ _,h=>exact Nat.le_trans hn h
 | .machine (.next _) _,h=>exact Nat.le_trans hn h
 | .machine (.ended _ _) _,_=>trivial
theorem zlS (p:Program) (m:Machine) (k:Nat) (ops:Array MemOp):MD m.world.drawn (.machine (serve p m k) ops):=by
 cases h:serve p m k with
 | next m'=>exact zlT p m m' k h
 | ended _ _=>trivial
theorem zjn (w:World) (fd:Nat) (s:ByteArray) (o:Outcome) (n:Nat):MD n (match endWith w fd s o with
    | .ended o w _=>.machine (.ended o w)
    | _=>.machine (.ended (.stuck "" "") default)):=by
 split<;>trivial
theorem zfD (p:Program) (m:Machine):MD m.world.drawn (askOn p m):=by
 unfold askOn;simp only[];split
 · trivial
 · rename_i k w1 h1;have a:=zaL h1;refine MD.le ?_ a;clear h1 a;split
   · exact zlS _ { m with world:=w1 } _ _
   · split
     · split
       · exact nL
       · split
         · exact nL
         · exact zjn _ _ _ _ _
     · split
       · split
         · trivial
         · rename_i h2;have b:=zaL h2;split
           · exact b
           · split
             · trivial
             · rename_i h3;have c:=zaL h3;exact Nat.le_trans b c
       · split
         · trivial
         · rename_i h2;have b:=zaL h2;refine MD.le ?_ b;clear h2 b;split
           · trivial
           · rename_i h2;have b:=zaL h2;split
             · exact b
             · split
               · trivial
               · rename_i h3;have c:=zaL h3;exact Nat.le_trans b c
         · rename_i h2;have b:=zaL h2;exact b
         · rename_i h2;have b:=zaL h2;refine MD.le ?_ b;clear h2 b;split
           · trivial
           · rename_i h2;have b:=zaL h2;split
             · exact b
             · split
               · trivial
               · rename_i h3;have c:=zaL h3;exact Nat.le_trans b c
theorem znk (p:Program) (m:Machine):MD m.world.drawn (Go.ask p m):=by
 unfold Go.ask;split
 · split
   · trivial
   · rename_i w1 h1;refine MD.le ?_ (zaL h1);cases h2:look p m.gs m.rest w1 with
     | next m2=>exact (zfD p m2).le (zkr _ _ _ _ _ h2)
     | ended _ _=>trivial
   · rename_i h1;exact MD.le (zfD p _) (zaL h1)
 · exact zfD p m
theorem zn0 (p:Program) (m:Machine):MD m.world.drawn (move p m):=by
 unfold move;split
 · split
   · exact nL
   · trivial
 · split
   · split
     · exact nL
     · exact znk p { m with rest:={ m.rest with slice:=none } }
   · exact znk p m
theorem znz (p:Program) (m m':Machine) (h:step p m=.next m'):m.world.drawn<=m'.world.drawn:=by
 unfold step stepT at h;have H:=zn0 p m;split at h
 · rename_i m1 i he;rw[he]at H;exact Nat.le_trans H (zht p m1 m' i _ h)
 · rename_i s ops he;rw[he]at H;dsimp only at h;subst h;exact H
theorem zh0 (p:Program):∀(n:Nat) (m m':Machine),runN p n m=.next m'->m.world.drawn<=m'.world.drawn
 | 0,m,m',h=>by
  simp only[runN,Stepped.next.injEq]at h;subst h;exact nL
 | n+1,m,m',h=>by
  simp only[runN]at h;cases h1:step p m with
  | next m1=>
   rw[h1]at h;exact Nat.le_trans (znz p m m1 h1) (zh0 p n m1 m' h)
  | ended _ _=>
   rw[h1]at h;cases h
theorem zhP {P:Program} {f:FuncId} {args:Array Value} {w:World} {R:Ending->World->Prop} (h:Calls P f args w R) (hr:∀e w',R e w'->∃v,e=.returned v) :
    Calls P f args w fun e w'=>R e w'/\w.drawn<=w'.drawn:=by
 intro cs;obtain ⟨e,w',fr,hR,hc,hf,hl⟩:=h cs;refine ⟨e,w',fr,⟨hR,?_⟩,hc,hf,hl⟩;obtain ⟨v,rfl⟩:=hr e w' hR;obtain ⟨n,hn⟩:=hc;exact zh0 P n _ _ hn
theorem zoe (w w':World) (h:Below w.heap.size w w') (hd:w.drawn<=w'.drawn):∃q os,w'=Sort.grow (w.drewN q) os:=by
 refine ⟨w'.drawn-w.drawn,w'.heap.extract w.heap.size w'.heap.size,?_⟩;have hh:w'.heap=w.heap++w'.heap.extract w.heap.size w'.heap.size:=by
  apply Array.ext_getElem?;intro i;rcases Nat.lt_or_ge i w.heap.size with hi | hi
  · rw[h.block i hi,Array.getElem?_append_left hi]
  · rw[Array.getElem?_append_right hi,Array.getElem?_extract];split
    · congr 1
      omega
    · rw[Array.getElem?_eq_none];omega
 have h4:w.drawn+(w'.drawn-w.drawn)=w'.drawn:=(by omega);have key:∀(a b:World),a.heap=b.heap->a.tape=b.tape->a.drawn=b.drawn->a.os=b.os->a.output=b.output->a=b:=by
  rintro ⟨_,_,_,_,_⟩ ⟨_,_,_,_,_⟩ h1 h2 h3 h4 h5;simp only at h1 h2 h3 h4 h5;subst h1 h2 h3 h4 h5;rfl
 exact key _ _ hh h.tape h4.symm h.os h.output
theorem calls_grow {P:Program} {f:FuncId} {args:Array Value} {w:World} {v:Value} (h:Calls P f args w fun e w'=>e=.returned v/\Below w.heap.size w w') :
    Calls P f args w fun e w'=>e=.returned v/\∃q os,w'=Sort.grow (w.drewN q) os:=
 (zhP h fun _ _ h=>⟨v,h.1⟩).mono fun _ _ h=>⟨h.1.1,zoe _ _ h.1.2 h.2⟩
end Go.Proofs.YtaeiifngjglchaaGreatDoor.Dr
end
section
namespace Go.Proofs.YtaeiifngjglchaaGreatDoor.Tv
open Go.Proofs.Tryz
open Go.Lib
structure Hd (l:Bs) (c n:Nat):Prop where
 dec:decodeL l=(c,n)
 enc:encodeRune (c:Int)=l.take n
 len:runeLen (c:Int)=n
 val:Lib.validRune (c:Int)=true
 pos:1<=n
 le:n<=l.length
 rest:validD (l.drop n)=true
 asc:c<128->n=1/\l.take 1=[UInt8.ofNat c]
 high:128<=c->∀b∈l.take n,128<=b
theorem Hd.of (l:Bs) (hne:l≠[]) (hv:validD l=true):∃c n,Hd l c n:=by
 rw[validD_step l hne]at hv;by_cases hb:(decodeL l).1=65533/\(decodeL l).2=1
 · rw[if_pos hb]at hv;cases hv
 · rw[if_neg hb]at hv;have he:=encode_decode l hne hb;have hle:=decodeL_le l hne;have hw:=decodeL_width l;have k0:=(l.getD 0 0).toNat_lt;have k1:=(l.getD 1 0).toNat_lt;have k2:=(l.getD 2 0).toNat_lt;have k3:=(l.getD 3 0).toNat_lt;have hsh:Lib.validRune ((decodeL l).1:Int)=true/\runeLen ((decodeL l).1:Int)=(decodeL l).2/\((decodeL l).1<128->(decodeL l).2=1):=by
    rw[decodeL_N]at hb ⊢;rcases decodeN_shape l.length (l.getD 0 0).toNat (l.getD 1 0).toNat (l.getD 2 0).toNat (l.getD 3 0).toNat with ⟨c,e⟩ | ⟨c1,c2,c3,cv,e⟩ | ⟨c1,c2,c3,c4,cv,cs,e⟩ | ⟨c1,c2,c3,c4,c5,cv,cw,e⟩ | e;all_goals (rw[e]at hb ⊢;dsimp only at hb ⊢)
    · refine ⟨dT (by omega),?_,fun _=>rfl⟩;unfold runeLen;rw[if_neg (by omega),if_pos (by omega)];rfl
    · refine ⟨dT (by omega),?_,fun _=>by omega⟩;unfold runeLen;rw[if_neg (by omega),if_neg (by omega),if_pos (by omega)];rfl
    · refine ⟨dT (by omega),?_,fun _=>by omega⟩;unfold runeLen;rw[if_neg (by omega),if_neg (by omega),if_neg (by omega),if_neg (by omega),if_pos (by omega)];rfl
    · refine ⟨dT (by omega),?_,fun _=>by omega⟩;unfold runeLen;rw[if_neg (by omega),if_neg (by omega),if_neg (by omega),if_neg (by omega),if_neg (by omega),if_pos (by omega)];rfl
    · exact absurd ⟨rfl,rfl⟩ hb
   refine ⟨(decodeL l).1,(decodeL l).2,rfl,he,hsh.2.1,hsh.1,hw,hle,hv,fun h=>?_,fun h b hbm=>?_⟩
   · have h1:=hsh.2.2 h;refine ⟨h1,?_⟩;rw[h1]at he;rw[<-he];exact zd0 _ h
   · rw[<-he]at hbm;unfold encodeRune encodeRuneZ at hbm;have hm:(decodeL l).1<=1114111:=decodeL_rune l;generalize (decodeL l).1=c at h hbm hm;have key:∀z:Int,128<=z->z<256->(128:UInt8)<=z.toNat.toUInt8:=fun z h1 h2=>by
      rw[UInt8.le_iff_toNat_le];show 128<=(UInt8.ofNat z.toNat).toNat;rw[UInt8.toNat_ofNat'];omega
     rw[if_neg (by omega)]at hbm;repeat' split at hbm
     all_goals
      simp only[List.map_cons,List.map_nil,List.mem_cons,List.not_mem_nil,or_false]at hbm
     · rcases hbm with rfl | rfl<;>exact key _ (by omega) (by omega)
     · rcases hbm with rfl | rfl | rfl<;>exact key _ (by omega) (by omega)
     · rcases hbm with rfl | rfl | rfl | rfl<;>exact key _ (by omega) (by omega)
     · rcases hbm with rfl | rfl | rfl<;>exact key _ (by omega) (by omega)
theorem zc0:∀(n v:Nat) (l:Bs) (v':Nat) (r:Bs),hexN n v l=some (v',r)->r.length+n=l.length/\v<=v'
 | 0,v,l,v',r,h=>by
  simp only[hexN,Option.some.injEq,Prod.mk.injEq]at h;obtain ⟨rfl,rfl⟩:=h;exact ⟨rfl,nL⟩
 | n+1,v,[],v',r,h=>by simp[hexN]at h
 | n+1,v,c::l,v',r,h=>by
  simp only[hexN]at h;cases hd:dig c with
  | none=>rw[hd]at h;simp at h
  | some d=>
   rw[hd,Option.bind_some]at h;have:=zc0 n _ l v' r h;simp only[List.length_cons];omega
theorem znh (c:UInt8) (d:Nat) (h:dig c=some d):d<16/\c<128:=by
 unfold dig at h;have hc:=c.toNat_lt;repeat' split at h
 all_goals (try cases h)
 all_goals
  rename_i h1
  first
   | (obtain ⟨h1,h2⟩:=h1
      rw[UInt8.le_iff_toNat_le]at h1 h2;rw[UInt8.lt_iff_toNat_lt];simp at h1 h2;constructor
      · omega
      · show c.toNat<128;omega)
theorem zkf (n:Nat) (l t r:Bs) (h:num n l=some (t,r)):r.length+n=l.length/\t.length<=4:=by
 unfold num at h;cases hx:hexN n 0 l with
 | none=>rw[hx]at h;simp at h
 | some p=>
  rw[hx,Option.bind_some]at h;split at h
  · simp only[Option.some.injEq,Prod.mk.injEq]at h;obtain ⟨rfl,rfl⟩:=h;refine ⟨(zc0 n 0 l p.1 p.2 hx).1,?_⟩;rw[<-runeCells_length];exact runeCells_le _
  · cases h
 where
 runeCells_le (r:Int):(runeCells r).length<=4:=by
  have:=(encodeRuneZ_length r).2;simpa [runeCells] using this
theorem zcD (lit:Bool) (l t r:Bs) (h:esc lit l=some (t,r)):r.length<l.length/\t.length<=4:=by
 cases l with
 | nil=>simp[esc]at h
 | cons c l=>
  simp only[esc]at h;split at h
  · have:=zkf 4 l t r h;simp only[List.length_cons];omega
  · split at h
    · have:=zkf 8 l t r h;simp only[List.length_cons];omega
    · split at h
      · cases hu:unesc c with
        | none=>rw[hu]at h;simp at h
        | some d=>
         rw[hu]at h;simp only[Option.map_some,Option.some.injEq,Prod.mk.injEq]at h;obtain ⟨rfl,rfl⟩:=h;simp
      · cases h
theorem zdc (nl:Bool) (e:UInt8) (lit:Bool):∀(n m:Nat) (l:Bs),l.length<n->l.length<m->untl n nl e lit l=untl m nl e lit l
 | 0,_,l,h,_=>by omega
 | _,0,l,_,h=>by omega
 | n+1,m+1,[],_,_=>rfl
 | n+1,m+1,c::l,h1,h2=>by
  simp only[List.length_cons]at h1 h2;simp only[untl];split
  · rfl
  · split
    · cases he:esc lit l with
      | none=>rfl
      | some p=>
       have:=zcD lit l p.1 p.2 he;rw[Option.bind_some,Option.bind_some,zdc nl e lit n m p.2 (by omega) (by omega)]
    · split
      · rfl
      · rw[zdc nl e lit n m l (by omega) (by omega)]
theorem zhW (nl:Bool) (e:UInt8) (lit:Bool) (l:Bs):upTo nl e lit (e::l)=some ([],l):=by simp[upTo,untl]
theorem zhV (nl:Bool) (e:UInt8) (lit:Bool) (l:Bs) (he:e≠92):upTo nl e lit (92::l)=(esc lit l).bind fun p=>(upTo nl e lit p.2).map fun q=>(p.1++q.1,q.2):=by
 unfold upTo;simp only[List.length_cons,untl];rw[if_neg (Ne.symm he),if_pos trivial];cases hx:esc lit l with
 | none=>rfl
 | some p=>
  have:=zcD lit l p.1 p.2 hx;rw[Option.bind_some,Option.bind_some,zdc nl e lit (l.length+1) (p.2.length+1) p.2 (by omega) (by omega)]
theorem zjz (e:UInt8) (lit:Bool) (c:UInt8) (l:Bs) (he:c≠e) (hb:c≠92) (hn:c=10\/c=13):upTo true e lit (c::l)=none:=by
 simp only[upTo,untl];rw[if_neg he,if_neg hb,if_pos ⟨trivial,hn⟩]
theorem zdb (nl:Bool) (e:UInt8) (lit:Bool) (c:UInt8) (l:Bs) (he:c≠e) (hb:c≠92) (hn:¬(nl=true/\(c=10\/c=13))):upTo nl e lit (c::l)=(upTo nl e lit l).map fun q=>(c::q.1,q.2):=by
 unfold upTo;simp only[List.length_cons,untl];rw[if_neg he,if_neg hb,if_neg hn]
theorem zfJ (nl:Bool) (e:UInt8) (lit:Bool) (he:e<128):∀(t r:Bs),(∀b∈t,(128:UInt8)<=b)->upTo nl e lit (t++r)=(upTo nl e lit r).map fun q=>(t++q.1,q.2)
 | [],r,_=>by simp
 | c::t,r,h=>by
  have hc:=h c List.mem_cons_self;have ne:∀d:UInt8,d<128->c≠d:=fun d hd hcd=>by
   subst hcd;rw[UInt8.le_iff_toNat_le]at hc;rw[UInt8.lt_iff_toNat_lt]at hd;exact absurd hd (Nat.not_lt.2 hc)
  have hn:¬(nl=true/\(c=10\/c=13)):=fun h=>by
   rcases h.2 with h | h
   · exact ne 10 (by decide) h
   · exact ne 13 (by decide) h
  show upTo nl e lit (c::(t++r))=_;rw[zdb nl e lit c _ (ne e he) (ne 92 (by decide)) hn,zfJ nl e lit he t r (fun b hb=>h b (List.mem_cons_of_mem _ hb))];cases upTo nl e lit r<;>rfl
theorem Hd.one {l:Bs} {c n:Nat} (h:Hd l c n) (hc:c<128):∃r,l=UInt8.ofNat c::r/\l.drop n=r/\n=1:=by
 obtain ⟨h1,h2⟩:=h.asc hc;subst h1;have:=List.take_append_drop 1 l;rw[h2]at this;exact ⟨l.drop 1,this.symm,rfl,rfl⟩
structure Asc (p:Nat->Bool) (q:UInt8->Bool):Prop where
 low:∀b:UInt8,b.toNat<128->p b.toNat=q b
 high:∀b:UInt8,128<=b.toNat->q b=false
 no:∀c:Nat,128<=c->p c=false
theorem zcP (b:UInt8) (l:Bs) (h:128<=b.toNat):128<=(decodeL (b::l)).1:=by
 rw[decodeL_N];have k0:=b.toNat_lt;simp only[List.getD_cons_zero];rcases decodeN_shape (b::l).length b.toNat ((b::l).getD 1 0).toNat ((b::l).getD 2 0).toNat ((b::l).getD 3 0).toNat with ⟨c,e⟩ | ⟨c1,c2,c3,cv,e⟩ | ⟨c1,c2,c3,c4,cv,cs,e⟩ | ⟨c1,c2,c3,c4,c5,cv,cw,e⟩ | e;all_goals (rw[e];dsimp only;omega)
theorem zkE (p:Nat->Bool) (q:UInt8->Bool) (h:Asc p q) (s:ByteArray):∀(f pos:Nat),s.size<=pos+f->pos<=s.size->
    idxFuncFrom p false s f pos=if ((s.data.toList.drop pos).dropWhile q)=[] then -1 else ((pos+((s.data.toList.drop pos).takeWhile q).length:Nat):Int)
 | 0,pos,h1,h2=>by
  have:s.data.toList.drop pos=[]:=List.drop_eq_nil_of_le (by rw[Array.length_toList];exact h1);rw[this];rfl
 | f+1,pos,h1,h2=>by
  unfold idxFuncFrom;have hlen:s.data.toList.length=s.size:=Array.length_toList;by_cases hp:pos<s.size
  · rw[if_pos hp];have hd:=List.drop_eq_getElem_cons (l:=s.data.toList) (i:=pos) (by rw[hlen];exact hp);rw[<-decodeL_drop s pos,hd];generalize s.data.toList[pos]=b at hd;by_cases hb:b.toNat<128
    · rw[decodeL_ascii b _ hb];simp only;rw[h.low b hb];cases hq:q b with
      | false=>simp[hq]
      | true=>
       have ih:=zkE p q h s f (pos+1) (by omega) (by omega);rw[if_neg (by simp),ih];simp only[List.dropWhile_cons,hq,if_true,List.takeWhile_cons,List.length_cons];split
       · rfl
       · congr 1
         omega
    · have h3:=zcP b (s.data.toList.drop (pos+1)) (by omega);rw[h.no _ h3];have h4:=h.high b (by omega);simp[h4]
  · have:s.data.toList.drop pos=[]:=List.drop_eq_nil_of_le (by rw[hlen];omega);rw[if_neg hp,this];rfl
theorem zd1 (q:UInt8->Bool) (l:Bs):l.drop (l.takeWhile q).length=l.dropWhile q:=by
 conv=>lhs;rw[<-List.takeWhile_append_dropWhile (p:=q) (l:=l)]
 rw[List.takeWhile_append_dropWhile];induction l with
 | nil=>rfl
 | cons c l ih=>
  simp only[List.takeWhile_cons,List.dropWhile_cons];split
  · simpa using ih
  · rfl
theorem zlu (p:Nat->Bool) (q:UInt8->Bool) (h:Asc p q) (l:Bs):trimLeftF p ⟨l.toArray⟩=⟨(l.dropWhile q).toArray⟩:=by
 have hs:(⟨l.toArray⟩:ByteArray).size=l.length:=(by simp[ByteArray.size]);have e:=zkE p q h ⟨l.toArray⟩ l.length 0 (by rw[hs];omega) (by omega);have el:(⟨l.toArray⟩:ByteArray).data.toList=l:=(by simp);rw[el,List.drop_zero]at e;unfold trimLeftF idxFunc;rw[hs,e];by_cases hd:l.dropWhile q=[]
 · rw[if_pos hd,if_pos rfl,hd]
 · rw[if_neg hd,if_neg (by omega),Nat.zero_add,Int.toNat_natCast];apply ByteArray.ext;rw[ByteArray.data_extract];apply Array.toList_inj.1;rw[Array.toList_extract];simp only[List.extract_eq_take_drop];rw[List.take_of_length_le (by simp)];exact zd1 q l
def allF (q:Nat->Bool):Nat->Bs->Bool
 | 0,_=>true
 | n+1,l=>if l=[] then true else q (decodeL l).1 && allF q n (l.drop (decodeL l).2)
def allR (q:Nat->Bool) (l:Bs):Bool:=allF q l.length l
theorem zkF (q:Nat->Bool) (s:ByteArray):∀(f pos:Nat),pos<=s.size->decide (0<=idxFuncFrom (fun c=>!q c) true s f pos) = !allF q f (s.data.toList.drop pos)
 | 0,pos,_=>by simp[idxFuncFrom,allF]
 | f+1,pos,h2=>by
  have hlen:s.data.toList.length=s.size:=Array.length_toList;unfold idxFuncFrom allF;by_cases hp:pos<s.size
  · have hne:s.data.toList.drop pos≠[]:=by
     intro h;have:=List.length_drop (i:=pos) (l:=s.data.toList);rw[h,hlen]at this;simp at this;omega
    rw[if_pos hp,if_neg hne,decodeL_drop s pos];have hle:=decodeL_le _ hne;rw[decodeL_drop,List.length_drop,hlen]at hle;cases hq:q (Utf8.decode s pos).1 with
    | false=>
     rw[if_pos (by simp)];simp
    | true=>
     rw[if_neg (by simp)];have ih:=zkF q s f (pos+(Utf8.decode s pos).2) (by omega);rw[ih,List.drop_drop];simp
  · have:s.data.toList.drop pos=[]:=List.drop_eq_nil_of_le (by rw[hlen];omega);rw[if_neg hp,this,if_pos rfl];rfl
theorem ziG (p:Nat->Bool) (q:UInt8->Bool) (h:Asc p q):∀(n:Nat) (l:Bs),l.length<=n->allF p n l=l.all q
 | 0,l,hn=>by
  obtain rfl:l=[]:=List.eq_nil_of_length_eq_zero (by omega);rfl
 | n+1,[],_=>rfl
 | n+1,b::l,hn=>by
  unfold allF;rw[if_neg (by simp)];by_cases hb:b.toNat<128
  · rw[decodeL_ascii b l hb];simp only[List.length_cons]at hn;simp only[List.drop_succ_cons,List.drop_zero,List.all_cons];rw[h.low b hb,ziG p q h n l (by omega)]
  · rw[h.no _ (zcP b l (by omega)),List.all_cons,h.high b (by omega)];rfl
theorem zcr (p:Nat->Bool) (q:UInt8->Bool) (h:Asc p q) (l:Bs):allR p l=l.all q:=ziG p q h _ l nL
def parts:Bs->List Bs
 | []=>[[]]
 | c::l=>if c=45 then []::parts l else match parts l with
  | x::r=>(c::x)::r
  | []=>[[c]]
theorem zbI (c d:UInt8) (l:Bs):index (c::l) [d]=if c=d then 0 else if index l [d] = -1 then -1 else index l [d]+1:=by
 rw[index_one,index_one]
 conv=>lhs;unfold indexByte
 simp
theorem index_ge (d:UInt8) (l:Bs) : -1<=index l [d]:=by rw[index_one];exact indexByte_ge l d
theorem zdw:∀l:Bs,splitK [45] 0 (count l [45]) l=parts l
 | []=>by
  have:count ([]:Bs) [45]=0:=count_miss rfl;rw[this];rfl
 | c::l=>by
  have ih:=zdw l;have hi:=zbI c 45 l;unfold parts;by_cases hc:c=45
  · rw[if_pos hc]at hi ⊢;rw[count_hit (i:=0) (by simp) hi,Nat.add_comm];unfold splitK;rw[hi,if_neg (by decide)];show []::splitK [45] 0 (count l [45]) l=_;rw[ih]
  · rw[if_neg hc]at hi ⊢;by_cases hn:index l [45] = -1
    · rw[if_pos hn]at hi;rw[count_miss hn]at ih;rw[count_miss hi,<-ih];rfl
    · rw[if_neg hn]at hi;obtain ⟨i,hi2⟩:∃i:Nat,index l [45]=i:=⟨(index l [45]).toNat,by have:=index_ge 45 l;omega⟩;rw[hi2]at hi;have e1:((index (c::l) [45]).toNat)=i+1:=(by rw[hi];omega);have e2:((index l [45]).toNat)=i:=(by rw[hi2];omega);have hb1:¬(index (c::l) [45] == -1)=true:=fun e=>(by have:=beq_iff_eq.1 e;omega);have hb2:¬(index l [45] == -1)=true:=fun e=>(by have:=beq_iff_eq.1 e;omega);rw[count_hit (by simp) hi2,Nat.add_comm]at ih;rw[count_hit (i:=i+1) (by simp) (by rw[hi];omega),Nat.add_comm];unfold splitK at ih ⊢;rw[if_neg hb2,e2]at ih;rw[if_neg hb1,e1,<-ih];rfl
theorem zi2 (l:Bs):∀c∈l,c=45\/∃x∈parts l,c∈x:=by
 induction l with
 | nil=>intro c hc;cases hc
 | cons d l ih=>
  intro c hc;unfold parts;by_cases hd:d=45
  · rw[if_pos hd];rcases List.mem_cons.1 hc with rfl | hc
    · exact .inl hd
    · rcases ih c hc with h | ⟨x,hx,hcx⟩
      · exact .inl h
      · exact .inr ⟨x,List.mem_cons_of_mem _ hx,hcx⟩
  · rw[if_neg hd];cases hp:parts l with
    | nil=>
     rw[hp]at ih;rcases List.mem_cons.1 hc with rfl | hc
     · exact .inr ⟨[c],by simp,by simp⟩
     · rcases ih c hc with h | ⟨x,hx,_⟩
       · exact .inl h
       · cases hx
    | cons y r=>
     rw[hp]at ih;rcases List.mem_cons.1 hc with rfl | hc
     · exact .inr ⟨c::y,by simp,by simp⟩
     · rcases ih c hc with h | ⟨x,hx,hcx⟩
       · exact .inl h
       · rcases List.mem_cons.1 hx with rfl | hx
         · exact .inr ⟨d::x,by simp,by simp[hcx]⟩
         · exact .inr ⟨x,by simp[hx],hcx⟩
def smallR (x:Nat):Bool:=decide (97<=x) && decide (x<=122)
def digitR (x:Nat):Bool:=decide (48<=x) && decide (x<=57)
def bigR (x:Nat):Bool:=decide (65<=x) && decide (x<=90)
def letterR (x:Nat):Bool:=smallR x || bigR x
def alR (x:Nat):Bool:=letterR x || digitR x
def tagR (x:Nat):Bool:=alR x || decide (x=45)
def oddL:Bs:=[34,60,62,92,94,96,123,124,125]
def oddR (x:Nat):Bool:=decide (0<=Lib.indexByte oddL x.toUInt8)
def iriR (x:Nat):Bool:=(decide (32<x) && decide (x<127) && !oddR x) || decide (160<=x)
def langR (i:Nat) (x:Nat):Bool:=smallR x || (decide (0<i) && digitR x)
def iriT (l:Bs):Bool:=decide (l≠[]) && decide (l.length<=60) && validD l && allR iriR l
def labT (l:Bs):Bool:=decide (l≠[]) && decide (l.length<=8) && allR alR l
def partT (i:Nat) (x:Bs):Bool:=decide (x≠[]) && decide (x.length<=8) && allR (langR i) x
def partsT:Nat->List Bs->Bool
 | _,[]=>true
 | i,x::r=>partT i x && partsT (i+1) r
def langT (l:Bs):Bool:=partsT 0 (parts l) && decide (l.length<=16)
def txtT (l:Bs):Bool:=decide (l.length<=30) && validD l
def tmT (t:Tm):Bool:=
 if t.k=1 then iriT t.x && decide (t.e=[]) else if t.k=2 then labT t.x && decide (t.e=[]) else if t.k=3 then txtT t.x && decide (t.e=[])
 else if t.k=4 then txtT t.x && langT t.e else if t.k=5 then txtT t.x && iriT t.e else false
theorem zfE:Asc alR isAl:=by
 refine ⟨fun b _=>?_,fun b h=>?_,fun c h=>?_⟩
 · refine zas b (fun b=>alR b.toNat=isAl b) ?_;decide +kernel
 · cases ha:isAl b with
   | false=>rfl
   | true=>
    exfalso;have:alR b.toNat=isAl b:=zas b (fun b=>alR b.toNat=isAl b) (by decide +kernel);rw[ha]at this;simp[alR,letterR,smallR,bigR,digitR]at this;omega
 · simp[alR,letterR,smallR,bigR,digitR];omega
theorem ze5:Asc tagR isTag:=by
 refine ⟨fun b _=>?_,fun b h=>?_,fun c h=>?_⟩
 · refine zas b (fun b=>tagR b.toNat=isTag b) ?_;decide +kernel
 · cases ha:isTag b with
   | false=>rfl
   | true=>
    exfalso;have:tagR b.toNat=isTag b:=zas b (fun b=>tagR b.toNat=isTag b) (by decide +kernel);rw[ha]at this;simp[tagR,alR,letterR,smallR,bigR,digitR]at this;omega
 · simp[tagR,alR,letterR,smallR,bigR,digitR];omega
def lgB (i:Nat) (b:UInt8):Bool:=langR i b.toNat
theorem zdP (i:Nat):Asc (langR i) (lgB i):=by
 refine ⟨fun b _=>rfl,fun b h=>?_,fun c h=>?_⟩
 · simp[lgB,langR,smallR,digitR];omega
 · simp[langR,smallR,digitR];omega
theorem zn8:∀(n:Nat) (l:Bs),l.length<=n->validD l=true->allF iriR n l=true->∀c∈l,c≠62/\c≠92/\c≠10/\c≠13:=by
 intro n;induction n with
 | zero=>
  intro l hl _ _ c hc;have:l=[]:=List.eq_nil_of_length_eq_zero (by omega);rw[this]at hc;cases hc
 | succ n ih=>
  intro l hl hv h c hc;by_cases hne:l=[]
  · rw[hne]at hc;cases hc
  · unfold allF at h;rw[if_neg hne,Bool.and_eq_true]at h;obtain ⟨x,m,hd⟩:=Hd.of l hne hv;rw[hd.dec]at h;have hpos:=hd.pos;have hsplit:c∈l.take m\/c∈l.drop m:=by
     rw[<-List.mem_append,List.take_append_drop];exact hc
    rcases hsplit with h3 | h3
    · by_cases hx:x<128
      · obtain ⟨h4,h5⟩:=hd.asc hx;rw[h4,h5]at h3;rw[List.mem_singleton]at h3;have hall:∀c:UInt8,iriR c.toNat=true->c≠62/\c≠92/\c≠10/\c≠13:=fun c=>zas c (fun c=>iriR c.toNat=true->c≠62/\c≠92/\c≠10/\c≠13) (by decide +kernel);refine hall c ?_;rw[h3,UInt8.toNat_ofNat',Nat.mod_eq_of_lt (by omega)];exact h.1
      · have:=hd.high (by omega) c h3;refine ⟨?_,?_,?_,?_⟩<;>(rintro rfl;revert this;decide)
    · exact ih _ (by rw[List.length_drop];omega) hd.rest h.2 c h3
theorem zck (l:Bs) (h:iriT l=true):∀c∈l,c≠62/\c≠92/\c≠10/\c≠13:=by
 unfold iriT at h;simp only[Bool.and_eq_true]at h;exact zn8 _ l nL h.1.2 h.2
theorem zja (l:Bs) (h:langT l=true):∀c∈l,isTag c=true/\low c=c:=by
 intro c hc;unfold langT at h;rw[Bool.and_eq_true]at h;rcases zi2 l c hc with rfl | ⟨x,hx,hcx⟩
 · decide
 · have key:∀(ps:List Bs) (i:Nat),partsT i ps=true->x∈ps->∃j,allR (langR j) x=true:=by
    intro ps;induction ps with
    | nil=>intro i _ h;cases h
    | cons y r ih=>
     intro i h1 h2;unfold partsT at h1;rw[Bool.and_eq_true]at h1;rcases List.mem_cons.1 h2 with rfl | h2
     · have:=h1.1;unfold partT at this;rw[Bool.and_eq_true]at this;exact ⟨i,this.2⟩
     · exact ih _ h1.2 h2
   obtain ⟨j,hj⟩:=key _ 0 h.1 hx;rw[zcr _ _ (zdP j),List.all_eq_true]at hj;have h1:=hj c hcx;unfold lgB langR at h1;have h2:(smallR c.toNat || digitR c.toNat)=true:=by
    cases hs:smallR c.toNat with
    | true=>rfl
    | false=>
     rw[hs]at h1;simp at h1;simp[h1.2]
   exact zas c (fun c=>(smallR c.toNat || digitR c.toNat)=true->isTag c=true/\low c=c) (by decide +kernel) h2
theorem zkx (l:Bs) (h:labT l=true):∀c∈l,isAl c=true:=by
 unfold labT at h;rw[Bool.and_eq_true,zcr _ _ zfE,List.all_eq_true]at h;exact h.2
theorem za8 (t:Tm) (h:tmT t=true):Fit t:=by
 obtain ⟨k,x,e⟩:=t;unfold tmT at h;simp only at h;by_cases h1:k=1
 · subst h1;simp at h;exact ⟨.inl rfl,fun _=>zck x h.1,fun h=>by simp at h,fun _=>h.2,fun h=>by simp at h,fun h=>by simp at h⟩
 rw[if_neg h1]at h;by_cases h2:k=2
 · subst h2;simp at h;exact ⟨.inr (.inl rfl),fun h=>by simp at h,fun _=>zkx x h.1,fun _=>h.2,fun h=>by simp at h,fun h=>by simp at h⟩
 rw[if_neg h2]at h;by_cases h3:k=3
 · subst h3;simp at h;exact ⟨.inr (.inr (.inl rfl)),fun h=>by simp at h,fun h=>by simp at h,fun _=>h.2,fun h=>by simp at h,fun h=>by simp at h⟩
 rw[if_neg h3]at h;by_cases h4:k=4
 · subst h4;simp at h;exact ⟨.inr (.inr (.inr (.inl rfl))),fun h=>by simp at h,fun h=>by simp at h,fun h=>by simp at h,fun _=>zja e h.2,fun h=>by simp at h⟩
 rw[if_neg h4]at h;by_cases h5:k=5
 · subst h5;simp at h;exact ⟨.inr (.inr (.inr (.inr rfl))),fun h=>by simp at h,fun h=>by simp at h,fun h=>by simp at h,fun h=>by simp at h,fun _=>zck e h.2⟩
 rw[if_neg h5]at h;cases h
def smB (c:UInt8):Bool:=decide (97<=c) && decide (c<=122)
def dgB (c:UInt8):Bool:=decide (48<=c) && decide (c<=57)
def lgGo:Nat->Nat->Bs->Bool
 | _,n,[]=>decide (0<n)
 | p,n,c::l=>if c=45/\0<n then lgGo (p+1) 0 l else if smB c || (dgB c && decide (0<p)) then (if 8<n+1 then false else lgGo p (n+1) l) else false
theorem lgB_eq (p:Nat) (c:UInt8):lgB p c=(smB c || (dgB c && decide (0<p))):=by
 unfold lgB langR;have h1:smallR c.toNat=smB c:=zas c (fun c=>smallR c.toNat=smB c) (by decide +kernel);have h2:digitR c.toNat=dgB c:=zas c (fun c=>digitR c.toNat=dgB c) (by decide +kernel);rw[h1,h2,Bool.and_comm (dgB c)]
theorem lg45 (p:Nat):(smB 45 || (dgB 45 && decide (0<p)))=false:=by
 have h1:smB 45=false:=(by decide);have h2:dgB 45=false:=(by decide);rw[h1,h2];rfl
theorem zie (l:Bs):∃x r,parts l=x::r:=by
 cases l with
 | nil=>exact ⟨[],[],rfl⟩
 | cons c l=>
  unfold parts;split
  · exact ⟨_,_,rfl⟩
  · split
    · exact ⟨_,_,rfl⟩
    · exact ⟨_,_,rfl⟩
theorem zfo:∀(l:Bs) (p n:Nat),n<=8->∀x r,parts l=x::r->lgGo p n l=((decide (0<n+x.length) && decide (n+x.length<=8) && x.all (lgB p)) && partsT (p+1) r)
 | [],p,n,hn,x,r,h=>by
  unfold parts at h;injection h with h1 h2;subst h1;subst h2
  simp[lgGo,partsT,hn]
 | c::l,p,n,hn,x,r,h=>by
  obtain ⟨y,s,hy⟩:=zie l;unfold parts at h;unfold lgGo;by_cases hc:c=45
  · rw[if_pos hc]at h;injection h with h1 h2;subst h1;subst h2
    by_cases h0:0<n
    · rw[if_pos ⟨hc,h0⟩,zfo l (p+1) 0 (by omega) y s hy,hy];show _=(_ && partsT (p+1) (y::s))
      conv=>rhs;unfold partsT
      have e1:partT (p+1) y=(decide (0<0+y.length) && decide (0+y.length<=8) && y.all (lgB (p+1))):=by
       unfold partT;rw[zcr _ _ (zdP (p+1)),Nat.zero_add]
       congr 2
       cases y<;>simp
      rw[e1];simp[h0,hn]
    · rw[if_neg (fun h=>h0 h.2),hc,lg45,if_neg (by decide)];simp[h0]
  · rw[if_neg hc,hy]at h;injection h with h1 h2;subst h1;subst h2
    rw[if_neg (fun h=>hc h.1),List.all_cons,lgB_eq p c];cases hv:(smB c || (dgB c && decide (0<p))) with
    | false=>simp
    | true=>
     rw[if_pos rfl];by_cases h8:8<n+1
     · rw[if_pos h8];have:decide (n+(c::y).length<=8)=false:=dF (by simp only[List.length_cons];omega);rw[this];simp
     · rw[if_neg h8,zfo l p (n+1) (by omega) y s hy];have e:n+(c::y).length=n+1+y.length:=(by simp only[List.length_cons];omega);rw[e,Bool.true_and]
theorem zkv (l:Bs):(lgGo 0 0 l && decide (l.length<=16))=langT l:=by
 obtain ⟨x,r,h⟩:=zie l;unfold langT;rw[zfo l 0 0 (by omega) x r h,h]
 conv=>rhs;unfold partsT
 have e1:partT 0 x=(decide (0<0+x.length) && decide (0+x.length<=8) && x.all (lgB 0)):=by
  unfold partT;rw[zcr _ _ (zdP 0),Nat.zero_add]
  congr 2
  cases x<;>simp
 rw[e1]
def rnsF:Nat->Bs->List Nat
 | 0,_=>[]
 | n+1,l=>if l=[] then [] else (decodeL l).1::rnsF n (l.drop (decodeL l).2)
def rns (l:Bs):List Nat:=rnsF l.length l
theorem zh8 (q:Nat->Bool):∀(n:Nat) (l:Bs),allF q n l=(rnsF n l).all q
 | 0,l=>rfl
 | n+1,l=>by
  unfold allF rnsF;split
  · rfl
  · rw[List.all_cons,zh8 q n]
theorem znJ (q:Nat->Bool) (l:Bs):allR q l=(rns l).all q:=zh8 q _ l
theorem zex (s:ByteArray):∀(n i:Nat) (acc:Array Value),i<=s.size->Conv.runesFrom s n i acc=acc++((rnsF n (s.data.toList.drop i)).map fun (c:Nat)=>Value.int .i32 (c:Int)).toArray
 | 0,i,acc,_=>by simp[Conv.runesFrom,rnsF]
 | n+1,i,acc,hi=>by
  have hlen:s.data.toList.length=s.size:=Array.length_toList;unfold Conv.runesFrom rnsF;by_cases hp:i<s.size
  · have hne:s.data.toList.drop i≠[]:=by
     intro h;have:=List.length_drop (i:=i) (l:=s.data.toList);rw[h,hlen]at this;simp at this;omega
    have hle:=decodeL_le _ hne;rw[decodeL_drop,List.length_drop,hlen]at hle;rw[if_pos hp,if_neg hne,decodeL_drop s i,List.drop_drop];show Conv.runesFrom s n (i+(Utf8.decode s i).2) (acc.push (.int .i32 (Int.ofNat (Utf8.decode s i).1)))=_;rw[zex s n _ _ (by omega)];simp
  · have:s.data.toList.drop i=[]:=List.drop_eq_nil_of_le (by rw[hlen];omega);rw[if_neg hp,if_pos this];simp
theorem zlU (l:Bs):Conv.runesFrom ⟨l.toArray⟩ l.length 0 #[]=((rns l).map fun (c:Nat)=>Value.int .i32 (c:Int)).toArray:=by
 have:=zex ⟨l.toArray⟩ l.length 0 #[] (Nat.zero_le _);rw[this];simp[rns]
theorem zh7:∀(n:Nat) (l:Bs),(rnsF n l).length<=n
 | 0,l=>Nat.zero_le _
 | n+1,l=>by
  unfold rnsF;split
  · exact Nat.zero_le _
  · rw[List.length_cons];have:=zh7 n (l.drop (decodeL l).2);omega
theorem zj3 (l:Bs):(rns l).length<=l.length:=zh7 _ l
end Go.Proofs.YtaeiifngjglchaaGreatDoor.Tv
end
