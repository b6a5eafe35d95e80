/- Proved on the way: A region that draws its order: its first; Words for what a call leaves as it was; Words for what a call leaves as it was, ; What term.escaped, quoted, Show and Cmp ; What term.quoted writes; What term.Show and term.Cmp compute; Rows of structs: what a call owns, and w. Each theorem states its own conditions. -/
import Derived.StillTailTactics
import Derived.Lib.Hide
import Derived.WalkLawsBesides
import Derived.WalkSpells
import Derived.Test.YtaeiifngjglchaaGreatDoorPQ1
import Derived.Laws.AppendOwnNone
import Derived.Test.YtaeiifngjglchaaGreatDoorM1
import Derived.Deep.DrawnRows
import Derived.Shelf.SlSortCmp.KitK
set_option maxHeartbeats 16000000
set_option maxRecDepth 1000000
section
namespace Go.Proofs.YtaeiifngjglchaaGreatDoor
open Go.Proofs.Tryz
open Go Go.Sort
section
variable {P:Program} {ops:Array Oper} {md:Region.Mode} {C:World->Prop}
def HeadQ (P:Program) (md:Region.Mode) (ops:Array Oper) (C:World->Prop) (n:Nat) (L:Array Bool->Act->Prop):Nat->Array Bool->Act->Prop
 | 0,listed,a=>L listed a
 | f+1,listed,a=>Region.ready md ops listed≠[]/\∀i∈Region.ready md ops listed,i<n/\qOp P ops C i (HeadQ P md ops C n L f (listed.setIfInBounds i true)) a
theorem zb1 {n g:Nat} {L:Array Bool->Act->Prop} {Q':Exit->Act->World->Prop} (hL:∀listed a w,C w->L listed a->wpAny P md ops Q' g listed a w) :
    ∀(f:Nat) (listed:Array Bool) (a:Act) (w:World),C w->HeadQ P md ops C n L f listed a->wpAny P md ops Q' (f+g) listed a w
 | 0,listed,a,w,hw,h=>by rw[Nat.zero_add];exact hL _ _ _ hw h
 | f+1,listed,a,w,hw,h=>by
  rw[show f+1+g=(f+g)+1 by omega];exact ⟨fun h0=>absurd h0 h.1,fun i hi=>wpOp_of_qOp hw (fun a' w' hw' h'=>zb1 hL f _ a' w' hw' h') (h.2 i hi).2⟩
theorem zh9 {n i:Nat} {listed:Array Bool} (hs:Region.sinkB md ops n=true) (hc:Region.chainB md ops n=true) (hn:n<ops.size) (hin:i<n) (inv:HeadInv md ops n listed) (hr:i∈Region.ready md ops listed) {j:Nat} (hj:j∈Region.ready md ops listed):j<n:=
 Decidable.byContradiction fun h=>tail_waits hs hc hn inv _ i rfl hin (mem_ready.1 hr).1 j (by omega) hj
theorem zjj {n i:Nat} {oi:Oper} {v:Value} {L:Array Bool->Act->Prop} (hi:ops[i]?=some oi) (hsel:∀(j:Nat) (o:Oper) cs b,ops[j]?=some o->o.op≠.select cs b)
    (hs:Region.sinkB md ops n=true) (hc:Region.chainB md ops n=true) (hn:n<ops.size) (hin:i<n) (hdone:∀listed a,L listed a->∀j∈Region.ready md ops listed,n<=j) :
    ∀(f:Nat) (listed:Array Bool) (a:Act),HeadInv md ops n listed->
     (∀j oj,ops[j]?=some oj->j≠i->listed.getD j true=false->(∀e∈oj.after,Region.binds md e=true->e.on≠i)->oi.apart ops oj=true)->
     i∈Region.ready md ops listed->YieldsIn P ops C oi v a->
     HeadQ P md ops C n L f (listed.setIfInBounds i true) (a.put oi.dst v)->HeadQ P md ops C n L (f+1) listed a:=by
 intro f;induction f with
 | zero=>
  intro listed a inv _ hr hy H;refine ⟨fun h=>(by rw[h]at hr;cases hr),fun j hj=>?_⟩;have hjn:=zh9 hs hc hn hin inv hr hj;refine ⟨hjn,?_⟩;by_cases hji:j=i
  · subst hji;exact hy.qOp hi H
  · have:=hdone _ _ H j (ready_mono hj hji);omega
 | succ f ih=>
  intro listed a inv hfree hr hy H;refine ⟨fun h=>(by rw[h]at hr;cases hr),fun j hj=>?_⟩;have hjn:=zh9 hs hc hn hin inv hr hj;refine ⟨hjn,?_⟩;by_cases hji:j=i
  · subst hji;exact hy.qOp hi H
  · obtain ⟨hjun,oj,hoj,hall⟩:=mem_ready.1 hj;have hnot:∀e∈oj.after,Region.binds md e=true->e.on≠i:=fun e he hb heq=>by
     have h1:=hall e he hb;rw[heq,getD_both (mem_ready.1 hr).1]at h1;cases h1
    have h2:=qOp_put hoj (hfree j oj hoj hji hjun hnot) (fun cs b=>hsel i oi cs b hi) (fun cs b=>hsel j oj cs b hoj) hy (H.2 j (ready_mono hj hji)).2;refine qOp_mono (fun a' h3=>ih (listed.setIfInBounds j true) a' (inv.set hj hjn) (fun k ok hk hki hun hno=>?_) (ready_mono hr (Ne.symm hji)) h3.1 ?_) h2
    · refine hfree k ok hk hki ?_ hno;by_cases hjk:j=k
      · subst hjk;exact hjun
      · rw[getD_set_ne true hjk]at hun;exact hun
    · rw[Array.setIfInBounds_comm _ _ hji];exact h3.2
theorem zis {n g:Nat} {Lq:Act->Prop} (hsel:Region.noSelect ops=true) (hs:Region.sinkB md ops n=true) (hc:Region.chainB md ops n=true) (hn:n<ops.size) :
    ∀(l:List Oper) (k:Nat) (listed:Array Bool) (a:Act),(∀j,j<l.length->l[j]?=ops[k+j]?)->k+l.length=n->HeadInv md ops n listed->
    Region.lexHead md ops g l.length k listed=true->wpQuiet P ops C Lq l a->HeadQ P md ops C n (fun listed' a'=>Region.seqB md ops g n listed'=true/\Lq a') l.length listed a
 | [],k,listed,a,_,hk,_,hB,h=>by
  obtain rfl:k=n:=(by simpa using hk);exact ⟨by simpa [Region.lexHead] using hB,h⟩
 | o::l,k,listed,a,hl,hk,inv,hB,h=>by
  have h0:ops[k]?=some o:=(by simpa using (hl 0 (by simp)).symm);simp only[List.length_cons,Region.lexHead,Bool.and_eq_true]at hB;have hkn:k<n:=(by simp only[List.length_cons]at hk;omega);have hr':k∈Region.ready md ops listed:=(by simpa using hB.1.1);have hst:qOp P ops C k (wpQuiet P ops C Lq l) a:=(by unfold qOp;simp only[h0];exact h);obtain ⟨v,hy,hK⟩:=yieldsIn_of_qOp h0 hst
  exact zjj h0 (Region.noSelect_spec hsel) hs hc hn hkn (fun listed' a' hL=>seqB_ready hL.1) l.length listed a inv (Region.free_spec h0 hB.1.2) hr' hy
   (zis hsel hs hc hn l (k+1) _ _ (fun j hj=>by have:=hl (j+1) (by simp;omega);simpa [Nat.add_assoc,Nat.add_comm 1 j] using this) (by simp only[List.length_cons]at hk;omega) (inv.set hr' hkn) hB.2 hK)
theorem zcy {id:Nat} {Q:Exit->Act->World->Prop} {a:Act} {w:World} {l:List Oper} (n:Nat) (hm:P.follows .mixedOrders=true) (hB:Region.lexTailB .any l.toArray n=true) (hC:C w.drew)
    (h:wpQuiet P l.toArray C (fun a'=>∀w',C w'->wpList P l.toArray Q (l.drop n) a' w') (l.take n) a):(Code.region id l.toArray true).wp P Q a w:=by
 simp only[Region.lexTailB,Bool.and_eq_true,decide_eq_true_eq]at hB;obtain ⟨⟨⟨⟨hsel,hn⟩,hs⟩,hc⟩,hlex⟩:=hB;have hn':n<l.length:=(by simpa using hn);have htl:(l.take n).length=n:=(by simp;omega);have hdl:(l.drop n).length=l.toArray.size-n:=by simp
 have inv0:HeadInv .any l.toArray n (Array.replicate l.toArray.size false):=
  ⟨by simp,fun j oj _ hl=>(by rw[getD_replicate_false]at hl;cases hl),fun t _ ht=>getD_in (by simpa using ht) (getD_replicate_false _ _)⟩
 have H:=zis (md:=.any) (g:=l.toArray.size-n) hsel hs hc hn (l.take n) 0 _ a (fun j hj=>by
  have hj':j<n:=(by rw[htl]at hj;exact hj);simp[hj']) (by simpa using htl) inv0 (by rw[htl];exact hlex) h
 refine wp_region_any hm ?_;have:=zb1 (Q':=Q) (g:=l.toArray.size-n) (fun listed a' w' hw' hL=>by
  have:=wpAny_of_seq (md:=.any) (Q':=Q) (l.drop n) n listed a' w' (fun j=>by simp[List.getElem?_drop]) (by rw[hdl];exact hL.1) (hL.2 w' hw');rwa[hdl]at this) _ _ _ _ hC H
 rw[htl,show n+(l.toArray.size-n)=l.toArray.size by omega]at this;exact this
end
theorem zbj {P:Program} {id:Nat} {Q:Exit->Act->World->Prop} {a:Act} {w:World} {l:List Oper} (n:Nat) (hm:P.follows .mixedOrders=true) (hB:Region.lexTailB .any l.toArray n=true)
    (h:wpQuiet P l.toArray (fun w'=>∃p:GrownBy,w'=grow (w.drewN p.n) p.os) (fun a'=>∀w',(∃p:GrownBy,w'=grow (w.drewN p.n) p.os)->wpList P l.toArray Q (l.drop n) a' w') (l.take n) a):(Code.region id l.toArray true).wp P Q a w:=
 zcy n hm hB ⟨⟨1,#[]⟩,by rw[grow_empty];rfl⟩ h
section
variable {P:Program} {ops:Array Oper} {md:Region.Mode} {C:World->Prop}
def sinkF (md:Region.Mode) (ops:Array Oper) (m n:Nat):Bool:=
 (List.range n).all fun i=>decide (i<m) || (List.range (n+1)).any fun j=>decide (i<j) && Region.waitsFor md ops j i
theorem zfP {m n:Nat} {listed:Array Bool} (hs:sinkF md ops m n=true) (hc:Region.chainB md ops n=true) (hn:n<ops.size) (inv:HeadInv md ops n listed) :
    ∀(d i:Nat),n-i=d->i<n->m<=i->listed.getD i true=false->∀t,n<=t->t∉Region.ready md ops listed:=by
 intro d;induction d using Nat.strongRecOn with
 | _ d ih=>
  intro i hd hi hmi hun t ht hr;obtain ⟨_,ot,hot,hall⟩:=mem_ready.1 hr;have htlt:t<ops.size:=(Array.getElem?_eq_some_iff.1 hot).1;by_cases htn:t=n
  · subst htn;have h1:=List.all_eq_true.1 hs i (List.mem_range.2 hi);rw[dF (by omega),Bool.false_or]at h1;obtain ⟨j,hj,hj2⟩:=List.any_eq_true.1 h1;simp only[Bool.and_eq_true,decide_eq_true_eq]at hj2;obtain ⟨oj,hoj,e,he,hb,hon⟩:=Region.waitsFor_spec hj2.2;have hjle:j<=t:=(by have:=List.mem_range.1 hj;omega);by_cases hjt:j=t
    · subst hjt;have:oj=ot:=Option.some.inj (hoj.symm.trans hot);subst this;have h2:=hall e he hb;rw[hon,getD_both hun]at h2;cases h2
    · cases hl:listed.getD j false with
      | true=>
       have h2:=inv.closed j oj hoj hl e he hb;rw[hon,getD_both hun]at h2;cases h2
      | false=>
       have hjs:j<listed.size:=(by rw[inv.size];omega);exact ih (t-j) (by omega) j rfl (by omega) (by omega) (getD_in hjs hl) t nL hr
  · have h1:=List.all_eq_true.1 hc t (List.mem_range.2 htlt);simp only[Bool.or_eq_true,decide_eq_true_eq]at h1;rcases h1 with h1 | h1
    · omega
    · obtain ⟨o',ho',e,he,hb,hon⟩:=Region.waitsFor_spec h1;have:o'=ot:=Option.some.inj (ho'.symm.trans hot);subst this;have h2:=hall e he hb;rw[hon,getD_both (inv.tail (t-1) (by omega) (by omega))]at h2;cases h2
theorem zez {m n i:Nat} {listed:Array Bool} (hs:sinkF md ops m n=true) (hc:Region.chainB md ops n=true) (hn:n<ops.size) (hin:i<n) (hmi:m<=i) (inv:HeadInv md ops n listed) (hr:i∈Region.ready md ops listed) {j:Nat} (hj:j∈Region.ready md ops listed):j<n:=
 Decidable.byContradiction fun h=>zfP hs hc hn inv _ i rfl hin hmi (mem_ready.1 hr).1 j (by omega) hj
theorem zgq {m n i:Nat} {oi:Oper} {v:Value} {L:Array Bool->Act->Prop} (hi:ops[i]?=some oi) (hsel:∀(j:Nat) (o:Oper) cs b,ops[j]?=some o->o.op≠.select cs b)
    (hs:sinkF md ops m n=true) (hc:Region.chainB md ops n=true) (hn:n<ops.size) (hin:i<n) (hmi:m<=i) (hdone:∀listed a,L listed a->∀j∈Region.ready md ops listed,n<=j) :
    ∀(f:Nat) (listed:Array Bool) (a:Act),HeadInv md ops n listed->
     (∀j oj,ops[j]?=some oj->j≠i->listed.getD j true=false->(∀e∈oj.after,Region.binds md e=true->e.on≠i)->oi.apart ops oj=true)->
     i∈Region.ready md ops listed->YieldsIn P ops C oi v a->
     HeadQ P md ops C n L f (listed.setIfInBounds i true) (a.put oi.dst v)->HeadQ P md ops C n L (f+1) listed a:=by
 intro f;induction f with
 | zero=>
  intro listed a inv _ hr hy H;refine ⟨fun h=>(by rw[h]at hr;cases hr),fun j hj=>?_⟩;have hjn:=zez hs hc hn hin hmi inv hr hj;refine ⟨hjn,?_⟩;by_cases hji:j=i
  · subst hji;exact hy.qOp hi H
  · have:=hdone _ _ H j (ready_mono hj hji);omega
 | succ f ih=>
  intro listed a inv hfree hr hy H;refine ⟨fun h=>(by rw[h]at hr;cases hr),fun j hj=>?_⟩;have hjn:=zez hs hc hn hin hmi inv hr hj;refine ⟨hjn,?_⟩;by_cases hji:j=i
  · subst hji;exact hy.qOp hi H
  · obtain ⟨hjun,oj,hoj,hall⟩:=mem_ready.1 hj;have hnot:∀e∈oj.after,Region.binds md e=true->e.on≠i:=fun e he hb heq=>by
     have h1:=hall e he hb;rw[heq,getD_both (mem_ready.1 hr).1]at h1;cases h1
    have h2:=qOp_put hoj (hfree j oj hoj hji hjun hnot) (fun cs b=>hsel i oi cs b hi) (fun cs b=>hsel j oj cs b hoj) hy (H.2 j (ready_mono hj hji)).2;refine qOp_mono (fun a' h3=>ih (listed.setIfInBounds j true) a' (inv.set hj hjn) (fun k ok hk hki hun hno=>?_) (ready_mono hr (Ne.symm hji)) h3.1 ?_) h2
    · refine hfree k ok hk hki ?_ hno;by_cases hjk:j=k
      · subst hjk;exact hjun
      · rw[getD_set_ne true hjk]at hun;exact hun
    · rw[Array.setIfInBounds_comm _ _ hji];exact h3.2
theorem zeJ {m n g:Nat} {Lq:Act->Prop} (hsel:Region.noSelect ops=true) (hs:sinkF md ops m n=true) (hc:Region.chainB md ops n=true) (hn:n<ops.size) :
    ∀(l:List Oper) (k:Nat) (listed:Array Bool) (a:Act),(∀j,j<l.length->l[j]?=ops[k+j]?)->k+l.length=n->m<=k->HeadInv md ops n listed->
    Region.lexHead md ops g l.length k listed=true->wpQuiet P ops C Lq l a->HeadQ P md ops C n (fun listed' a'=>Region.seqB md ops g n listed'=true/\Lq a') l.length listed a
 | [],k,listed,a,_,hk,_,_,hB,h=>by
  obtain rfl:k=n:=(by simpa using hk);exact ⟨by simpa [Region.lexHead] using hB,h⟩
 | o::l,k,listed,a,hl,hk,hmk,inv,hB,h=>by
  have h0:ops[k]?=some o:=(by simpa using (hl 0 (by simp)).symm);simp only[List.length_cons,Region.lexHead,Bool.and_eq_true]at hB;have hkn:k<n:=(by simp only[List.length_cons]at hk;omega);have hr':k∈Region.ready md ops listed:=(by simpa using hB.1.1);have hst:qOp P ops C k (wpQuiet P ops C Lq l) a:=(by unfold qOp;simp only[h0];exact h);obtain ⟨v,hy,hK⟩:=yieldsIn_of_qOp h0 hst
  exact zgq h0 (Region.noSelect_spec hsel) hs hc hn hkn hmk (fun listed' a' hL=>seqB_ready hL.1) l.length listed a inv (Region.free_spec h0 hB.1.2) hr' hy
   (zeJ hsel hs hc hn l (k+1) _ _ (fun j hj=>by have:=hl (j+1) (by simp;omega);simpa [Nat.add_assoc,Nat.add_comm 1 j] using this) (by simp only[List.length_cons]at hk;omega) (by omega) (inv.set hr' hkn) hB.2 hK)
def lexTail1B (md:Region.Mode) (ops:Array Oper) (n:Nat):Bool:=
 Region.noSelect ops && decide (n<ops.size) && decide (0<n) && sinkF md ops 1 n && Region.chainB md ops n && Region.free md ops (Array.replicate ops.size false) 0 && (Region.ready md ops (Array.replicate ops.size false)).contains 0 &&
  Region.lexHead md ops (ops.size-n) (n-1) 1 ((Array.replicate ops.size false).setIfInBounds 0 true)
theorem zcc {id:Nat} {Q:Exit->Act->World->Prop} {a:Act} {w:World} {o:Oper} {l:List Oper} {v:Value} (n:Nat) (hm:P.follows .mixedOrders=true) (hB:lexTail1B .any (o::l).toArray n=true) (hC:C w.drew)
    (hQ:∀c a w,Q (.panic c) (a.put o.dst v) w->Q (.panic c) a w) (hy:Yields P (o::l).toArray o v a)
    (h:wpQuiet P (o::l).toArray C (fun a'=>∀w',C w'->wpList P (o::l).toArray Q ((o::l).drop n) a' w') ((o::l).take n).tail (a.put o.dst v)):(Code.region id (o::l).toArray true).wp P Q a w:=by
 simp only[lexTail1B,Bool.and_eq_true,decide_eq_true_eq]at hB;obtain ⟨⟨⟨⟨⟨⟨⟨hsel,hn⟩,h0n⟩,hs⟩,hc⟩,hfree⟩,hrdy⟩,hlex⟩:=hB;have hsz:(o::l).toArray.size=(o::l).length:=(by simp);have hn':n<(o::l).length:=(by simpa using hn);have htl:((o::l).take n).tail.length=n-1:=(by rw[List.length_tail,List.length_take,Nat.min_eq_left (by omega)]);have hdl:((o::l).drop n).length=(o::l).toArray.size-n:=by simp
 have inv0:HeadInv .any (o::l).toArray n (Array.replicate (o::l).toArray.size false):=
  ⟨by simp,fun j oj _ hl=>(by rw[getD_replicate_false]at hl;cases hl),fun t _ ht=>getD_in (by simpa using ht) (getD_replicate_false _ _)⟩
 have hr0:0∈Region.ready .any (o::l).toArray (Array.replicate (o::l).toArray.size false):=(by simpa using hrdy);have H:=zeJ (md:=.any) (m:=1) (g:=(o::l).toArray.size-n) hsel hs hc hn ((o::l).take n).tail 1 _ _ (fun j hj=>by
  have hj':j<n-1:=(by rw[htl]at hj;exact hj);rw[List.getElem?_tail,List.getElem?_take_of_lt (by omega),Nat.add_comm 1 j];simp) (by rw[htl];omega) nL (inv0.set hr0 h0n) (by rw[htl];exact hlex) h
 refine wp_region_any hm ?_;have:=zb1 (Q':=Q) (g:=(o::l).toArray.size-n) (fun listed a' w' hw' hL=>by
  have:=wpAny_of_seq (md:=.any) (Q':=Q) ((o::l).drop n) n listed a' w' (fun j=>by simp[List.getElem?_drop]) (by rw[hdl];exact hL.1) (hL.2 w' hw');rwa[hdl]at this) _ _ _ _ hC H
 rw[htl]at this;have e:(o::l).toArray.size=(n-1+((o::l).toArray.size-n))+1:=(by omega);rw[e];rw[e]at hfree hrdy;refine wpAny_take (i:=0) (oi:=o) (by simp) hsel hfree hrdy hQ hy ?_;rw[<-e];exact this
end
theorem zcd {P:Program} {id:Nat} {Q:Exit->Act->World->Prop} {a:Act} {w:World} {o:Oper} {l:List Oper} {v:Value} (n:Nat) (hm:P.follows .mixedOrders=true) (hB:lexTail1B .any (o::l).toArray n=true)
    (hQ:∀c a w,Q (.panic c) (a.put o.dst v) w->Q (.panic c) a w) (hy:Yields P (o::l).toArray o v a)
    (h:wpQuiet P (o::l).toArray (fun w'=>∃p:GrownBy,w'=grow (w.drewN p.n) p.os) (fun a'=>∀w',(∃p:GrownBy,w'=grow (w.drewN p.n) p.os)->wpList P (o::l).toArray Q ((o::l).drop n) a' w') ((o::l).take n).tail (a.put o.dst v)):(Code.region id (o::l).toArray true).wp P Q a w:=
 zcc n hm hB ⟨⟨1,#[]⟩,by rw[grow_empty];rfl⟩ hQ hy h
end Go.Proofs.YtaeiifngjglchaaGreatDoor
end
section
namespace Go.Proofs.YtaeiifngjglchaaGreatDoor
open Go.Proofs.Tryz
open Go.RowKit Go.Lib
structure Fr (w w':World) (S:Nat->Prop):Prop where
 os:w'.os=w.os
 tape:w'.tape=w.tape
 output:w'.output=w.output
 size:w.heap.size<=w'.heap.size
 keep:∀k,k<w.heap.size->¬S k->w'.heap[k]?=w.heap[k]?
section
variable {w w1 w2:World} {S S':Nat->Prop}
theorem Fr.refl (w:World) (S:Nat->Prop):Fr w w S:=⟨rfl,rfl,rfl,nL,fun _ _ _=>rfl⟩
theorem Fr.mono (h:Fr w w1 S) (hs:∀k,k<w.heap.size->S k->S' k):Fr w w1 S':=⟨h.os,h.tape,h.output,h.size,fun k hk hn=>h.keep k hk fun hS=>hn (hs k hk hS)⟩
theorem Fr.then_ (h:Fr w w1 S) (k:Fr w1 w2 S') (hs:∀k,S' k->S k\/w.heap.size<=k):Fr w w2 S:=
 ⟨k.os.trans h.os,k.tape.trans h.tape,k.output.trans h.output,Nat.le_trans h.size k.size,fun i hi hn=>
  (k.keep i (Nat.lt_of_lt_of_le hi h.size) fun hS=>(hs i hS).elim hn fun h3=>by omega).trans (h.keep i hi hn)⟩
theorem Fr.of_below (h:Below w.heap.size w w1) (S:Nat->Prop):Fr w w1 S:=⟨h.os,h.tape,h.output,h.size,fun k hk _=>h.block k hk⟩
theorem Fr.belowB {B:Nat} (h:Fr w w1 S) (hB:∀k,k<B->¬S k) (hw:B<=w.heap.size):Below B w w1:=⟨h.os,h.tape,h.output,h.size,fun k hk=>h.keep k (Nat.lt_of_lt_of_le hk hw) (hB k hk)⟩
theorem Fr.step (h:Fr w w1 S) (k:Below w1.heap.size w1 w2):Fr w w2 S:=h.then_ (Fr.of_below k (fun _=>False)) fun _ hk=>hk.elim
theorem Fr.drew (h:Fr w w1 S):Fr w w1.drew S:=⟨h.os,h.tape,h.output,h.size,h.keep⟩
theorem Fr.alloc (h:Fr w w1 S) (o:Obj):Fr w (w1.alloc o) S:=h.step (br.alloc nL o)
theorem Fr.set_ (h:Fr w w1 S) {p:Addr} (hp:S p.block\/w.heap.size<=p.block) (u:Value):Fr w (w1.setCell p u) S:=
 h.then_ (S':=fun k=>k=p.block) ⟨rfl,rfl,rfl,by simp[World.setCell],fun k _ hn=>Below.heap_setCell w1 p u k hn⟩ fun k hk=>by rw[hk];exact hp
theorem Fr.grown {row:Option Nat} (h:Fr w w1 S) (hg:w1.grownBy w2 row) (hr:∀k,row=some k->S k\/w.heap.size<=k):Fr w w2 S:=
 h.then_ (S':=fun k=>row=some k) ⟨hg.os,hg.tape,hg.output,hg.size,fun k hk hn=>hg.block k hk fun e=>hn e.symm⟩ hr
theorem Fr.cell (h:Fr w w1 S) {p:Addr} {v:Value} (hc:w.cell? p=some v) (hn:¬S p.block):w1.cell? p=some v:=
 (World.cell?_of_block (w:=w) (h.keep p.block (World.block_lt_of_cell? w p hc) hn)).trans hc
theorem Fr.heap {k:Nat} {o:Obj} (h:Fr w w1 S) (hc:w.heap[k]?=some o) (hn:¬S k):w1.heap[k]?=some o:=
 (h.keep k (Array.getElem?_eq_some_iff.1 hc).1 hn).trans hc
theorem Fr.own {b e s n:Nat} {v:Value} {xs:List Value} (h:Fr w w1 S) (ho:w.ownsRow b e s v n xs) (hn:∀k,v.ownBlock=some k->¬S k):w1.ownsRow b e s v n xs:=by
 obtain ⟨h1,h2⟩:=ho;refine ⟨h1,?_⟩;rcases h2 with h2 | ⟨g,cap,cur,rfl,hg,hh,r⟩
 · exact .inl h2
 · exact .inr ⟨g,cap,cur,rfl,hg,h.heap hh (hn g (by simp[Value.ownBlock])),r⟩
end
def str (l:List UInt8):ByteArray:=⟨l.toArray⟩
theorem zad (l:List UInt8):(str l).data.toList=l:=by simp[str]
theorem str_of (s:ByteArray):str s.data.toList=s:=rfl
theorem zab (l:List UInt8):(str l).size=l.length:=by simp[str,ByteArray.size]
theorem zax (a b:List UInt8):str a++str b=str (a++b):=by
 apply ByteArray.ext;rw[ByteArray.data_append];simp[str]
structure Bd (w:World) (b B:Nat) (l:List UInt8):Prop where
 lt:b<B
 ex:∃p v,(p=.pointer none\/p=.pointer (some ⟨b,0,none⟩))/\w.heap[b]?=some (.cells #[p,v] 179 (0,0))/\w.ownsRow B 5 1 v l.length (byteCells l)
theorem Bd.fr {w w1:World} {b B:Nat} {l:List UInt8} {S:Nat->Prop} (h:Bd w b B l) (hf:Fr w w1 S) (hb:¬S b) (hn:∀k,B<=k->¬S k):Bd w1 b B l:=by
 obtain ⟨hlt,p,v,hp,hh,ho⟩:=h;exact ⟨hlt,p,v,hp,hf.heap hh hb,hf.own ho fun k hk=>hn k ((ho.lt k hk).1)⟩
theorem Bd.below {w w1:World} {b B:Nat} {l:List UInt8} (h:Bd w b B l) (hb:Below w.heap.size w w1):Bd w1 b B l:=h.fr (Fr.of_below hb fun _=>False) (fun h=>h) (fun _ _ h=>h)
theorem Bd.new (w:World) (B:Nat) (hB:w.heap.size<B):Bd (w.alloc (.cells #[.pointer none,.slice none 0 0] 179)) w.heap.size B []:=
 ⟨hB,_,_,.inl rfl,heap_alloc_new w _,World.ownsRow_nil _ _ _ _⟩
theorem Bd.isBuilder {w:World} {b B:Nat} {l:List UInt8} (h:Bd w b B l):IsBuilder 179 5 b b (byteCells l) w:=by
 obtain ⟨hlt,p,v,hp,hh,ho⟩:=h;have h1:w.ownsRow b 5 1 v (byteCells l).length (byteCells l):=by
  rw[byteCells_length];obtain ⟨h1,h2⟩:=ho;refine ⟨h1,?_⟩;rcases h2 with h2 | ⟨g,cap,cur,rfl,hg,r⟩
  · exact .inl h2
  · exact .inr ⟨g,cap,cur,rfl,by omega,r⟩
 have h2:v.ownBlock≠some b:=fun e=>(by have:=(ho.lt b e).1;omega);rcases hp with rfl | rfl
 · exact .inl ⟨nL,v,hh,h1,h2⟩
 · exact .inr ⟨nL,v,hh,h1,h2⟩
def Wr (b B:Nat):Nat->Prop:=fun k=>k=b\/B<=k
theorem zba (b B:Nat) (l:List UInt8) (w:World) (h:Bd w b B l) :
    Calls prog 151 #[.pointer (some ⟨b,0,none⟩)] w fun e w'=>e=.returned (.tuple #[])/\Fr w w' (fun k=>k=b)/\
     ∃v,w'.heap[b]?=some (.cells #[.pointer (some ⟨b,0,none⟩),v] 179 (0,0))/\w'.ownsRow B 5 1 v l.length (byteCells l):=by
 obtain ⟨hlt,p,v,hp,hh,ho⟩:=h;obtain ⟨j,hj,hjs⟩:=Option.map_eq_some_iff.1 Tryz.Builder_Extra_169.sizeBuilder;have h0:w.cell? ⟨b,0,none⟩=some p:=(by rw[cell_of_heap hh];rfl);rcases hp with rfl | rfl
 · have hsh:w.shape? b=some (179,2):=(by simp[World.shape?,hh]);have hfz:w.frozen? ⟨b,0,none⟩=false:=(by simp[World.frozen?,hh]);have HH:=hid hh;have HO:=hid ho;clear hh ho;go_enter func151,ntmps151
   go_wp2;rw[Lib.run_to_unsafe w ⟨b,0,none⟩ underlying177 underlying294 hj (by rw[hjs];decide) hsh (Nat.zero_lt_succ 1)];simp only[Result.andThen];rw[Oper.upon_value];go_wp2;rw[run_callFunc_extern func222 (by kernel_rfl) (by kernel_rfl) (by kernel_rfl) (e:=Extern.AbiNoEscape.same) (by kernel_rfl)];rw[Lib.run_noEscape];simp only[Result.andThen];rw[Oper.upon_value];go_wp2;rw[Lib.run_from_unsafe w ⟨b,0,none⟩ underlying294 underlying177 hj hsh Tryz.Builder_Extra_169.liesBuilder];simp only[Result.andThen];rw[Oper.upon_value];go_wp2;go_end0
   refine ⟨rfl,(Fr.refl w (fun k=>k=b)).set_ (p:=⟨b,0,none⟩) (.inl rfl) _,v,?_,?_⟩
   · simp[World.setCell,Array.getElem?_modify,HH.out]
   · exact ((Fr.refl w (fun k=>k=b)).set_ (p:=⟨b,0,none⟩) (.inl rfl) _).own HO.out fun k hk e=>by have:=(HO.out.lt k hk).1;omega
 · have HH:=hid hh;have HO:=hid ho;clear hh ho;go_enter func151,ntmps151
   go_wp2;rw[Lib.run_neq_ptr_same w _ underlying177 hj];go_wp2;go_end0
   exact ⟨rfl,Fr.refl _ _,v,HH.out,HO.out⟩
theorem Bd.put {w w1 w2:World} {b B:Nat} {l:List UInt8} {p v v':Value} (hlt:b<B) (hf:Fr w w1 (Wr b B)) (hb:w1.heap[b]?=some (.cells #[p,v] 179 (0,0))) (hp:p=.pointer none\/p=.pointer (some ⟨b,0,none⟩))
    (hB:B<=w1.heap.size) (ho:∀k,v.ownBlock=some k->B<=k) (hg:w1.grownBy w2 v.ownBlock) (hown:w2.ownsRow B 5 1 v' l.length (byteCells l)) :
    Bd (w2.setCell ⟨b,1,none⟩ v') b B l/\Fr w (w2.setCell ⟨b,1,none⟩ v') (Wr b B):=by
 have h2:w2.heap[b]?=some (.cells #[p,v] 179 (0,0)):=(hg.block b (by omega) (fun e=>by have:=ho b e.symm;omega)).trans hb;have hf2:Fr w w2 (Wr b B):=hf.grown hg fun k hk=>.inl (.inr (ho k hk));have hf3:Fr w2 (w2.setCell ⟨b,1,none⟩ v') (fun k=>k=b):=(Fr.refl w2 (fun k=>k=b)).set_ (p:=⟨b,1,none⟩) (.inl rfl) _;refine ⟨⟨hlt,p,v',hp,?_,hf3.own hown fun k hk e=>by have:=(hown.lt k hk).1;omega⟩,hf2.then_ hf3 fun k hk=>.inl (.inl hk)⟩;simp[World.setCell,Array.getElem?_modify,h2]
theorem byteCells_snoc (l:List UInt8) (c:Int) (hc:0<=c) (hc':c<256):byteCells l++[.int .u8 c]=byteCells (l++[UInt8.ofNat c.toNat]):=by
 unfold byteCells;rw[List.map_append]
 congr 1
 simp;omega
theorem zc6 (b B:Nat) (l:List UInt8) (c:Int) (w:World) (h:Bd w b B l) (hc:0<=c) (hc':c<256) (hlen:l.length+1<=140737488355328) (hBw:B<=w.heap.size) :
    Calls prog 148 #[.pointer (some ⟨b,0,none⟩),.int .u8 c] w fun e w'=>e=.returned .nilIface/\Bd w' b B (l++[UInt8.ofNat c.toNat])/\Fr w w' (Wr b B):=by
 obtain ⟨i0,hi,hz0,hz1,hz2⟩:=info_parts Tryz.Builder_Extra_169.infoByte;have hlt:=h.lt;have HC:=hid (zba b B l w h);have HB:=hid (byteCells_snoc l c hc hc');have HX:=hid hc';clear h hc hc';go_enter func148,ntmps148
 go_wp2_with fail
 refine HC.out.mono ?_;rintro e w1 ⟨rfl,hf1,v,hb,ho⟩;have hs1:=hf1.size;have c1:w1.cell? ⟨b,1,none⟩=some v:=(by rw[cell_of_heap hb];rfl);have HF:=hid hf1;have HO:=hid ho;have HH:=hid hb;clear hf1 ho hb;go_wp2_with (at_builtin;refine wpList_append_own _ rfl _ _ 32 rfl B 5 i0 (.int .u8 0) 1 1 underlying32 hi hz0 hz1 hz2 rfl (by decide) _ _ _ rfl (HO.out.alloc _) ⟨w1.heap.size,0,none⟩ 1 1 [.int .u8 c] rfl rfl ?c1 ?c2 ?c3 ?c4 ?c5 ?_)
 case c1=>
  intro j u hj
  match j,hj with
  | 0,hj=>simp at hj;subst hj;simp[Addr.add]
 case c2=>intro u hu;simp at hu;subst hu;rfl
 case c3=>unfold maxLen;omega
 case c4=>omega
 case c5=>simp;omega
 intro v' w2 hown' hg _;have hblt:b<w1.heap.size:=(by omega);have hob:∀k,v.ownBlock=some k->B<=k:=fun k hk=>(HO.out.lt k hk).1;have hb1:(w1.alloc (.cells #[.int .u8 c] 5)).heap[b]?=_:=(Lib.alloc_old w1 _ b hblt).trans HH.out;have HP:=hid (Bd.put (l:=l++[UInt8.ofNat c.toNat]) (v':=v') hlt ((HF.out.mono (S':=Wr b B) fun k _ hk=>.inl hk).alloc _) hb1 (.inr rfl) (by simp;omega) hob hg (by rw[<-HB.out];simpa using hown'));have hb2:w2.heap[b]?=some (.cells #[.pointer (some ⟨b,0,none⟩),v] 179 (0,0)):=(hg.block b (by simp;omega) (fun e=>by have:=hob b e.symm;omega)).trans hb1;have d1:w2.cell? ⟨b,1,none⟩=some v:=(by rw[cell_of_heap hb2];rfl);have f1:w2.frozen? ⟨b,1,none⟩=false:=frozen_of_heap hb2 1;obtain ⟨g,cap,rfl⟩:∃g cap,v'=.slice (some ⟨g,0,none⟩) (l.length+1) cap:=by
  rcases hown'.2 with ⟨_,h0⟩ | ⟨g,cap,cur,hv,_⟩
  · omega
  · exact ⟨g,cap,hv⟩
 clear hb2 hb1 hg hob hown';go_wp2;go_ret;exact ⟨rfl,HP.out.1,HP.out.2⟩
theorem zbg (b B:Nat) (l:List UInt8) (s:ByteArray) (w:World) (h:Bd w b B l) (hlen:l.length+s.size<=140737488355328) (hBw:B<=w.heap.size) :
    Calls prog 104 #[.pointer (some ⟨b,0,none⟩),.string s] w fun e w'=>e=.returned (.tuple #[.int .i64 s.size,.nilIface])/\Bd w' b B (l++s.data.toList)/\Fr w w' (Wr b B):=by
 obtain ⟨i0,hi,hz0,hz1,hz2⟩:=info_parts Tryz.Builder_Extra_169.infoByte;have hlt:=h.lt;have HC:=hid (zba b B l w h);have HL:Hid ((l++s.data.toList).length=l.length+s.size):=by
  show (l++s.data.toList).length=l.length+s.size;rw[List.length_append,Array.length_toList];rfl
 have HB:Hid (byteCells l++Lib.strCells s=byteCells (l++s.data.toList)):=by
  show byteCells l++Lib.strCells s=byteCells (l++s.data.toList);unfold byteCells;rw[List.map_append];rfl
 clear h;go_enter func104,ntmps104
 go_wp2_with fail
 refine HC.out.mono ?_;rintro e w1 ⟨rfl,hf1,v,hb,ho⟩;have hs1:=hf1.size;have c1:w1.cell? ⟨b,1,none⟩=some v:=(by rw[cell_of_heap hb];rfl);have HF:=hid hf1;have HO:=hid ho;have HH:=hid hb;clear hf1 ho hb;go_wp2_with (at_builtin;refine Lib.wpList_append_own_string _ rfl _ _ 32 9 rfl B 5 i0 underlying32 underlying9 hi hz0 hz1 hz2 _ _ _ rfl HO.out s rfl ?c3 ?c4 ?c5 ?_)
 case c3=>unfold maxLen;omega
 case c4=>omega
 case c5=>omega
 intro v' w2 hown' hg _;have hblt:b<w1.heap.size:=(by omega);have hob:∀k,v.ownBlock=some k->B<=k:=fun k hk=>(HO.out.lt k hk).1;have HP:=hid (Bd.put (l:=l++s.data.toList) (v':=v') hlt (HF.out.mono (S':=Wr b B) fun k _ hk=>.inl hk) HH.out (.inr rfl) (by omega) hob hg (by rw[HL.out,<-HB.out];exact hown'));have hb2:w2.heap[b]?=some (.cells #[.pointer (some ⟨b,0,none⟩),v] 179 (0,0)):=(hg.block b (by omega) (fun e=>by have:=hob b e.symm;omega)).trans HH.out;have d1:w2.cell? ⟨b,1,none⟩=some v:=(by rw[cell_of_heap hb2];rfl);have f1:w2.frozen? ⟨b,1,none⟩=false:=frozen_of_heap hb2 1;obtain ⟨ao,n',cap,rfl⟩:∃ao n' cap,v'=.slice ao n' cap:=by
  rcases hown'.2 with ⟨hv,_⟩ | ⟨g,cap,cur,hv,_⟩
  · exact ⟨_,_,_,hv⟩
  · exact ⟨_,_,_,hv⟩
 clear hb2 hg hob hown';go_wp2;go_ret2;exact ⟨rfl,HP.out.1,HP.out.2⟩
theorem zaG (b B:Nat) (l:List UInt8) (w:World) (h:Bd w b B l) (hBw:B<=w.heap.size) :
    Calls prog 105 #[.pointer (some ⟨b,0,none⟩)] w fun e w'=>e=.returned (.string ⟨l.toArray⟩)/\Below b w w':=
 Tryz.Builder_String_any b b l w h.isBuilder (by have:=h.lt;omega)
end Go.Proofs.YtaeiifngjglchaaGreatDoor
end
section
namespace Go.Proofs.YtaeiifngjglchaaGreatDoor
open Go.Proofs.Tryz
open Go.RowKit Go.Lib Tv
def hexS:ByteArray:=⟨#[48,49,50,51,52,53,54,55,56,57,65,66,67,68,69,70]⟩
theorem zoa:∀n:Fin 16,hexS.extract n.val (n.val+1)=str [hexB n.val]:=by decide +kernel
def escE (c:UInt8):Bs:=
 if c=34 then [92,34] else if c=92 then [92,92] else if c=10 then [92,110] else if c=13 then [92,114]
 else if c=9 then [92,116] else if c=8 then [92,98] else if c=12 then [92,102]
 else [92,117,48,48,hexB (c.toNat / 16),hexB (c.toNat % 16)]
theorem zgy (c:UInt8) (h:c<32\/c=127\/c=34\/c=92):escB c=escE c:=by
 have h':c=34\/c=92\/(c<32\/c=127):=by
  rcases h with h | h | h | h
  · exact .inr (.inr (.inl h))
  · exact .inr (.inr (.inr h))
  · exact .inl h
  · exact .inr (.inl h)
 rcases h' with rfl | rfl | h
 · decide
 · decide
 · unfold escB escE;simp only[if_pos h]
theorem zjm (c:UInt8) (h:¬(c<32\/c=127\/c=34\/c=92)):escB c=[c]:=by
 have h1:¬c<32:=fun e=>h (.inl e);have h2:c≠127:=fun e=>h (.inr (.inl e));have h3:c≠34:=fun e=>h (.inr (.inr (.inl e)));have h4:c≠92:=fun e=>h (.inr (.inr (.inr e)));have h5:c≠10:=fun e=>h1 (by rw[e];decide);have h6:c≠13:=fun e=>h1 (by rw[e];decide);have h7:c≠9:=fun e=>h1 (by rw[e];decide);have h8:c≠8:=fun e=>h1 (by rw[e];decide);have h9:c≠12:=fun e=>h1 (by rw[e];decide);unfold escB;rw[if_neg h3,if_neg h4,if_neg h5,if_neg h6,if_neg h7,if_neg h8,if_neg h9,if_neg (by simp[h1,h2])]
theorem zaT (z:Int) (r:ByteArray) (h:(z,r)∈[((34:Int),str [92,34]),(92,str [92,92]),(10,str [92,110]),(13,str [92,114]),(9,str [92,116]),(8,str [92,98]),(12,str [92,102])]) (w:World) :
    Calls prog 147 #[.int .u8 z] w fun e w'=>e=.returned (.string r)/\Below w.heap.size w w':=by
 simp only[List.mem_cons,Prod.mk.injEq,List.not_mem_nil,or_false]at h;rcases h with ⟨rfl,rfl⟩ | ⟨rfl,rfl⟩ | ⟨rfl,rfl⟩ | ⟨rfl,rfl⟩ | ⟨rfl,rfl⟩ | ⟨rfl,rfl⟩ | ⟨rfl,rfl⟩
 all_goals
  go_enter func147,ntmps147
  go_wp2;go_ret;exact ⟨by rfl,br⟩
theorem zcZ (n:Nat) (h:n<16):hexS.extract n (n+1)=str [hexB n]:=zoa ⟨n,h⟩
theorem zhD (n:Nat) (hn:n<256) (h1:n≠34) (h2:n≠92) (h3:n≠10) (h4:n≠13) (h5:n≠9) (h6:n≠8) (h7:n≠12) (w:World) :
    Calls prog 147 #[.int .u8 (n:Int)] w fun e w'=>e=.returned (.string (str [92,117,48,48,hexB (n / 16),hexB (n % 16)]))/\Below w.heap.size w w':=by
 have b1:((n:Int) == 34)=false:=(by simp;omega);have b2:((n:Int) == 92)=false:=(by simp;omega);have b3:((n:Int) == 10)=false:=(by simp;omega);have b4:((n:Int) == 13)=false:=(by simp;omega);have b5:((n:Int) == 9)=false:=(by simp;omega);have b6:((n:Int) == 8)=false:=(by simp;omega);have b7:((n:Int) == 12)=false:=(by simp;omega);clear h1 h2 h3 h4 h5 h6 h7;have hi:n / 16<16:=(by omega);have lo:n % 16<16:=Nat.mod_lt _ (by decide);go_enter func147,ntmps147
 go_wp2;go_region
 go_wp2;go_ret;refine ⟨?_,(Below.refl _ w).drew⟩;show Ending.returned (Value.string ((str [92,117,48,48]++hexS.extract (n / 16) (n / 16+1))++hexS.extract (n % 16) (n % 16+1)))=_;rw[zcZ _ hi,zcZ _ lo,zax,zax];rfl
theorem zft (c:UInt8) (w:World) :
    Calls prog 147 #[.int .u8 (c.toNat:Int)] w fun e w'=>e=.returned (.string (str (escE c)))/\Below w.heap.size w w':=by
 unfold escE;split
 · rename_i h;subst h;exact zaT 34 _ (by simp) w
 · split
   · rename_i h;subst h;exact zaT 92 _ (by simp) w
   · split
     · rename_i h;subst h;exact zaT 10 _ (by simp) w
     · split
       · rename_i h;subst h;exact zaT 13 _ (by simp) w
       · split
         · rename_i h;subst h;exact zaT 9 _ (by simp) w
         · split
           · rename_i h;subst h;exact zaT 8 _ (by simp) w
           · split
             · rename_i h;subst h;exact zaT 12 _ (by simp) w
             · rename_i h1 h2 h3 h4 h5 h6 h7;have key:∀d:UInt8,c≠d->c.toNat≠d.toNat:=fun d h e=>h (UInt8.toNat_inj.1 e);exact zhD c.toNat c.toNat_lt (key 34 h1) (key 92 h2) (key 10 h3) (key 13 h4) (key 9 h5) (key 8 h6) (key 12 h7) w
theorem zkN (t:TypeId) (a b:ByteArray):binOp .gtr t (.string a) (.string b)=pure (.bool !(Op.bytesLess a.toList b.toList || a.toList == b.toList)):=by simp[binOp,Op.stringOp]
def cmpB (a b:Bs):Int:=if Op.bytesLess a b=true then -1 else if a=b then 0 else 1
theorem zhA (s:ByteArray) (w:World):Calls prog 204 #[.string s] w fun e w'=>e=.returned (.bool false)/\w'=w:=by
 go_enter func204,ntmps204
 go_wp2;go_ret;exact ⟨by simp,rfl⟩
theorem zfy (a b:ByteArray) (w:World):Calls prog 133 #[.string a,.string b] w fun e w'=>e=.returned (.int .i64 (cmpB a.data.toList b.data.toList))/\w'=w:=by
 have ha:a.toList=a.data.toList:=Lib.toList_data a;have hb:b.toList=b.data.toList:=Lib.toList_data b;have hg:=zkN 9;unfold cmpB;rw[<-ha,<-hb];clear ha hb;generalize hx:Op.bytesLess a.toList b.toList=x;generalize hy:(a.toList == b.toList)=y;have hy':(if a.toList=b.toList then (0:Int) else 1)=if y=true then 0 else 1:=by
  by_cases h:a.toList=b.toList
  · rw[if_pos h,if_pos (by rw[<-hy];exact beq_iff_eq.2 h)]
  · rw[if_neg h,if_neg (by rw[<-hy];exact fun e=>h (beq_iff_eq.1 e))]
 rw[hy'];clear hy';cases x<;>cases y
 all_goals
  simp only[if_true,if_false,Bool.false_eq_true];go_enter func133,ntmps133
  go_wp2_with (go_at_call 204;refine (zhA _ _).mono ?_;rintro e w' ⟨rfl,rfl⟩)
  go_ret;exact ⟨rfl,rfl⟩
theorem bytesWorld_below (w:World) (s:ByteArray):Below w.heap.size w (Lib.bytesWorld w 5 s):=
 ⟨rfl,rfl,rfl,by rw[Lib.bytesWorld_size];omega,fun i hi=>Lib.bytesWorld_at_old w 5 s i hi⟩
theorem run_conv (w:World) (s:ByteArray):(convert 9 32 (.string s)).run prog w=.ok (.slice (some ⟨w.heap.size,0,none⟩) s.size (grownCap w s.size 0 5)) (Lib.bytesWorld w 5 s):=
 Lib.run_convert_string_bytes w 9 32 5 s underlying9 underlying32 underlying5
theorem zgx (l:Bs) (c:UInt8):escS (l++[c])=escS l++escB c:=by simp[escS]
theorem ziv (c:UInt8):(escB c).length<=6:=by
 rcases zcE c with ⟨d,_,_,_,h⟩ | ⟨_,h⟩ | ⟨_,_,_,_,h⟩<;>rw[h]<;>simp
theorem zcm (l:Bs):(escS l).length<=6*l.length:=by
 induction l with
 | nil=>simp[escS]
 | cons c l ih=>
  show (escB c++escS l).length<=6*(l.length+1);have:=ziv c;rw[List.length_append];omega
theorem zfO (l:Bs) (k:Nat) (h:k<l.length):l.take (k+1)=l.take k++[l[k]]:=by
 rw[List.take_add_one,List.getElem?_eq_getElem h];rfl
def Spec (c:UInt8):Prop:=c<32\/c=127\/c=34\/c=92
theorem ziT (c:UInt8) (z:Int) (hz:z=(c.toNat:Int)) :
    (Spec c/\(decide (z<32)=true\/(decide (z<32)=false/\(z == 127)=true)\/(decide (z<32)=false/\(z == 127)=false/\(z == 34)=true)\/(decide (z<32)=false/\(z == 127)=false/\(z == 34)=false/\(z == 92)=true)))\/
    (¬Spec c/\decide (z<32)=false/\(z == 127)=false/\(z == 34)=false/\(z == 92)=false):=by
 have e:∀d:UInt8,(z == (d.toNat:Int))=true↔c=d:=fun d=>by
  rw[beq_iff_eq,hz];exact ⟨fun h=>UInt8.toNat_inj.1 (by omega),fun h=>by rw[h]⟩
 have e1:decide (z<32)=true↔c<32:=by
  rw[decide_eq_true_eq,hz,UInt8.lt_iff_toNat_lt];show ((c.toNat:Int)<32)↔(c.toNat<32);omega
 have e2:(z == 127)=true↔c=127:=e 127;have e3:(z == 34)=true↔c=34:=e 34;have e4:(z == 92)=true↔c=92:=e 92;unfold Spec;rw[<-e1,<-e2,<-e3,<-e4];cases decide (z<32)<;>cases (z == 127)<;>cases (z == 34)<;>cases (z == 92)<;>simp
structure QSt (w2 wr:World) (b:Nat) (l:Bs) (k:Nat):Prop where
 bd:Bd wr b (b+2) (escS (l.take k))
 fr:Fr w2 wr (Wr b (b+2))
theorem QSt.step {w2 wr w3:World} {b:Nat} {l:Bs} {k:Nat} (h:QSt w2 wr b l k) (hk:k<l.length) {r:Bs} (hr:escB l[k]=r) (hb:Bd w3 b (b+2) (escS (l.take k)++r)) (hf:Fr wr w3 (Wr b (b+2))):QSt w2 w3 b l (k+1):=
 ⟨by rw[zfO l k hk,zgx,hr];exact hb,h.fr.then_ hf fun _ hk=>.inl hk⟩
theorem zcK (s:ByteArray) (hs:s.size<=1000000) (w:World) :
    Calls prog 95 #[.string s] w fun e w'=>e=.returned (.string (str (qt s.data.toList)))/\Below w.heap.size w w':=by
 have hcv:∀(w:World) (s:ByteArray),(convert 9 32 (.string s)).run prog w=.ok (.slice (some ⟨w.heap.size,0,none⟩) s.size (grownCap w s.size 0 5)) (Lib.bytesWorld w 5 s):=run_conv;go_enter func95,ntmps95
 go_wp2
 have hst0:QSt (Lib.bytesWorld (w.alloc (.cells #[.pointer none,.slice none 0 0] 179)) 5 s) (Lib.bytesWorld (w.alloc (.cells #[.pointer none,.slice none 0 0] 179)) 5 s) w.heap.size s.data.toList 0:=
  ⟨(Bd.new w (w.heap.size+2) (by omega)).below (bytesWorld_below _ _),Fr.refl _ _⟩
 have hb0:Below w.heap.size w (Lib.bytesWorld (w.alloc (.cells #[.pointer none,.slice none 0 0] 179)) 5 s):=
  ((Below.refl _ w).alloc nL _).trans ((bytesWorld_below _ s).mono (by simp))
 have hcell0:∀j,j<s.size->(Lib.bytesWorld (w.alloc (.cells #[.pointer none,.slice none 0 0] 179)) 5 s).cell? ⟨w.heap.size+1,j,none⟩=some (.int .u8 (s.data.toList.getD j 0).toNat):=fun j hj=>by
  have:=Lib.bytesWorld_cell (w.alloc (.cells #[.pointer none,.slice none 0 0] 179)) 5 s j hj;simpa using this
 have hsz0:(Lib.bytesWorld (w.alloc (.cells #[.pointer none,.slice none 0 0] 179)) 5 s).heap.size=w.heap.size+2:=by
  rw[Lib.bytesWorld_size];simp
 generalize Lib.bytesWorld (w.alloc (.cells #[.pointer none,.slice none 0 0] 179)) 5 s=w2 at hst0 hb0 hcell0 hsz0 ⊢;generalize grownCap (w.alloc (.cells #[.pointer none,.slice none 0 0] 179)) s.size 0 5=cap;have HC:=hid hcell0;have HB:=hid hb0;have hlen:s.data.toList.length=s.size:=Array.length_toList;have HL:=hid hlen;clear hcell0 hb0 hcv hlen;go_loopw [9] (fun i wr=>∃k:Nat,k<=s.size/\i=.int .i64 k/\QSt w2 wr w.heap.size s.data.toList k) (fun i _=>s.size-(RowKit.intOf i).toNat)
 case atStart=>exact ⟨0,Nat.zero_le _,rfl,hst0⟩
 case round=>
  clear hst0;obtain ⟨k,hk,rfl,hst⟩:=hrel;have HST:=hid hst;have hrs:=hst.fr.size;by_cases hlt:k<s.size
  · have hkl:k<s.data.toList.length:=(by rw[HL.out];exact hlt);have hc:wr.cell? ⟨w.heap.size+1,k,none⟩=some (.int .u8 ((s.data.toList[k]'hkl).toNat:Int)):=by
     refine hst.fr.cell ?_ (fun h=>by rcases h with h | h<;>simp at h<;>omega);rw[HC.out k hlt,<-List.getElem_eq_getD]
    have hel:(escS (s.data.toList.take k)).length<=6*s.size:=by
     refine Nat.le_trans (zcm _) ?_;rw[List.length_take,HL.out];omega
    have HE:=hid fun r w3 h1 h2 h3=>hst.step hkl (r:=r) (w3:=w3) h1 h2 h3;have hbd:=hid hst.bd;clear hst;generalize s.data.toList[k]=c at hc HE;obtain ⟨z,hz⟩:∃z:Int,z=(c.toNat:Int):=⟨_,rfl⟩;have hsp:=ziT c z hz;have hz0:0<=z:=(by omega);have hz1:z<256:=(by have:=c.toNat_lt;omega);have hes:=zft c;rw[<-hz]at hc hes;have hcz:c=UInt8.ofNat z.toNat:=(by rw[hz];simp);have HZ:=hid hcz;have HES:=hid hes;clear hz hcz hes;rcases hsp with ⟨sp,hsp⟩ | ⟨sp,b1,b2,b3,b4⟩
    · have HSP:=hid (zgy c sp)
      have fin:∀w4 w5:World,Below wr.heap.size wr w4->Bd w5 w.heap.size (w.heap.size+2) (escS (s.data.toList.take k)++(str (escE c)).data.toList)->Fr w4 w5 (Wr w.heap.size (w.heap.size+2))->QSt w2 w5 w.heap.size s.data.toList (k+1):=fun w4 w5 h1 h2 h3=>
       HE.out _ _ HSP.out (by rw[<-zad (escE c)];exact h2) ((Fr.of_below h1 _).then_ h3 fun _ hk=>.inl hk)
      have FIN:=hid fin;clear fin HE HC;have hse:(str (escE c)).size<=6:=(by rw[zab,<-HSP.out];exact ziv c);rcases hsp with b1 | ⟨b1,b2⟩ | ⟨b1,b2,b3⟩ | ⟨b1,b2,b3,b4⟩
      all_goals
       clear HSP sp;go_wp2_with (go_at_call 147;refine (HES.out _).mono ?_;rintro e w4 ⟨rfl,hb4⟩)
       have hs4:=hb4.size;go_wp2_with fail
       refine (zbg _ _ _ _ _ (hbd.out.below hb4) (by omega) (by omega)).mono ?_;rintro e w5 ⟨rfl,hbd5,hfr5⟩;have HN:=hid (FIN.out w4 w5 hb4 hbd5 hfr5);clear hbd5 hfr5;go_wp2;go_round
       case measure=>show s.size-((k:Int)+1).toNat<s.size-(k:Int).toNat;omega
       case rel=>exact ⟨k+1,by omega,by simp,HN.out⟩
    · have HSP:=hid (zjm c sp)
      have fin:∀w5:World,Bd w5 w.heap.size (w.heap.size+2) (escS (s.data.toList.take k)++[UInt8.ofNat z.toNat])->Fr wr w5 (Wr w.heap.size (w.heap.size+2))->QSt w2 w5 w.heap.size s.data.toList (k+1):=fun w5 h2 h3=>
       HE.out _ _ HSP.out (by rw[HZ.out];exact h2) h3
      have FIN:=hid fin;clear fin HE HC HSP sp;go_wp2_with fail
      refine (zc6 _ _ _ _ _ hbd.out hz0 hz1 (by omega) (by omega)).mono ?_;rintro e w5 ⟨rfl,hbd5,hfr5⟩;have HN:=hid (FIN.out w5 hbd5 hfr5);clear hbd5 hfr5;go_wp2;go_round
      case measure=>show s.size-((k:Int)+1).toNat<s.size-(k:Int).toNat;omega
      case rel=>exact ⟨k+1,by omega,by simp,HN.out⟩
  · obtain rfl:k=s.size:=(by omega);have hbd:=hst.bd;have HFR:=hid hst.fr;have hlt':w.heap.size<w2.heap.size:=(by omega);clear hst;have hsz1:(escS s.data.toList).length<=6000000:=by
     have:=zcm s.data.toList;rw[HL.out]at this;omega
    rw[<-HL.out,List.take_length]at hbd;have HBD:=hid hbd;clear hbd;go_wp2_with fail
    refine (zaG _ _ _ _ HBD.out (by omega)).mono ?_;rintro e w5 ⟨rfl,hb5⟩;have hss:(⟨(escS s.data.toList).toArray⟩:ByteArray).size<=6000000:=by
     have:=zab (escS s.data.toList);unfold str at this;omega
    go_wp2;go_ret;refine ⟨?_,?_⟩
    · show Ending.returned (Value.string (str [34]++str (escS s.data.toList)++str [34]))=_;rw[zax,zax];rfl
    · have h1:Below w.heap.size w2 wr:=HFR.out.belowB (fun k hk h=>by rcases h with h | h<;>omega) (by omega);exact (HB.out.trans h1).trans hb5
def encT (t:Tm):List Value:=[.int .i64 t.k,.string (str t.x),.string (str t.e)]
def Sml (t:Tm):Prop:=t.x.length<=1000000/\t.e.length<=1000000
theorem zj7 (l:Bs):(qt l).length<=6*l.length+2:=by
 have:=zcm l;unfold qt;simp;omega
theorem zhf (l:Bs) (hl:l.length<=1000000) (w:World) (n:Nat) (os:Array Obj) :
    Calls prog 95 #[.string (str l)] (Sort.grow (w.drewN n) os) fun e w''=>e=.returned (.string (str (qt l)))/\∃p:GrownBy,w''=Sort.grow (w.drewN p.n) p.os:=
 Calls.grown_of (Dr.calls_grow (by have:=zcK (str l) (by rw[zab];exact hl) (Sort.grow (w.drewN n) os);rw[zad]at this;exact this))
theorem below_grow (w:World) (n:Nat) (os:Array Obj):Below w.heap.size w (Sort.grow (w.drewN n) os):=
 ⟨rfl,rfl,rfl,by simp[Sort.grow],fun k hk=>by
  show (w.heap++os)[k]?=w.heap[k]?;exact Array.getElem?_append_left hk⟩
theorem zea (a b:Bs) (h:a.length+b.length<=1000000000):∀w,(Op.stringOp .add (str a) (str b)).run prog w=.ok (.string (str (a++b))) w:=fun w=>by
 rw[run_string_add_sum (P:=prog) (w:=w) (str a) (str b) (by rw[zab,zab];omega),zax]
theorem mixed:prog.follows .mixedOrders=true:=by kernel_rfl
theorem zeN:∀args w,(callFunc 95 args).run prog w=.ok (.enter 95 args) w:=enters_of func95 (by kernel_rfl) rfl
theorem zix:∀args w,(callFunc 37 args).run prog w=.ok (.enter 37 args) w:=enters_of func37 (by kernel_rfl) rfl
theorem zhG:∀args w,(callFunc 133 args).run prog w=.ok (.enter 133 args) w:=enters_of func133 (by kernel_rfl) rfl
theorem zcx (t:Tm) (h:Sml t) (w:World) :
    Calls prog 37 #[.agg (encT t).toArray] w fun e w'=>e=.returned (.string (str (shw t)))/\Below w.heap.size w w':=by
 obtain ⟨k,x,e⟩:=t;obtain ⟨hx,he⟩:=h;simp only at hx he;have hxs:(str x).size<=1000000:=(by rw[zab];exact hx);have hes:(str e).size<=1000000:=(by rw[zab];exact he);have hqs:(str (qt x)).size<=6000002:=(by rw[zab];have:=zj7 x;omega);have HQ:=hid fun w n os=>zhf x hx w n os;have HQ0:Hid (∀w:World,Calls prog 95 #[.string (str x)] w fun e w'=>e=.returned (.string (str (qt x)))/\Below w.heap.size w w'):=fun w=>by
  have:=zcK (str x) (by rw[zab];exact hx) w;rw[zad]at this;exact this
 clear hx he;unfold encT shw;simp only;by_cases h1:k=1
 · subst h1;go_enter func37,ntmps37
   go_wp2;go_ret;refine ⟨?_,(Below.refl _ w).alloc nL _⟩
   (try rw[if_pos rfl])
   show Ending.returned (Value.string (str [60]++str x++str [62]))=_;rw[zax,zax];rfl
 · rw[if_neg h1];have b1:(k == 1)=false:=(by simp[h1]);by_cases h2:k=2
   · subst h2;go_enter func37,ntmps37
     go_wp2;go_ret;refine ⟨?_,(Below.refl _ w).alloc nL _⟩
     (try rw[if_pos rfl])
     show Ending.returned (Value.string (str [95,58]++str x))=_;rw[zax];rfl
   · rw[if_neg h2];have b2:(k == 2)=false:=(by simp[h2]);by_cases h4:k=4
     · subst h4;go_enter func37,ntmps37
       go_wp2;have c1:∀(n:Nat) (os:Array Obj),(Sort.grow ((w.alloc (.cells #[.int .i64 4,.string (str x),.string (str e)] 62)).drewN n) os).cell? ⟨w.heap.size,1,none⟩=some (.string (str x)):=fun n os=>cell_grown (by simp) (by simp) n os;have c2:∀(n:Nat) (os:Array Obj),(Sort.grow ((w.alloc (.cells #[.int .i64 4,.string (str x),.string (str e)] 62)).drewN n) os).cell? ⟨w.heap.size,2,none⟩=some (.string (str e)):=fun n os=>cell_grown (by simp) (by simp) n os;generalize hw1:(w.alloc (.cells #[.int .i64 4,.string (str x),.string (str e)] 62))=w1 at c1 c2 ⊢;have HW:=hid hw1;clear hw1;have hmix:=mixed;have hent:=zeN;have r1:=zea (qt x) [64] (by rw[zab]at hqs;simp;omega);have r2:=zea (qt x++[64]) e (by rw[zab]at hqs hes;simp;omega);rw[show str [64]=(⟨#[64]⟩:ByteArray) from rfl]at r1;go_quiet_grown (first | (go_at_fn 95;exact HQ.out _ _ _))
       go_wp2;go_ret;refine ⟨?_,?_⟩
       · (try rw[if_pos rfl])
         simp
       · rw[<-HW.out];exact ((Below.refl _ w).alloc nL _).trans ((below_grow _ _ _).mono (by simp))
     · rw[if_neg h4];have b4:(k == 4)=false:=(by simp[h4]);by_cases h5:k=5
       · subst h5;go_enter func37,ntmps37
         go_wp2;have c1:∀(n:Nat) (os:Array Obj),(Sort.grow ((w.alloc (.cells #[.int .i64 5,.string (str x),.string (str e)] 62)).drewN n) os).cell? ⟨w.heap.size,1,none⟩=some (.string (str x)):=fun n os=>cell_grown (by simp) (by simp) n os;have c2:∀(n:Nat) (os:Array Obj),(Sort.grow ((w.alloc (.cells #[.int .i64 5,.string (str x),.string (str e)] 62)).drewN n) os).cell? ⟨w.heap.size,2,none⟩=some (.string (str e)):=fun n os=>cell_grown (by simp) (by simp) n os;generalize hw1:(w.alloc (.cells #[.int .i64 5,.string (str x),.string (str e)] 62))=w1 at c1 c2 ⊢;have HW:=hid hw1;clear hw1;have hmix:=mixed;have hent:=zeN;have r1:=zea (qt x) [94,94,60] (by rw[zab]at hqs;simp;omega);have r2:=zea (qt x++[94,94,60]) e (by rw[zab]at hqs hes;simp;omega);have r3:=zea (qt x++94::94::60::e) [62] (by rw[zab]at hqs hes;simp;omega);rw[show str [94,94,60]=(⟨#[94,94,60]⟩:ByteArray) from rfl]at r1;rw[show str [62]=(⟨#[62]⟩:ByteArray) from rfl]at r3;go_quiet_grown (first | (go_at_fn 95;exact HQ.out _ _ _))
         go_wp2;go_ret;refine ⟨?_,?_⟩
         · (try rw[if_pos rfl])
           simp
         · rw[<-HW.out];exact ((Below.refl _ w).alloc nL _).trans ((below_grow _ _ _).mono (by simp))
       · rw[if_neg h5];have b5:(k == 5)=false:=(by simp[h5]);go_enter func37,ntmps37
         go_wp2_with fail
         refine (HQ0.out _).mono ?_;rintro e w5 ⟨rfl,hb5⟩;go_wp2;go_ret;exact ⟨rfl,((Below.refl _ w).alloc nL _).trans (hb5.mono (by simp))⟩
theorem zby (t:Tm) (h:Sml t) (w:World) (n:Nat) (os:Array Obj) :
    Calls prog 37 #[.agg (encT t).toArray] (Sort.grow (w.drewN n) os) fun e w''=>e=.returned (.string (str (shw t)))/\∃p:GrownBy,w''=Sort.grow (w.drewN p.n) p.os:=
 Calls.grown_of (Dr.calls_grow (zcx t h _))
theorem zgE (a b:Bs) (w:World) (n:Nat) (os:Array Obj) :
    Calls prog 133 #[.string (str a),.string (str b)] (Sort.grow (w.drewN n) os) fun e w''=>e=.returned (.int .i64 (cmpB a b))/\∃p:GrownBy,w''=Sort.grow (w.drewN p.n) p.os:=by
 have:=zfy (str a) (str b) (Sort.grow (w.drewN n) os);rw[zad,zad]at this;exact this.mono fun e w' h=>⟨h.1,⟨n,os⟩,h.2⟩
def cmpT (s t:Tm):Int:=cmpB (shw s) (shw t)
theorem zgF (s t:Tm) (hs:Sml s) (ht:Sml t) (w:World) :
    Calls prog 70 #[.agg (encT s).toArray,.agg (encT t).toArray] w fun e w'=>e=.returned (.int .i64 (cmpT s t))/\Below w.heap.size w w':=by
 have HS:=hid fun w n os=>zby s hs w n os;have HT:=hid fun w n os=>zby t ht w n os;have HC:=hid fun w n os=>zgE (shw s) (shw t) w n os;clear hs ht;unfold cmpT;obtain ⟨k1,x1,e1⟩:=s;obtain ⟨k2,x2,e2⟩:=t;unfold encT at HS HT ⊢;simp only at HS HT ⊢;generalize shw ⟨k1,x1,e1⟩=r1 at HS HC ⊢;generalize shw ⟨k2,x2,e2⟩=r2 at HT HC ⊢;go_enter func70,ntmps70
 go_wp2;have c0:∀(n:Nat) (os:Array Obj),(Sort.grow (((w.alloc (.cells #[.int .i64 k1,.string (str x1),.string (str e1)] 62)).alloc (.cells #[.int .i64 k2,.string (str x2),.string (str e2)] 62)).drewN n) os).cell? ⟨w.heap.size,0,none⟩=some (.int .i64 k1):=fun n os=>cell_grown (by simp;omega) (by simp) n os;have c1:∀(n:Nat) (os:Array Obj),(Sort.grow (((w.alloc (.cells #[.int .i64 k1,.string (str x1),.string (str e1)] 62)).alloc (.cells #[.int .i64 k2,.string (str x2),.string (str e2)] 62)).drewN n) os).cell? ⟨w.heap.size,1,none⟩=some (.string (str x1)):=fun n os=>cell_grown (by simp;omega) (by simp) n os;have c2:∀(n:Nat) (os:Array Obj),(Sort.grow (((w.alloc (.cells #[.int .i64 k1,.string (str x1),.string (str e1)] 62)).alloc (.cells #[.int .i64 k2,.string (str x2),.string (str e2)] 62)).drewN n) os).cell? ⟨w.heap.size,2,none⟩=some (.string (str e1)):=fun n os=>cell_grown (by simp;omega) (by simp) n os;have d0:∀(n:Nat) (os:Array Obj),(Sort.grow (((w.alloc (.cells #[.int .i64 k1,.string (str x1),.string (str e1)] 62)).alloc (.cells #[.int .i64 k2,.string (str x2),.string (str e2)] 62)).drewN n) os).cell? ⟨w.heap.size+1,0,none⟩=some (.int .i64 k2):=fun n os=>cell_grown (by simp) (by simp) n os;have d1:∀(n:Nat) (os:Array Obj),(Sort.grow (((w.alloc (.cells #[.int .i64 k1,.string (str x1),.string (str e1)] 62)).alloc (.cells #[.int .i64 k2,.string (str x2),.string (str e2)] 62)).drewN n) os).cell? ⟨w.heap.size+1,1,none⟩=some (.string (str x2)):=fun n os=>cell_grown (by simp) (by simp) n os;have d2:∀(n:Nat) (os:Array Obj),(Sort.grow (((w.alloc (.cells #[.int .i64 k1,.string (str x1),.string (str e1)] 62)).alloc (.cells #[.int .i64 k2,.string (str x2),.string (str e2)] 62)).drewN n) os).cell? ⟨w.heap.size+1,2,none⟩=some (.string (str e2)):=fun n os=>cell_grown (by simp) (by simp) n os;generalize hw1:((w.alloc (.cells #[.int .i64 k1,.string (str x1),.string (str e1)] 62)).alloc (.cells #[.int .i64 k2,.string (str x2),.string (str e2)] 62))=w1 at c0 c1 c2 d0 d1 d2 ⊢;have HB:Hid (Below w.heap.size w w1):=by
  show Below w.heap.size w w1;rw[<-hw1];exact ((Below.refl _ w).alloc nL _).alloc (by simp) _
 have hs1:w.heap.size<=w1.heap.size:=HB.out.size;clear hw1;have hmix:=mixed;have hent:=zix;have hent2:=zhG;go_quiet_grown (first | (go_at_fn 37;first | with_reducible exact HS.out _ _ _ | with_reducible exact HT.out _ _ _) | (go_at_fn 133;exact HC.out _ _ _))
 go_wp2;go_ret;exact ⟨rfl,HB.out.trans ((below_grow _ _ _).mono hs1)⟩
end Go.Proofs.YtaeiifngjglchaaGreatDoor
end
section
namespace Go.Proofs.YtaeiifngjglchaaGreatDoor
open Go.Proofs.Tryz
open Go.RowKit Go.Lib Go.Sort
section
variable {α:Type} [Inhabited α] {enc:α->List Value} {k:Nat}
theorem zaH (hk:∀x,(enc x).length=k):∀(l:List α) (t:Nat),t<l.length*k->(l.flatMap enc)[t]?=(enc (l.getD (t / k) default))[t % k]?
 | [],t,h=>by simp at h
 | x::l,t,h=>by
  have hk0:0<k:=by
   rcases Nat.eq_zero_or_pos k with h0 | h0
   · rw[h0]at h;simp at h
   · exact h0
  rw[List.flatMap_cons];by_cases ht:t<k
  · rw[List.getElem?_append_left (by rw[hk];exact ht),Nat.div_eq_of_lt ht,Nat.mod_eq_of_lt ht];rfl
  · have h2:t-k<l.length*k:=by
     rw[List.length_cons,Nat.add_mul,Nat.one_mul]at h;omega
    rw[List.getElem?_append_right (by rw[hk];omega),hk,zaH hk l (t-k) h2];obtain ⟨u,rfl⟩:∃u,t=u+k:=⟨t-k,by omega⟩;rw[Nat.add_sub_cancel,Nat.add_div_right u hk0,Nat.add_mod_right];rfl
omit [Inhabited α] in
theorem zaD (hk:∀x,(enc x).length=k):∀l:List α,(l.flatMap enc).length=l.length*k
 | []=>by simp
 | x::l=>by rw[List.flatMap_cons,List.length_append,hk,zaD hk l,List.length_cons,Nat.add_mul,Nat.one_mul,Nat.add_comm]
theorem zcN (hk:∀x,(enc x).length=k) (d:Array α):(flatK enc k d).toList=d.toList.flatMap enc:=by
 apply List.ext_getElem?;intro t;by_cases ht:t<d.size*k
 · rw[zaH hk d.toList t (by simpa using ht)];have h1:(flatK enc k d).toList[t]?=some ((flatK enc k d)[t]!):=by
    rw[Array.getElem?_toList,getElem!_def];have:t<(flatK enc k d).size:=(by rw[size_flatK];exact ht);rw[Array.getElem?_eq_getElem this]
   rw[h1,get_flatK enc k d t ht];have hk0:0<k:=by
    rcases Nat.eq_zero_or_pos k with h0 | h0
    · rw[h0]at ht;simp at ht
    · exact h0
   have hd:t / k<d.size:=Nat.div_lt_of_lt_mul (by rw[Nat.mul_comm];exact ht);have e1:d.toList.getD (t / k) default=d[t / k]!:=by
    rw[List.getD_eq_getElem?_getD,Array.getElem?_toList,getElem!_def];rw[Array.getElem?_eq_getElem hd];rfl
   rw[e1];have hm:t % k<(enc d[t / k]!).length:=(by rw[hk];exact Nat.mod_lt _ hk0);rw[List.getElem?_eq_getElem hm,getElem!_pos (enc d[t / k]!) (t % k) hm]
 · rw[List.getElem?_eq_none,List.getElem?_eq_none]
   · rw[zaD hk];simpa using Nat.le_of_not_lt ht
   · rw[Array.length_toList,size_flatK];exact Nat.le_of_not_lt ht
theorem zbk (hk:∀x,(enc x).length=k) {W:World} {B n:Nat} {e:TypeId} {g cap:Nat} {d:Array α} (hn:d.size=n) (h:W.ownsRow B e k (.slice (some ⟨g,0,none⟩) n cap) n (d.toList.flatMap enc)) :
    HoldsK enc k W g 0 d/\g<W.heap.size/\B<=g:=by
 obtain ⟨hl,h⟩:=h;rcases h with ⟨h,_⟩ | ⟨g',cap',cur,hv,hB,hh,h1,h2,h3,h4⟩
 · cases h
 · cases hv
   refine ⟨?_,(Array.getElem?_eq_some_iff.1 hh).1,hB⟩;intro j hj;have hs:=size_flatK enc k d;have hjn:j<n*k:=(by rw[<-hn];omega);have hcj:cur.toList[j]?=(flatK enc k d).toList[j]?:=by
    rw[zcN hk,<-h4,List.getElem?_take,if_pos hjn]
   refine ⟨?_,by rw[Nat.zero_add];exact frozen_of_heap hh j⟩;rw[Nat.zero_add,cell_of_heap hh,<-Array.getElem?_toList,hcj,Array.getElem?_toList];show (flatK enc k d)[j]?=some ((flatK enc k d)[j]!);rw[getElem!_def,Array.getElem?_eq_getElem hj]
theorem zfh (F c:Array Value) (h:F.size<=c.size):(putCells id 0 F c).toList.take F.size=F.toList/\(putCells id 0 F c).size=c.size:=by
 refine ⟨?_,by simp[putCells]⟩;apply List.ext_getElem?;intro t;rw[List.getElem?_take];by_cases ht:t<F.size
 · rw[if_pos ht,Array.getElem?_toList,Array.getElem?_toList];unfold putCells;rw[Array.getElem?_mapIdx,Array.getElem?_eq_getElem (by omega:t<c.size)];simp[ht]
 · rw[if_neg ht,List.getElem?_eq_none (by rw[Array.length_toList];omega)]
theorem za5 (hk:∀x,(enc x).length=k) {W W':World} {B n:Nat} {e:TypeId} {g cap:Nat} {d r:Array α} (hn:d.size=n) (h:W.ownsRow B e k (.slice (some ⟨g,0,none⟩) n cap) n (d.toList.flatMap enc)) (hr:r.size=d.size) (hS:SWK enc k W g 0 r W') :
    W'.ownsRow B e k (.slice (some ⟨g,0,none⟩) n cap) n (r.toList.flatMap enc)/\Fr W W' (fun j=>j=g):=by
 have hg:=(zbk hk hn h).2.1;obtain ⟨hl,h⟩:=h;obtain ⟨m,os,rfl⟩:=hS;rcases h with ⟨h,_⟩ | ⟨g',cap',cur,hv,hB,hh,h1,h2,h3,h4⟩
 · cases h
 · cases hv
   have hsz:(flatK enc k r).size<=cur.size:=by
    rw[size_flatK,h3,hr,hn];exact Nat.mul_le_mul_right k h1
   have hp:=zfh (flatK enc k r) cur hsz;have hheap:(sortWorldK enc k W g 0 m r os).heap[g]?=some (.cells (putCells id 0 (flatK enc k r) cur) e (0,0)):=by
    show ((W.heap.modify g _)++os)[g]?=_;rw[Array.getElem?_append_left (by simpa using hg),Array.getElem?_modify,if_pos rfl,hh];rfl
   have hlen:(r.toList.flatMap enc).length=n*k:=(by rw[zaD hk,Array.length_toList,hr,hn]);refine ⟨⟨hlen,.inr ⟨g,cap,_,rfl,hB,hheap,h1,h2,by rw[hp.2,h3],?_⟩⟩,⟨rfl,rfl,rfl,?_,fun j hj hne=>?_⟩⟩
   · have h5:=hp.1;rw[size_flatK,hr,hn,zcN hk]at h5;exact h5
   · show W.heap.size<=((W.heap.modify g _)++os).size;simp
   · show ((W.heap.modify g _)++os)[j]?=_;rw[Array.getElem?_append_left (by simpa using hj),Array.getElem?_modify,if_neg (fun e=>hne e.symm)]
end
end Go.Proofs.YtaeiifngjglchaaGreatDoor
end
