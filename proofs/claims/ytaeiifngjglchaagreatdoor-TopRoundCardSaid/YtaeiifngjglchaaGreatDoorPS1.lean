/- Proved on the way: Steps of a region that draws its order, ; Steps of a drawn region by its table, sh. Each theorem states its own conditions. -/
import Derived.Test.YtaeiifngjglchaaGreatDoorPW2
section
namespace Go.Proofs.YtaeiifngjglchaaGreatDoorW.PrintLast
open Go
section
variable {P:Program} {md:Region.Mode} {ops:Array Oper} {Q:Exit->Act->World->Prop} {S:World->Prop} {ds:List Nat}
theorem pU (i:Nat) {oi:Oper} {N:Option Tmp} {v:Value} {fuel:Nat} {l l':Array Bool} {a a':Act} {w:World} (h:wpAnyLast P md ops Q S ds fuel l' a' w)
    (hi:ops[i]?=some oi:=by rfl) (hN:oi.dst=N:=by ((conv=>lhs;whnf)<;>rfl)) (_:l.setIfInBounds i true=l':=by (simp only[List.setIfInBounds_toArray,List.set_cons_zero,List.set_cons_succ];rfl)) (hc:anyB md ops l l' i=true:=by kernel_rfl)
    (hQ:∀c a w,Q (.panic c) (a.put oi.dst v) w->Q (.panic c) a w:=by exact fun _ _ _ h=>h) (hy:Yields P ops oi v a:=by exact Or.inl ⟨by rfl,by (intro w';go_simp;try with_reducible rfl)⟩)
    (ha:a.put N v=a':=by (simp only[Act.put,List.setIfInBounds_toArray,List.set_cons_zero,List.set_cons_succ];rfl)):wpAnyLast P md ops Q S ds (fuel+1) l a w:=pure_ l' hi hN hc hQ hy ha h
theorem pS (i:Nat) {oi:Oper} {N:Option Tmp} {fuel:Nat} {l l':Array Bool} {a a':Act} {w:World} (h:wpAnyLast P md ops Q S ds fuel l' a' w)
    (hi:ops[i]?=some oi:=by rfl) (hN:oi.dst=N:=by ((conv=>lhs;whnf)<;>rfl)) (_:l.setIfInBounds i true=l':=by (simp only[List.setIfInBounds_toArray,List.set_cons_zero,List.set_cons_succ];rfl)) (hc:anyB md ops l l' i=true:=by kernel_rfl)
    (hQ:∀c a w,Q (.panic c) (a.put oi.dst undef) w->Q (.panic c) a w:=by exact fun _ _ _ h=>h) (hy:Yields P ops oi undef a:=by exact Or.inr ⟨by rfl,rfl⟩)
    (ha:a.put N undef=a':=by (simp only[Act.put,List.setIfInBounds_toArray,List.set_cons_zero,List.set_cons_succ];rfl)):wpAnyLast P md ops Q S ds (fuel+1) l a w:=pure_ l' hi hN hc hQ hy ha h
theorem tK (i:Nat) {oi:Oper} {N:Option Tmp} {v:Value} {fuel:Nat} {l l':Array Bool} {a a':Act} {w:World} (hS:S w) (h:wpAnyLast P md ops Q S ds fuel l' a' w)
    (hi:ops[i]?=some oi:=by rfl) (hN:oi.dst=N:=by ((conv=>lhs;whnf)<;>rfl)) (_:l.setIfInBounds i true=l':=by (simp only[List.setIfInBounds_toArray,List.set_cons_zero,List.set_cons_succ];rfl)) (hc:takeB md ops ds l l' i=true:=by kernel_rfl)
    (hQ:∀c a w,Q (.panic c) (a.put oi.dst v) w->Q (.panic c) a w:=by exact fun _ _ _ h=>h) (hy:YieldsIf P ops S oi v a:=by exact Or.inl ⟨by rfl,by (intro w' hS';(try simp only at hS');(repeat' (obtain ⟨_,hS'⟩:=hS'));go_simp;try with_reducible rfl)⟩)
    (ha:a.put N v=a':=by (simp only[Act.put,List.setIfInBounds_toArray,List.set_cons_zero,List.set_cons_succ];rfl)):wpAnyLast P md ops Q S ds (fuel+1) l a w:=take_ l' hi hN hc hQ hy hS ha h
theorem sA (n:Nat) (ds:List Nat) (S:World->Prop) {id:Nat} {l:Array Bool} {a:Act} {w:World} (hS:S w.drew) (h:S w.drew->wpAnyLast P .any ops Q S ds n l a w.drew)
    (hm:P.follows .mixedOrders=true:=by kernel_rfl) (hn:ops.size=n:=by rfl) (hl:Array.replicate n false=l:=by (simp only[<-List.toArray_replicate,List.replicate_succ,List.replicate_zero];rfl)):(Code.region id ops true).wp P Q a w:=zdv (S:=S) (ds:=ds) l hm hn hl hS h
theorem sH (n:Nat) {R:World->Prop} {id:Nat} {l:Array Bool} {a:Act} {w:World} (H:∀w',R w'->S w') (hR:R w.drew) (h:S w.drew->wpAnyLast P .any ops Q S [] n l a w.drew)
    (hm:P.follows .mixedOrders=true:=by kernel_rfl) (hn:ops.size=n:=by rfl) (hl:Array.replicate n false=l:=by (simp only[<-List.toArray_replicate,List.replicate_succ,List.replicate_zero];rfl)):(Code.region id ops true).wp P Q a w:=zdv (S:=S) (ds:=[]) l hm hn hl (H _ hR) h
theorem sT (n:Nat) {id:Nat} {l:Array Bool} {a:Act} {w:World} (h:True->wpAnyLast P .any ops Q (fun _=>True) [] n l a w.drew)
    (hm:P.follows .mixedOrders=true:=by kernel_rfl) (hn:ops.size=n:=by rfl) (hl:Array.replicate n false=l:=by (simp only[<-List.toArray_replicate,List.replicate_succ,List.replicate_zero];rfl)):(Code.region id ops true).wp P Q a w:=zdv (S:=fun _=>True) (ds:=[]) l hm hn hl trivial h
theorem oN (i:Nat) {oi:Oper} {N:Option Tmp} {fuel:Nat} {l l':Array Bool} {a:Act} {w:World}
    (h:∀K:Act->World->Prop,Shut (∀a' w',S w'->(S w'->wpAnyLast P md ops Q S ds fuel l' a' w')->K a' w')->if Region.wanted oi (yielded ops a.tmps)=true then Oper.wp P oi a w K Q else K (a.put N undef) w)
    (hi:ops[i]?=some oi:=by rfl) (hN:oi.dst=N:=by ((conv=>lhs;whnf)<;>rfl)) (_:l.setIfInBounds i true=l':=by (simp only[List.setIfInBounds_toArray,List.set_cons_zero,List.set_cons_succ];rfl)) (hc:readyB md ops l l' i=true:=by kernel_rfl) (hd:i∉ds:=by simp) :
    wpAnyLast P md ops Q S ds (fuel+1) l a w:=one_ l' hi hN hc hd h
theorem lA (i:Nat) {oi:Oper} {N:Option Tmp} {fuel:Nat} {l l':Array Bool} {a:Act} {w:World}
    (h:∀K:Act->World->Prop,Shut (∀a' w',wpAnyLast P md ops Q S ds fuel l' a' w'->K a' w')->if Region.wanted oi (yielded ops a.tmps)=true then Oper.wp P oi a w K Q else K (a.put N undef) w)
    (hi:ops[i]?=some oi:=by rfl) (hN:oi.dst=N:=by ((conv=>lhs;whnf)<;>rfl)) (_:l.setIfInBounds i true=l':=by (simp only[List.setIfInBounds_toArray,List.set_cons_zero,List.set_cons_succ];rfl)) (hc:readyB md ops l l' i=true:=by kernel_rfl) (hd:i∈ds:=by simp) :
    wpAnyLast P md ops Q S ds (fuel+1) l a w:=last_ l' hi hN hc hd h
theorem tW (i j:Nat) {oi oj:Oper} {Ni Nj:Option Tmp} {fuel:Nat} {l li lj:Array Bool} {a:Act} {w:World}
    (h1:∀K:Act->World->Prop,Shut (∀a' w',S w'->(S w'->wpAnyLast P md ops Q S ds fuel li a' w')->K a' w')->if Region.wanted oi (yielded ops a.tmps)=true then Oper.wp P oi a w K Q else K (a.put Ni undef) w)
    (h2:∀K:Act->World->Prop,Shut (∀a' w',S w'->(S w'->wpAnyLast P md ops Q S ds fuel lj a' w')->K a' w')->if Region.wanted oj (yielded ops a.tmps)=true then Oper.wp P oj a w K Q else K (a.put Nj undef) w)
    (hi:ops[i]?=some oi:=by rfl) (hj:ops[j]?=some oj:=by rfl) (hNi:oi.dst=Ni:=by ((conv=>lhs;whnf)<;>rfl)) (hNj:oj.dst=Nj:=by ((conv=>lhs;whnf)<;>rfl)) (_:l.setIfInBounds i true=li:=by (simp only[List.setIfInBounds_toArray,List.set_cons_zero,List.set_cons_succ];rfl)) (_:l.setIfInBounds j true=lj:=by (simp only[List.setIfInBounds_toArray,List.set_cons_zero,List.set_cons_succ];rfl))
    (hc:(Region.ready md ops l == [i,j] && l.setIfInBounds i true == li && l.setIfInBounds j true == lj)=true:=by kernel_rfl) (hdi:i∉ds:=by simp) (hdj:j∉ds:=by simp) :
    wpAnyLast P md ops Q S ds (fuel+1) l a w:=two_ li lj hi hj hNi hNj hc hdi hdj h1 h2
theorem oU {K:Act->World->Prop} {N N':Option Tmp} {v:Value} {a a':Act} {w':World} {fuel:Nat} {l':Array Bool} (hK:Shut (∀a' w',S w'->(S w'->wpAnyLast P md ops Q S ds fuel l' a' w')->K a' w')) (hS:S w') (h:S w'->wpAnyLast P md ops Q S ds fuel l' a' w')
    (hN:N=N':=by ((conv=>lhs;whnf)<;>rfl)) (ha:a.put N' v=a':=by (simp only[Act.put,List.setIfInBounds_toArray,List.set_cons_zero,List.set_cons_succ];rfl)):K (a.put N v) w':=hK.out _ _ hS (fun h'=>norm_ (hN ▸ ha) (h h'))
theorem cL {oi:Oper} {N:Option Tmp} {a:Act} {w:World} {K:Act->World->Prop} {f:FuncId} {fn:Func} {as:Array Operand} {ts:Array TypeId} (hf:P.funcs[f]?=some fn) (args:Array Value)
    (h:Calls P f args w fun e w'=>∃v,e=.returned v/\K (a.put N v) w') (hname:(fn.name == "runtime.NumGoroutine")=false:=by kernel_rfl) (hb:fn.body.isSome=true:=by rfl)
    (hN:oi.dst=N:=by rfl) (hw:Region.wanted oi (yielded ops a.tmps)=true:=by rfl) (hop:oi.op=.call { callee:=.value (.func f),args:=as,argTypes:=ts }:=by rfl) (hargs:as.map a.eval=args:=by (simp only[List.map_toArray,List.map_cons,List.map_nil];rfl))
    : if Region.wanted oi (yielded ops a.tmps)=true then Oper.wp P oi a w K Q else K (a.put N undef) w:=goes_ hf hname hb args hw hN hop hargs h
theorem vA {oi:Oper} {N:Option Tmp} {a:Act} {w:World} {K:Act->World->Prop} (v:Value) (w1:World) (h:K (a.put N v) w1)
    (hN:oi.dst=N:=by rfl) (hw:Region.wanted oi (yielded ops a.tmps)=true:=by rfl) (hrun:(execOp a.eval oi).run P w=.ok (.value v) w1:=by go_simp):if Region.wanted oi (yielded ops a.tmps)=true then Oper.wp P oi a w K Q else K (a.put N undef) w:=zm2 hw hN hrun h
end
section
variable {P:Program} {md:Region.Mode} {ops:Array Oper} {Q:Exit->Act->World->Prop} {S:World->Prop} {ds:List Nat}
theorem pX (i:Nat) {T:Bool × List (List Nat × List Nat)} {oi:Oper} {N:Option Tmp} {v:Value} {fuel:Nat} {l l':Array Bool} {a a':Act} {w:World} (hT:rtab md ops=T) (h:wpAnyLast P md ops Q S ds fuel l' a' w)
    (hi:ops[i]?=some oi:=by rfl) (hN:oi.dst=N:=by ((conv=>lhs;whnf)<;>rfl)) (_:l.setIfInBounds i true=l':=by (simp only[List.setIfInBounds_toArray,List.set_cons_zero,List.set_cons_succ];rfl)) (hc:anyT T l.toList l'.toList i=true:=by kernel_rfl)
    (hQ:∀c a w,Q (.panic c) (a.put oi.dst v) w->Q (.panic c) a w:=by exact fun _ _ _ h=>h) (hy:Yields P ops oi v a:=by exact Or.inl ⟨by rfl,by (intro w';go_simp;try with_reducible rfl)⟩)
    (ha:a.put N v=a':=by (simp only[Act.put,List.setIfInBounds_toArray,List.set_cons_zero,List.set_cons_succ,i64_w,i32_w];rfl)):wpAnyLast P md ops Q S ds (fuel+1) l a w:=pure_ l' hi hN (any_of hT hc) hQ hy ha h
end
end Go.Proofs.YtaeiifngjglchaaGreatDoorW.PrintLast
end
