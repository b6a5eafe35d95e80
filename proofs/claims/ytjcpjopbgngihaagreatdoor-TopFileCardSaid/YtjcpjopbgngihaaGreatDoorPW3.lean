/- Words that the kit's print tool wrote for this seat, cut by a program of mine to what this claim reaches; each theorem states its own conditions. -/
import Derived.Test.YtjcpjopbgngihaaGreatDoorPW1
section
namespace Go.Proofs.YtjcpjopbgngihaaGreatDoorW.PrintWords
open Go.RowKit
section
variable {P:Program} {d:Nat} {xs ys:Array Value} {f:Field} {fs:List Field} {a b:Value} {r s:Bool} {w:World}
end
end Go.Proofs.YtjcpjopbgngihaaGreatDoorW.PrintWords
end
section
namespace Go.Proofs.YtjcpjopbgngihaaGreatDoorW.PrintWords
theorem Reps.one {α:Type} {R:α->List Value->Prop} {ps:List α} {cs:List Value} {p:α} {v:Value} (hp:R p [v]) (h:Reps R 1 ps cs):Reps R 1 (p::ps) (v::cs):=by
 refine ⟨by simp[h.1],fun j q hq=>?_⟩;cases j with
 | zero=>
  simp only[List.getElem?_cons_zero,Option.some.injEq]at hq;subst hq;simpa using hp
 | succ j=>
  simp only[List.getElem?_cons_succ]at hq;have h1:=h.2 j q hq;simpa [Nat.mul_one] using h1
end Go.Proofs.YtjcpjopbgngihaaGreatDoorW.PrintWords
end
section
namespace Go.Proofs.YtjcpjopbgngihaaGreatDoorW.PrintWords
open Go.RowKit
section
variable {P:Program} {ops:Array Oper} {rest:List Oper} {o:Oper} {a:Act} {Q:Exit->Act->World->Prop} {W:World}
end
end Go.Proofs.YtjcpjopbgngihaaGreatDoorW.PrintWords
end
