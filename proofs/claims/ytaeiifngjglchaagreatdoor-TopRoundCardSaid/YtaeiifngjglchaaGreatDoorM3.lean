/- Proved on the way: (for holds_tied_plain_at) The closed fac. Each theorem states its own conditions. -/
import Derived.Test.YtaeiifngjglchaaGreatDoorRows
import Derived.SevenTiedAt
import Derived.ProofKit
import Derived.Test.YtaeiifngjglchaaGreatDoorPL1
section
namespace Go.Proofs.YtaeiifngjglchaaGreatDoor.FdTopRound
open Go.Proofs.Tryz
open Go
theorem w0:Rows.topRoundRow.wfByText (OpenSpec.ofChange Rows.topRoundSpec)=true:=by kernel_rfl
theorem w1:Tryz.pinned.checked.prog.mainIs=some (true, "93f86cbdeeddef421b5bef7d7b8e50bdebf81bf91d5f07f846c967554999a11a".toList):=by kernel_rfl
theorem w2:prog.funcNamed "trivium/triviumtop.TopRound" = some 3:=by kernel_rfl
theorem w3:false=prog.looks []:=by kernel_rfl
theorem v0:prog.wantsStandIn 9=false:=by kernel_rfl
theorem w5:false=Rows.topRoundRow.goesBy prog:=by kernel_rfl
end Go.Proofs.YtaeiifngjglchaaGreatDoor.FdTopRound
end
