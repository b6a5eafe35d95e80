/- The tied card of TopRound: for every string the law returns true and leaves its argument as it was; the three tables that it lists are tied to the program's text. -/
import Derived.Test.YtaeiifngjglchaaGreatDoorM27
import Derived.Test.YtaeiifngjglchaaGreatDoorM3
import Derived.Test.YtaeiifngjglchaaGreatDoorCards
import Derived.Test.YtaeiifngjglchaaGreatDoorTie
set_option linter.unusedVariables false
section
namespace Go.Proofs.YtaeiifngjglchaaGreatDoor.Lr
open Go.Proofs.Tryz
open Go.Shelf Go.Proofs.YtaeiifngjglchaaGreatDoor
open Go.ChangeShapes Go.WideShapes Go.ChangeAt Go.RowKit Go.Lib
open Go.ChangeMaps (open_string shut_string)
theorem holds:Rows.TopRoundSaid:=
 OpenClaim.holds_of_cond 3 f3 rfl rfl rfl rfl rfl rfl rfl ⟨rfl,rfl,rfl,rfl,rfl⟩ rfl rfl rfl rfl rfl (by kernel_rfl) func3 FcTopRound.closed
  (oT (by kernel_rfl)) (by unfold Func.isWrapper;first | (rw[if_pos (by decide +kernel)];kernel_rfl) | (rw[if_neg (by decide +kernel)];exact ⟨rfl,rfl⟩))
  (fun os started H enc _ F0=>by rw[OpenClaim.pre_eq_preRow,zn7];exact lifted os started H enc F0)
end Go.Proofs.YtaeiifngjglchaaGreatDoor.Lr
end
section
namespace Go.Proofs.YtaeiifngjglchaaGreatDoor
open Go.Proofs.Tryz
open Go
theorem topRoundCard_holds:Rows.TopRoundCardSaid:=
 Claim7.holds_tied_plain_at .later [] [.data,.pinned,.pinned] true (true, "93f86cbdeeddef421b5bef7d7b8e50bdebf81bf91d5f07f846c967554999a11a") false
  Lr.holds (fun _ h=>by cases h) FdTopRound.w0 (fun _ h=>by cases h) topRound_row_tie rfl ⟨rfl,rfl⟩ FdTopRound.w1 rfl
  (fun f fn hf hfn=>by
   obtain rfl:f=3:=Option.some.inj (FdTopRound.w2.symm.trans hf) |>.symm;obtain rfl:fn=f3:=(Option.some.inj (func3.symm.trans hfn)).symm;exact ⟨FdTopRound.w3,fun j t ht=>by
    rw[Tryz.params3]at ht;rcases j with _ | j
    · have h3:t=9:=(by simpa using ht.symm);subst h3;exact FdTopRound.v0
    · simp at ht⟩)
  FdTopRound.w5
end Go.Proofs.YtaeiifngjglchaaGreatDoor
end
