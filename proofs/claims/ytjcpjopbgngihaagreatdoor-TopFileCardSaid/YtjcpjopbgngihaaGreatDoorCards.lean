/-
  DERIVED. GIVEN WITH THE SEED: THE CARDS: each row of YtjcpjopbgngihaaGreatDoorRows.lean that lists a variable, with what it lists TIED to the program's text (the seventh form; the later family's looks); each row that meets fmt, with fmt's text TOLD by the authors' own Lean function (tested against real Go, not proved from fmt's source: count such statements apart). THE CARD IS WHAT COUNTS. Prove the row's statement (the work); the ties are given (YtjcpjopbgngihaaGreatDoorTie.lean); close each card by the builder's one call (the guide's Derived/Test/ToyasCard.lean, 'card_holds'). Laid BY PROGRAM, IN A SANDBOX (cutbox-door.mjs). By AI agents, Wed Nov 11 2026. No macro, syntax, notation, axiom, sorry.
-/
import Derived.Test.YtjcpjopbgngihaaGreatDoorRows
import GoSem.ClaimSeven
namespace Go.Proofs.YtjcpjopbgngihaaGreatDoor
namespace Rows

/-- THE TIED CARD OF 'triviumtop.TopFile'. -/
def topFileCard : Claim7 := { stood := { row := topFileRow, standIns := [], harness := (true, "4e9a5a303042c3de69b2efc9012d2df5e60c5b6140503db27b63464468aecdfa"), looks := false }, kinds := [], alts := [], laidByText := true, laidKinds := [.data, .pinned, .pinned], laidTests := true, laidLooks := .later }
def TopFileCardSaid : Prop := Claim7.holds Tryz.pinned (.plain (OpenSpec.ofChange topFileSpec)) topFileCard

/-- THE TIED CARD OF 'triviumtop.TopRound'. -/
def topRoundCard : Claim7 := { stood := { row := topRoundRow, standIns := [], harness := (true, "4e9a5a303042c3de69b2efc9012d2df5e60c5b6140503db27b63464468aecdfa"), looks := false }, kinds := [], alts := [], laidByText := true, laidKinds := [.data, .pinned, .pinned], laidTests := true, laidLooks := .later }
def TopRoundCardSaid : Prop := Claim7.holds Tryz.pinned (.plain (OpenSpec.ofChange topRoundSpec)) topRoundCard

/-- THE SECOND FORM's CARD OF 'triviumtop.TopFile'. -/
def topFileUptoCard : Claim7 := { stood := { row := topFileUptoRow, standIns := [], harness := (true, "4e9a5a303042c3de69b2efc9012d2df5e60c5b6140503db27b63464468aecdfa"), looks := false }, kinds := [], alts := [], laidByText := true, laidKinds := [.data, .pinned, .pinned], laidTests := true, laidLooks := .later }
def TopFileUptoCardSaid : Prop := Claim7.holds Tryz.pinned (.plain (OpenSpec.upto topFileSpec)) topFileUptoCard

/-- THE SECOND FORM's CARD OF 'triviumtop.TopRound'. -/
def topRoundUptoCard : Claim7 := { stood := { row := topRoundUptoRow, standIns := [], harness := (true, "4e9a5a303042c3de69b2efc9012d2df5e60c5b6140503db27b63464468aecdfa"), looks := false }, kinds := [], alts := [], laidByText := true, laidKinds := [.data, .pinned, .pinned], laidTests := true, laidLooks := .later }
def TopRoundUptoCardSaid : Prop := Claim7.holds Tryz.pinned (.plain (OpenSpec.upto topRoundSpec)) topRoundUptoCard
end Rows
end Go.Proofs.YtjcpjopbgngihaaGreatDoor
