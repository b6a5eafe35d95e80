/-
  DERIVED. GIVEN WITH THE SEED: THE CARDS: each row of YtaeiifngjglchaaGreatDoorRows.lean that lists a variable, with what it lists TIED to the program's text (the seventh form; the later family's looks); each row that meets fmt, with fmt's text TOLD by the authors' own Lean function (tested against real Go, not proved from fmt's source: count such statements apart). THE CARD IS WHAT COUNTS. Prove the row's statement (the work); the ties are given (YtaeiifngjglchaaGreatDoorTie.lean); close each card by the builder's one call (the guide's Derived/Test/ToyasCard.lean, 'card_holds'). Laid BY PROGRAM, IN A SANDBOX (cutbox-door.mjs). By AI agents, Wed Nov 11 2026. No macro, syntax, notation, axiom, sorry.
-/
import Derived.Test.YtaeiifngjglchaaGreatDoorRows
import GoSem.ClaimSeven
namespace Go.Proofs.YtaeiifngjglchaaGreatDoor
namespace Rows

/-- THE TIED CARD OF 'triviumtop.TopRound'. -/
def topRoundCard : Claim7 := { stood := { row := topRoundRow, standIns := [], harness := (true, "93f86cbdeeddef421b5bef7d7b8e50bdebf81bf91d5f07f846c967554999a11a"), looks := false }, kinds := [], alts := [], laidByText := true, laidKinds := [.data, .pinned, .pinned], laidTests := true, laidLooks := .later }
def TopRoundCardSaid : Prop := Claim7.holds Tryz.pinned (.plain (OpenSpec.ofChange topRoundSpec)) topRoundCard

/-- THE TIED CARD OF 'triviumtop.TopAsk'. -/
def topAskCard : Claim7 := { stood := { row := topAskRow, standIns := [], harness := (true, "93f86cbdeeddef421b5bef7d7b8e50bdebf81bf91d5f07f846c967554999a11a"), looks := false }, kinds := [], alts := [], laidByText := true, laidKinds := [.data, .pinned, .pinned], laidTests := true, laidLooks := .later }
def TopAskCardSaid : Prop := Claim7.holds Tryz.pinned (.plain (OpenSpec.ofChange topAskSpec)) topAskCard

/-- THE TIED CARD OF 'triviumtop.TopStar'. -/
def topStarCard : Claim7 := { stood := { row := topStarRow, standIns := [], harness := (true, "93f86cbdeeddef421b5bef7d7b8e50bdebf81bf91d5f07f846c967554999a11a"), looks := false }, kinds := [], alts := [], laidByText := true, laidKinds := [.data, .pinned, .pinned], laidTests := true, laidLooks := .later }
def TopStarCardSaid : Prop := Claim7.holds Tryz.pinned (.plain (OpenSpec.ofChange topStarSpec)) topStarCard

/-- THE SECOND FORM's CARD OF 'triviumtop.TopRound'. -/
def topRoundUptoCard : Claim7 := { stood := { row := topRoundUptoRow, standIns := [], harness := (true, "93f86cbdeeddef421b5bef7d7b8e50bdebf81bf91d5f07f846c967554999a11a"), looks := false }, kinds := [], alts := [], laidByText := true, laidKinds := [.data, .pinned, .pinned], laidTests := true, laidLooks := .later }
def TopRoundUptoCardSaid : Prop := Claim7.holds Tryz.pinned (.plain (OpenSpec.upto topRoundSpec)) topRoundUptoCard

/-- THE SECOND FORM's CARD OF 'triviumtop.TopAsk'. -/
def topAskUptoCard : Claim7 := { stood := { row := topAskUptoRow, standIns := [], harness := (true, "93f86cbdeeddef421b5bef7d7b8e50bdebf81bf91d5f07f846c967554999a11a"), looks := false }, kinds := [], alts := [], laidByText := true, laidKinds := [.data, .pinned, .pinned], laidTests := true, laidLooks := .later }
def TopAskUptoCardSaid : Prop := Claim7.holds Tryz.pinned (.plain (OpenSpec.upto topAskSpec)) topAskUptoCard

/-- THE SECOND FORM's CARD OF 'triviumtop.TopStar'. -/
def topStarUptoCard : Claim7 := { stood := { row := topStarUptoRow, standIns := [], harness := (true, "93f86cbdeeddef421b5bef7d7b8e50bdebf81bf91d5f07f846c967554999a11a"), looks := false }, kinds := [], alts := [], laidByText := true, laidKinds := [.data, .pinned, .pinned], laidTests := true, laidLooks := .later }
def TopStarUptoCardSaid : Prop := Claim7.holds Tryz.pinned (.plain (OpenSpec.upto topStarSpec)) topStarUptoCard
end Rows
end Go.Proofs.YtaeiifngjglchaaGreatDoor
