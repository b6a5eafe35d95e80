/-
  No cell of these rows narrows 'for every input' (looked for: loops, veiled, ifaces, maps, wideKeys, modest, calm, conditions, laid).
  DERIVED. THE GIVEN ROWS OF THIS SEAT. 9 by the template 'for every input the law returns true; each argument reads behind the call as it read before'; 0 by the template 'total and deterministic' (their statements: YtjnamiiiceggmaaTotals.lean).
  GIVEN WITH THE SEED: the statements are not yours to turn. If you find one false, say at which input.
  Laid BY PROGRAM, IN A SANDBOX (cutbox-rows.mjs): the forced cells as the released guide's own fill.sh prints them over the translation c75116efe760c873… (all of the seat's roots in one cut). By AI agents, Wed Nov 11 2026. No macro, syntax, notation, axiom, sorry.
-/
import Derived.Test.YtjnamiiiceggmaaChecked
import GoSem.Claim
import GoSem.ClaimJoined
import GoSem.ClaimMapViews
import Derived.JoinedTies
import Derived.KernelRfl
namespace Go.Proofs.Ytjnamiiiceggmaa
/- THE CELL 'sum', in the pinned program and in every row, IS THE sha256 OF THE DUMP (.gsa) THAT YtjnamiiiceggmaaProg.lean LOADS. Nothing in Lean hashes anything: it is a label: what it is worth is what the hold of that sum in a sandbox is worth. -/
noncomputable def Try.pinned : Pinned := { name := "ytjnamiiiceggmaa", sum := "c75116efe760c87370d5e762c41e3c4616397f6cca5a4ec302217da783d31089", checked := Try.checked }
namespace Rows
def none {H : Type} : Left H := { results := [], args := [] }

/-- 'triviumlaw6.FrontShares': WHATEVER THE INPUT: true; the input reads as it did. -/
def frontSharesSpec : ChangeSpec := { name := "frontShares", fn := fun _ => fun
  | [d1, d2] => { results := [.lit (.bool true)], args := [d1, d2] }
  | _ => none }
def frontSharesRow : OpenClaim := { program := "ytjnamiiiceggmaa", sum := "c75116efe760c87370d5e762c41e3c4616397f6cca5a4ec302217da783d31089", func := "trivium/triviumlaw6.FrontShares", spec := "frontShares", apart := false }
def FrontSharesSaid : Prop := frontSharesRow.holds Try.pinned (OpenSpec.ofChange frontSharesSpec)

/-- ITS FALSE NEIGHBOUR: 'it returns false'. Refute it at one input. -/
def frontSharesWrong : ChangeSpec := { name := "frontShares", fn := fun _ => fun
  | [d1, d2] => { results := [.lit (.bool false)], args := [d1, d2] }
  | _ => none }
def FrontSharesWrongFalsely : Prop := frontSharesRow.holds Try.pinned (OpenSpec.ofChange frontSharesWrong)

/-- 'triviumlaw6.FrontMany': WHATEVER THE INPUT: true; the input reads as it did. -/
def frontManySpec : ChangeSpec := { name := "frontMany", fn := fun _ => fun
  | [d1, d2] => { results := [.lit (.bool true)], args := [d1, d2] }
  | _ => none }
def frontManyRow : OpenClaim := { program := "ytjnamiiiceggmaa", sum := "c75116efe760c87370d5e762c41e3c4616397f6cca5a4ec302217da783d31089", func := "trivium/triviumlaw6.FrontMany", spec := "frontMany", apart := false }
def FrontManySaid : Prop := frontManyRow.holds Try.pinned (OpenSpec.ofChange frontManySpec)

/-- ITS FALSE NEIGHBOUR: 'it returns false'. Refute it at one input. -/
def frontManyWrong : ChangeSpec := { name := "frontMany", fn := fun _ => fun
  | [d1, d2] => { results := [.lit (.bool false)], args := [d1, d2] }
  | _ => none }
def FrontManyWrongFalsely : Prop := frontManyRow.holds Try.pinned (OpenSpec.ofChange frontManyWrong)

/-- 'triviumlaw6.FrontLess': WHATEVER THE INPUT: true; the input reads as it did. -/
def frontLessSpec : ChangeSpec := { name := "frontLess", fn := fun _ => fun
  | [d] => { results := [.lit (.bool true)], args := [d] }
  | _ => none }
def frontLessRow : OpenClaim := { program := "ytjnamiiiceggmaa", sum := "c75116efe760c87370d5e762c41e3c4616397f6cca5a4ec302217da783d31089", func := "trivium/triviumlaw6.FrontLess", spec := "frontLess", apart := false }
def FrontLessSaid : Prop := frontLessRow.holds Try.pinned (OpenSpec.ofChange frontLessSpec)

/-- ITS FALSE NEIGHBOUR: 'it returns false'. Refute it at one input. -/
def frontLessWrong : ChangeSpec := { name := "frontLess", fn := fun _ => fun
  | [d] => { results := [.lit (.bool false)], args := [d] }
  | _ => none }
def FrontLessWrongFalsely : Prop := frontLessRow.holds Try.pinned (OpenSpec.ofChange frontLessWrong)

/-- 'triviumlaw6.FrontReads': WHATEVER THE INPUT: true; the input reads as it did. -/
def frontReadsSpec : ChangeSpec := { name := "frontReads", fn := fun _ => fun
  | [d] => { results := [.lit (.bool true)], args := [d] }
  | _ => none }
def frontReadsRow : OpenClaim := { program := "ytjnamiiiceggmaa", sum := "c75116efe760c87370d5e762c41e3c4616397f6cca5a4ec302217da783d31089", func := "trivium/triviumlaw6.FrontReads", spec := "frontReads", apart := false }
def FrontReadsSaid : Prop := frontReadsRow.holds Try.pinned (OpenSpec.ofChange frontReadsSpec)

/-- ITS FALSE NEIGHBOUR: 'it returns false'. Refute it at one input. -/
def frontReadsWrong : ChangeSpec := { name := "frontReads", fn := fun _ => fun
  | [d] => { results := [.lit (.bool false)], args := [d] }
  | _ => none }
def FrontReadsWrongFalsely : Prop := frontReadsRow.holds Try.pinned (OpenSpec.ofChange frontReadsWrong)

/-- 'triviumlaw6.FrontBack': WHATEVER THE INPUT: true; the input reads as it did. -/
def frontBackSpec : ChangeSpec := { name := "frontBack", fn := fun _ => fun
  | [d1, d2] => { results := [.lit (.bool true)], args := [d1, d2] }
  | _ => none }
def frontBackRow : OpenClaim := { program := "ytjnamiiiceggmaa", sum := "c75116efe760c87370d5e762c41e3c4616397f6cca5a4ec302217da783d31089", func := "trivium/triviumlaw6.FrontBack", spec := "frontBack", apart := false }
def FrontBackSaid : Prop := frontBackRow.holds Try.pinned (OpenSpec.ofChange frontBackSpec)

/-- ITS FALSE NEIGHBOUR: 'it returns false'. Refute it at one input. -/
def frontBackWrong : ChangeSpec := { name := "frontBack", fn := fun _ => fun
  | [d1, d2] => { results := [.lit (.bool false)], args := [d1, d2] }
  | _ => none }
def FrontBackWrongFalsely : Prop := frontBackRow.holds Try.pinned (OpenSpec.ofChange frontBackWrong)

/-- 'triviumlaw6.FrontPrefix': WHATEVER THE INPUT: true; the input reads as it did. -/
def frontPrefixSpec : ChangeSpec := { name := "frontPrefix", fn := fun _ => fun
  | [d1, d2] => { results := [.lit (.bool true)], args := [d1, d2] }
  | _ => none }
def frontPrefixRow : OpenClaim := { program := "ytjnamiiiceggmaa", sum := "c75116efe760c87370d5e762c41e3c4616397f6cca5a4ec302217da783d31089", func := "trivium/triviumlaw6.FrontPrefix", spec := "frontPrefix", unfollowed := true, recurses := true, apart := false }
def FrontPrefixSaid : Prop := frontPrefixRow.holds Try.pinned (OpenSpec.ofChange frontPrefixSpec)

/-- ITS FALSE NEIGHBOUR: 'it returns false'. Refute it at one input. -/
def frontPrefixWrong : ChangeSpec := { name := "frontPrefix", fn := fun _ => fun
  | [d1, d2] => { results := [.lit (.bool false)], args := [d1, d2] }
  | _ => none }
def FrontPrefixWrongFalsely : Prop := frontPrefixRow.holds Try.pinned (OpenSpec.ofChange frontPrefixWrong)

/-- 'triviumlaw6.FrontOne': WHATEVER THE INPUT: true; the input reads as it did. -/
def frontOneSpec : ChangeSpec := { name := "frontOne", fn := fun _ => fun
  | [d1, d2, d3] => { results := [.lit (.bool true)], args := [d1, d2, d3] }
  | _ => none }
def frontOneRow : OpenClaim := { program := "ytjnamiiiceggmaa", sum := "c75116efe760c87370d5e762c41e3c4616397f6cca5a4ec302217da783d31089", func := "trivium/triviumlaw6.FrontOne", spec := "frontOne", apart := false }
def FrontOneSaid : Prop := frontOneRow.holds Try.pinned (OpenSpec.ofChange frontOneSpec)

/-- ITS FALSE NEIGHBOUR: 'it returns false'. Refute it at one input. -/
def frontOneWrong : ChangeSpec := { name := "frontOne", fn := fun _ => fun
  | [d1, d2, d3] => { results := [.lit (.bool false)], args := [d1, d2, d3] }
  | _ => none }
def FrontOneWrongFalsely : Prop := frontOneRow.holds Try.pinned (OpenSpec.ofChange frontOneWrong)

/-- 'triviumlaw6.FrontTells': WHATEVER THE INPUT: true; the input reads as it did. -/
def frontTellsSpec : ChangeSpec := { name := "frontTells", fn := fun _ => fun
  | [d1, d2] => { results := [.lit (.bool true)], args := [d1, d2] }
  | _ => none }
def frontTellsRow : OpenClaim := { program := "ytjnamiiiceggmaa", sum := "c75116efe760c87370d5e762c41e3c4616397f6cca5a4ec302217da783d31089", func := "trivium/triviumlaw6.FrontTells", spec := "frontTells", unfollowed := true, recurses := true, apart := false }
def FrontTellsSaid : Prop := frontTellsRow.holds Try.pinned (OpenSpec.ofChange frontTellsSpec)

/-- ITS FALSE NEIGHBOUR: 'it returns false'. Refute it at one input. -/
def frontTellsWrong : ChangeSpec := { name := "frontTells", fn := fun _ => fun
  | [d1, d2] => { results := [.lit (.bool false)], args := [d1, d2] }
  | _ => none }
def FrontTellsWrongFalsely : Prop := frontTellsRow.holds Try.pinned (OpenSpec.ofChange frontTellsWrong)

/-- 'triviumlaw6.FrontOfNothing': WHATEVER THE INPUT: true; the input reads as it did. -/
def frontOfNothingSpec : ChangeSpec := { name := "frontOfNothing", fn := fun _ => fun
  | [d1, d2] => { results := [.lit (.bool true)], args := [d1, d2] }
  | _ => none }
def frontOfNothingRow : OpenClaim := { program := "ytjnamiiiceggmaa", sum := "c75116efe760c87370d5e762c41e3c4616397f6cca5a4ec302217da783d31089", func := "trivium/triviumlaw6.FrontOfNothing", spec := "frontOfNothing", unfollowed := true, recurses := true, apart := false }
def FrontOfNothingSaid : Prop := frontOfNothingRow.holds Try.pinned (OpenSpec.ofChange frontOfNothingSpec)

/-- ITS FALSE NEIGHBOUR: 'it returns false'. Refute it at one input. -/
def frontOfNothingWrong : ChangeSpec := { name := "frontOfNothing", fn := fun _ => fun
  | [d1, d2] => { results := [.lit (.bool false)], args := [d1, d2] }
  | _ => none }
def FrontOfNothingWrongFalsely : Prop := frontOfNothingRow.holds Try.pinned (OpenSpec.ofChange frontOfNothingWrong)

/- THE SECOND FORM. 'bulk': how many values and letters a reading holds, each counted each time it is reached (what is shared counts as often as it is met; a slice's spare places count too). A statement '..UptoSaid' is the law's where the arguments, and the package variables that the reading takes, are together of bulk at most 1048576: NARROWER than '..Said'. Prove '..Said' where nothing that the law and all that it calls make is longer than what came in: it says more and counts as full. Else prove '..UptoSaid'. A law counts once. -/
mutual
def uptoBulk {H : Type} : DataW H → Nat
  | .lit (.string bytes) => bytes.length + 1
  | .lit _ => 1
  | .nil => 1
  | .ptr d => uptoBulk d + 1
  | .slice elems spare => uptoBulkAll elems + uptoBulkAll spare + 1
  | .agg parts => uptoBulkAll parts + 1
  | .iface _ d => uptoBulk d + 1
  | .map entries => uptoBulkEntries entries + 1
  | .held _ => 1
def uptoBulkAll {H : Type} : List (DataW H) → Nat
  | [] => 0
  | d :: r => uptoBulk d + uptoBulkAll r
def uptoBulkEntries {H : Type} : List (Lit × DataW H) → Nat
  | [] => 0
  | x :: r => uptoBulkEntry x + uptoBulkEntries r
def uptoBulkEntry {H : Type} : Lit × DataW H → Nat
  | (.string bytes, d) => bytes.length + uptoBulk d + 1
  | (_, d) => uptoBulk d + 1
 end
def uptoSmall : (H : Type) → List (DataW H) → Bool := fun _ ds => decide (uptoBulkAll ds ≤ 1048576)
def OpenSpec.upto (s : _root_.Go.ChangeSpec) : _root_.Go.OpenSpec := { _root_.Go.OpenSpec.ofChange s with cond := some uptoSmall }

/-- 'triviumlaw6.FrontShares', WHERE WHAT IT READS IS OF BULK AT MOST 1048576: true; the input reads as it did. -/
def frontSharesUptoRow : OpenClaim := { program := "ytjnamiiiceggmaa", sum := "c75116efe760c87370d5e762c41e3c4616397f6cca5a4ec302217da783d31089", func := "trivium/triviumlaw6.FrontShares", spec := "frontShares", apart := false, narrowed := true }
def FrontSharesUptoSaid : Prop := frontSharesUptoRow.holds Try.pinned (OpenSpec.upto frontSharesSpec)

/-- 'triviumlaw6.FrontMany', WHERE WHAT IT READS IS OF BULK AT MOST 1048576: true; the input reads as it did. -/
def frontManyUptoRow : OpenClaim := { program := "ytjnamiiiceggmaa", sum := "c75116efe760c87370d5e762c41e3c4616397f6cca5a4ec302217da783d31089", func := "trivium/triviumlaw6.FrontMany", spec := "frontMany", apart := false, narrowed := true }
def FrontManyUptoSaid : Prop := frontManyUptoRow.holds Try.pinned (OpenSpec.upto frontManySpec)

/-- 'triviumlaw6.FrontLess', WHERE WHAT IT READS IS OF BULK AT MOST 1048576: true; the input reads as it did. -/
def frontLessUptoRow : OpenClaim := { program := "ytjnamiiiceggmaa", sum := "c75116efe760c87370d5e762c41e3c4616397f6cca5a4ec302217da783d31089", func := "trivium/triviumlaw6.FrontLess", spec := "frontLess", apart := false, narrowed := true }
def FrontLessUptoSaid : Prop := frontLessUptoRow.holds Try.pinned (OpenSpec.upto frontLessSpec)

/-- 'triviumlaw6.FrontReads', WHERE WHAT IT READS IS OF BULK AT MOST 1048576: true; the input reads as it did. -/
def frontReadsUptoRow : OpenClaim := { program := "ytjnamiiiceggmaa", sum := "c75116efe760c87370d5e762c41e3c4616397f6cca5a4ec302217da783d31089", func := "trivium/triviumlaw6.FrontReads", spec := "frontReads", apart := false, narrowed := true }
def FrontReadsUptoSaid : Prop := frontReadsUptoRow.holds Try.pinned (OpenSpec.upto frontReadsSpec)

/-- 'triviumlaw6.FrontBack', WHERE WHAT IT READS IS OF BULK AT MOST 1048576: true; the input reads as it did. -/
def frontBackUptoRow : OpenClaim := { program := "ytjnamiiiceggmaa", sum := "c75116efe760c87370d5e762c41e3c4616397f6cca5a4ec302217da783d31089", func := "trivium/triviumlaw6.FrontBack", spec := "frontBack", apart := false, narrowed := true }
def FrontBackUptoSaid : Prop := frontBackUptoRow.holds Try.pinned (OpenSpec.upto frontBackSpec)

/-- 'triviumlaw6.FrontPrefix', WHERE WHAT IT READS IS OF BULK AT MOST 1048576: true; the input reads as it did. -/
def frontPrefixUptoRow : OpenClaim := { program := "ytjnamiiiceggmaa", sum := "c75116efe760c87370d5e762c41e3c4616397f6cca5a4ec302217da783d31089", func := "trivium/triviumlaw6.FrontPrefix", spec := "frontPrefix", unfollowed := true, recurses := true, apart := false, narrowed := true }
def FrontPrefixUptoSaid : Prop := frontPrefixUptoRow.holds Try.pinned (OpenSpec.upto frontPrefixSpec)

/-- 'triviumlaw6.FrontOne', WHERE WHAT IT READS IS OF BULK AT MOST 1048576: true; the input reads as it did. -/
def frontOneUptoRow : OpenClaim := { program := "ytjnamiiiceggmaa", sum := "c75116efe760c87370d5e762c41e3c4616397f6cca5a4ec302217da783d31089", func := "trivium/triviumlaw6.FrontOne", spec := "frontOne", apart := false, narrowed := true }
def FrontOneUptoSaid : Prop := frontOneUptoRow.holds Try.pinned (OpenSpec.upto frontOneSpec)

/-- 'triviumlaw6.FrontTells', WHERE WHAT IT READS IS OF BULK AT MOST 1048576: true; the input reads as it did. -/
def frontTellsUptoRow : OpenClaim := { program := "ytjnamiiiceggmaa", sum := "c75116efe760c87370d5e762c41e3c4616397f6cca5a4ec302217da783d31089", func := "trivium/triviumlaw6.FrontTells", spec := "frontTells", unfollowed := true, recurses := true, apart := false, narrowed := true }
def FrontTellsUptoSaid : Prop := frontTellsUptoRow.holds Try.pinned (OpenSpec.upto frontTellsSpec)

/-- 'triviumlaw6.FrontOfNothing', WHERE WHAT IT READS IS OF BULK AT MOST 1048576: true; the input reads as it did. -/
def frontOfNothingUptoRow : OpenClaim := { program := "ytjnamiiiceggmaa", sum := "c75116efe760c87370d5e762c41e3c4616397f6cca5a4ec302217da783d31089", func := "trivium/triviumlaw6.FrontOfNothing", spec := "frontOfNothing", unfollowed := true, recurses := true, apart := false, narrowed := true }
def FrontOfNothingUptoSaid : Prop := frontOfNothingUptoRow.holds Try.pinned (OpenSpec.upto frontOfNothingSpec)

end Rows
end Go.Proofs.Ytjnamiiiceggmaa
