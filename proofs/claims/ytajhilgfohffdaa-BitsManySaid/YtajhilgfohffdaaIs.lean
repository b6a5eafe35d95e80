/- The contracts of bits at named answers, and the opening of an argument of bits. -/
import Derived.Test.YtajhilgfohffdaaKnown
import Derived.Deep.Slices
namespace Go.Proofs.Ytajhilgfohffdaa
open Go.RowKit Go.Lib Bp

theorem len_is (g : Nat) (l : List Bool) (w : World) (h : Vec w g l) :
    Calls Try.prog 15 #[.pointer (some ⟨g, 0, none⟩)] w fun e w' => e = .returned (.int .i64 l.length) ∧ Below w.heap.size w w' :=
  (len_calls g l w h).mono fun _ _ ⟨he, hw⟩ => ⟨he, hw ▸ Below.refl _ _⟩
theorem get_is (g : Nat) (l : List Bool) (i : Int) (r : Bool) (w : World) (h : Vec w g l) (hr : getZ l i = r) :
    Calls Try.prog 18 #[.pointer (some ⟨g, 0, none⟩), .int .i64 i] w fun e w' => e = .returned (.bool r) ∧ Below w.heap.size w w' :=
  (get_calls g l i w h).mono fun _ _ ⟨he, hw⟩ => ⟨hr ▸ he, hw ▸ Below.refl _ _⟩
theorem rank_is (g : Nat) (l : List Bool) (i r : Int) (w : World) (h : Vec w g l) (hr : rankZ l i = r) :
    Calls Try.prog 11 #[.pointer (some ⟨g, 0, none⟩), .int .i64 i] w fun e w' => e = .returned (.int .i64 r) ∧ Below w.heap.size w w' :=
  (rank_calls g l i w h).mono fun _ _ ⟨he, n, hw⟩ => ⟨hr ▸ he, hw ▸ below_drewN' (Below.refl _ _) n⟩
theorem select_is (g : Nat) (l : List Bool) (k r : Int) (w : World) (h : Vec w g l) (hr : selZ l k = r) :
    Calls Try.prog 12 #[.pointer (some ⟨g, 0, none⟩), .int .i64 k] w fun e w' => e = .returned (.int .i64 r) ∧ Below w.heap.size w w' :=
  (select_calls g l k w h).mono fun _ _ ⟨he, hw⟩ => ⟨hr ▸ he, hw⟩
theorem next_is (g : Nat) (l : List Bool) (i r : Int) (w : World) (h : Vec w g l) (hr : nextZ l i = r) :
    Calls Try.prog 13 #[.pointer (some ⟨g, 0, none⟩), .int .i64 i] w fun e w' => e = .returned (.int .i64 r) ∧ Below w.heap.size w w' :=
  (next_calls g l i w h).mono fun _ _ ⟨he, hw⟩ => ⟨hr ▸ he, hw⟩

/-! ### an argument of bits -/
section
open Go.ChangeShapes Go.WideShapes Go.Deep
variable {H : Type} {enc : TypeId × Value → H} {w : World} {base : Nat} {spare : Nat → Bool} {held : Bool}
theorem open_bits {A : Option Addr} {n c fuel : Nat} {x : DataW H × List MemPlace} (h : DataW.trod enc Try.prog w base spare held fuel 22 [.slice A n c] = some x) :
    ∃ l : List Bool, l.length = n ∧ Seg w A n (bls l) := by
  rcases open_slice1 Try.underlying22 (by kernel_rfl) h with ⟨hcs, _⟩ | ⟨a, len, cap, m, fu, V, D, Pl, hcs, _, hl, _, hmm, _, hx⟩
  · simp at hcs
    obtain ⟨rfl, rfl, rfl⟩ := hcs
    exact ⟨[], rfl, rfl, fun h => absurd h (by omega)⟩
  · simp at hcs
    obtain ⟨rfl, rfl, rfl⟩ := hcs
    have hm : n ≤ m := by rw [hmm]; split <;> omega
    have hb : ∀ i, i < n → ∃ b : Bool, V i = .bool b := fun i hi => by
      obtain ⟨b, hv, _⟩ := DataW.trod_bool Try.underlying4 (hx i (by omega)).2
      exact ⟨b, by simpa using hv⟩
    obtain ⟨f, hf⟩ := choose_lt hb
    refine ⟨(List.range n).map f, by simp, by simp [bls], fun _ => ⟨a, rfl, fun j u hu => ?_⟩⟩
    have hj : j < n := by have := (List.getElem?_eq_some_iff.1 hu).1; simpa [bls] using this
    rw [(hx j (by omega)).1, hf j hj, ← hu]
    simp [bls, hj]
end
end Go.Proofs.Ytajhilgfohffdaa
