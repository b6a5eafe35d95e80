/- The one known row of bits answers as it should. -/
import Derived.Test.YtajhilgfohffdaaOps
namespace Go.Proofs.Ytajhilgfohffdaa
open Go.RowKit Go.Lib Bp

def kn : List Bool := [false, true, false, true]
theorem kn_len : kn.length = 4 := rfl
theorem kn_sel : selZ kn 1 = 3 := by decide
theorem kn_rank : rankZ kn 2 = 1 := by decide
theorem kn_next : nextZ kn 2 = 3 := by decide
theorem kn_seg (w : World) : Seg (w.alloc (.cells #[.bool false, .bool true, .bool false, .bool true] 4)) (some ⟨w.heap.size, 0, none⟩) kn.length (bls kn) := by
  refine ⟨rfl, fun _ => ⟨_, rfl, fun j u hu => ?_⟩⟩
  have hj : j < 4 := by have := (List.getElem?_eq_some_iff.1 hu).1; simpa [bls, kn] using this
  rw [add_zero', World.cell?_alloc_at _ _ _ _ (by simp)]
  rw [← hu]
  match j, hj with
  | 0, _ => rfl
  | 1, _ => rfl
  | 2, _ => rfl
  | 3, _ => rfl

theorem thn {a b c : World} (h : Below a.heap.size a b) (k : Below b.heap.size b c) : Below a.heap.size a c := h.trans (k.mono h.size)

set_option maxHeartbeats 1000000 in
theorem known_calls (w : World) : Calls Try.prog 14 #[] w fun e w' => e = .returned (.bool true) ∧ Below w.heap.size w w' := by
  have hnew := new_calls (some ⟨w.heap.size, 0, none⟩) 4 kn (w.alloc (.cells #[.bool false, .bool true, .bool false, .bool true] 4)) (kn_seg w) (by decide)
  rw [kn_len] at hnew
  have HN := Lib.hid hnew
  clear hnew
  go_enter Try.func14, Try.ntmps14
  go_wp2_with fail
  refine HN.out.mono ?_
  rintro e w1 ⟨g, rfl, _, hv1, hb1⟩
  go_wp2_with fail
  refine (select_calls g kn 1 _ hv1).mono ?_
  rw [kn_sel]
  rintro e w2 ⟨rfl, hb2⟩
  have hv2 := hv1.below hb2
  go_wp2_with fail
  refine (rank_calls g kn 2 _ hv2).mono ?_
  rw [kn_rank]
  rintro e w3 ⟨rfl, nq, rfl⟩
  have hv3 := hv2.drewN nq
  go_wp2_with fail
  refine (next_calls g kn 2 _ hv3).mono ?_
  rw [kn_next]
  rintro e w4 ⟨rfl, hb4⟩
  have hv4 := hv3.below hb4
  go_wp2_with fail
  refine (len_calls g kn _ hv4).mono ?_
  rw [kn_len]
  rintro e w5 ⟨rfl, rfl⟩
  go_wp2
  go_ret
  exact ⟨rfl, thn (thn (thn (thn ((Below.refl _ w).alloc (Nat.le_refl _) _) hb1) hb2) (below_drewN' (Below.refl _ _) nq)) hb4⟩
end Go.Proofs.Ytajhilgfohffdaa
