/- The walk of BitsRuns. -/
import Derived.Test.YtajhilgfohffdaaIs
import Derived.Deep.OwnRows
namespace Go.Proofs.Ytajhilgfohffdaa
open Go.RowKit Go.Lib Bp

/-- a zeros, b ones, c zeros -/
def runs (a b c : Nat) : List Bool := (List.range (a + b + c)).map fun j => decide (a ≤ j ∧ j < a + b)
theorem runs_len (a b c : Nat) : (runs a b c).length = a + b + c := by simp [runs]
theorem runs_get (a b c j : Nat) (h : j < (runs a b c).length) : (runs a b c)[j] = decide (a ≤ j ∧ j < a + b) := by simp [runs]
theorem runs_cnt (a b c i : Nat) (h : i ≤ a + b + c) : cnt (runs a b c) i = min i (a + b) - a := by
  induction i with
  | zero => rw [cnt_zero]; omega
  | succ i ih =>
    rw [cnt_succ _ i (by rw [runs_len]; omega), ih (by omega), runs_get]
    by_cases h1 : a ≤ i ∧ i < a + b
    · simp [h1]; omega
    · rw [decide_eq_false h1]; simp; omega
theorem runs_all (a b c : Nat) : cnt (runs a b c) (runs a b c).length = b := by rw [runs_len, runs_cnt _ _ _ _ (Nat.le_refl _)]; omega
theorem runs_at (a b c k : Nat) (h : k < b) : At (runs a b c) k (a + k) := by
  refine ⟨by rw [runs_len]; omega, by rw [runs_get]; simp; omega, ?_⟩
  rw [runs_cnt _ _ _ _ (by omega)]; omega
theorem runs_rank (a b c : Nat) (i : Int) (r : Nat) (h0 : 0 ≤ i) (h1 : i ≤ a + b + c) (hr : r = min i.toNat (a + b) - a) : rankZ (runs a b c) i = (r : Nat) := by
  unfold rankZ; rw [runs_cnt _ _ _ _ (by omega), hr]

theorem seg_of_row {w : World} {g n : Nat} {f : Nat → Bool} (h : w.rowIs g 4 n (fun j => .bool (f j))) : Seg w (some ⟨g, 0, none⟩) n (bls ((List.range n).map f)) := by
  refine ⟨by simp [bls], fun _ => ⟨_, rfl, fun j u hu => ?_⟩⟩
  have hj : j < n := by have := (List.getElem?_eq_some_iff.1 hu).1; simpa [bls] using this
  rw [add_zero', h.cell hj, ← hu]
  simp [bls, hj]

set_option maxHeartbeats 4000000 in
set_option maxRecDepth 100000 in
theorem runs_in (a b c : Nat) (w : World) (ha : a ≤ 1300) (hb : b ≤ 1300) (hc : c ≤ 1300) :
    Calls Try.prog 4 #[.int .i64 a, .int .i64 b, .int .i64 c] w fun e w' => e = .returned (.bool true) ∧ Below w.heap.size w w' := by
  have hmk : ∀ W : World, (Instr.makeSlice 22 (.int .i64 ((a : Int) + (b : Int) + (c : Int))) (.int .i64 ((a : Int) + (b : Int) + (c : Int)))).run Try.prog W = .ok (.slice (some ⟨W.heap.size, 0, none⟩) (a + b + c) (a + b + c)) (W.alloc (.cells (madeCells #[.bool false] (a + b + c)) 4)) := by
    intro W
    have := run_make_row' (P := Try.prog) 22 4 (.bool false) 1 Try.underlying22 info4 rfl .i64 .i64 (a + b + c) (by omega) (by omega) W
    rwa [Int.natCast_add, Int.natCast_add] at this
  have hrow := World.rowIs_made w (.bool false) (a + b + c) 4
  have hbel := (Below.refl w.heap.size w).alloc (Nat.le_refl _) (.cells (madeCells #[.bool false] (a + b + c)) 4)
  go_enter Try.func4, Try.ntmps4
  go_wp2_with fail
  generalize w.alloc (.cells (madeCells #[.bool false] (a + b + c)) 4) = W0 at hrow hbel ⊢
  have HROW := Lib.hid hrow
  clear hrow
  go_loopw [8] (fun i wr => ∃ k : Nat, k ≤ b ∧ i = .int .i64 ((a : Int) + (k : Int)) ∧ wr.rowIs w.heap.size 4 (a + b + c) (fun j => .bool (decide (a ≤ j ∧ j < a + k))) ∧ Below w.heap.size w wr) (fun i _ => a + b - (intOf i).toNat)
  case atStart =>
    refine ⟨0, Nat.zero_le _, by simp, ?_, hbel⟩
    refine HROW.out.congr fun j hj => ?_
    rw [decide_eq_false (by omega)]
  case round =>
    obtain ⟨k, hk, rfl, hr, hB⟩ := hrel
    by_cases hlt : k < b
    · have hcell := hr.cell (i := a + k) (by omega)
      have hfro := hr.frozen (a + k)
      have hnew := hr.set (a + k) (.bool true)
      have HNEW := Lib.hid hnew
      clear hr hnew
      go_wp2_with fail
      go_roundw
      case rel =>
        refine ⟨k + 1, by omega, by go_num, HNEW.out.congr fun j hj => ?_, hB.setCell (Nat.le_refl _) _⟩
        by_cases hjk : j = a + k
        · rw [if_pos hjk, decide_eq_true (by omega)]
        · rw [if_neg hjk]
          congr 1
          rw [decide_eq_decide]
          omega
      case measure => simp [intOf]; omega
    · obtain rfl : k = b := by omega
      have hnew := new_calls (some ⟨w.heap.size, 0, none⟩) (a + k + c) (runs a k c) wr (by rw [runs_len]; exact seg_of_row hr) (by rw [runs_len]; omega)
      rw [runs_len] at hnew
      have HN := Lib.hid hnew
      clear hr hnew
      go_wp2_with fail
      refine HN.out.mono ?_
      rintro e w1 ⟨g, rfl, _, hv1, hb1⟩
      have hB1 := thn hB hb1
      by_cases hk0 : k = 0
      · have hkb : ((k : Int) == 0) = true := beq_iff_eq.2 (by omega)
        have HK := Lib.hid hk0
        clear hk0
        go_wp2_with fail
        refine (rank_is g (runs a k c) _ 0 _ hv1 (by rw [runs_rank a k c _ 0 (by omega) (by omega) (by omega)]; rfl)).mono ?_
        rintro e w2 ⟨rfl, hb2⟩
        have hv2 := hv1.below hb2
        have hB2 := thn hB1 hb2
        clear hb2 hB1 hv1
        go_wp2_with fail
        refine (rank_is g (runs a k c) _ k _ hv2 (runs_rank a k c _ k (by omega) (by omega) (by omega))).mono ?_
        rintro e w3 ⟨rfl, hb3⟩
        have hv3 := hv2.below hb3
        have hB3 := thn hB2 hb3
        clear hb3 hB2 hv2
        go_wp2_with fail
        refine (rank_is g (runs a k c) _ k _ hv3 (runs_rank a k c _ k (by omega) (by omega) (by omega))).mono ?_
        rintro e w4 ⟨rfl, hb4⟩
        have hv4 := hv3.below hb4
        have hB4 := thn hB3 hb4
        clear hb4 hB3 hv3
        go_wp2_with fail
        refine (next_is g (runs a k c) _ (-1) _ hv4 (by unfold nextZ; rw [runs_rank a k c _ 0 (by omega) (by omega) (by simp)]; exact selZ_none (by rw [runs_all, HK.out]; simp))).mono ?_
        rintro e w5 ⟨rfl, hb5⟩
        have hv5 := hv4.below hb5
        have hB5 := thn hB4 hb5
        clear hb5 hB4 hv4
        go_wp2_with fail
        refine (next_is g (runs a k c) _ (-1) _ hv5 (by unfold nextZ; rw [runs_rank a k c _ k (by omega) (by omega) (by omega)]; exact selZ_none (by rw [runs_all]; omega))).mono ?_
        rintro e w6 ⟨rfl, hb6⟩
        have hv6 := hv5.below hb6
        have hB6 := thn hB5 hb6
        clear hb6 hB5 hv5
        go_wp2_with fail
        refine (select_is g (runs a k c) _ (-1) _ hv6 (selZ_none (by rw [runs_all]; omega))).mono ?_
        rintro e w8 ⟨rfl, hb8⟩
        have hB8 := thn hB6 hb8
        go_wp2_with fail
        refine (known_calls _).mono ?_
        rintro e w9 ⟨rfl, hb9⟩
        go_wp2_with fail
        go_ret
        exact ⟨rfl, thn hB8 hb9⟩
      · have hkb : ((k : Int) == 0) = false := beq_eq_false_iff_ne.2 (by omega)
        go_wp2_with fail
        refine (rank_is g (runs a k c) _ 0 _ hv1 (by rw [runs_rank a k c _ 0 (by omega) (by omega) (by omega)]; rfl)).mono ?_
        rintro e w2 ⟨rfl, hb2⟩
        have hv2 := hv1.below hb2
        have hB2 := thn hB1 hb2
        clear hb2 hB1 hv1
        go_wp2_with fail
        refine (rank_is g (runs a k c) _ k _ hv2 (runs_rank a k c _ k (by omega) (by omega) (by omega))).mono ?_
        rintro e w3 ⟨rfl, hb3⟩
        have hv3 := hv2.below hb3
        have hB3 := thn hB2 hb3
        clear hb3 hB2 hv2
        go_wp2_with fail
        refine (rank_is g (runs a k c) _ k _ hv3 (runs_rank a k c _ k (by omega) (by omega) (by omega))).mono ?_
        rintro e w4 ⟨rfl, hb4⟩
        have hv4 := hv3.below hb4
        have hB4 := thn hB3 hb4
        clear hb4 hB3 hv3
        go_wp2_with fail
        refine (next_is g (runs a k c) _ a _ hv4 (by unfold nextZ; rw [runs_rank a k c _ 0 (by omega) (by omega) (by simp)]; exact selZ_at (runs_at a k c 0 (by omega)))).mono ?_
        rintro e w5 ⟨rfl, hb5⟩
        have hv5 := hv4.below hb5
        have hB5 := thn hB4 hb5
        clear hb5 hB4 hv4
        go_wp2_with fail
        refine (next_is g (runs a k c) _ (-1) _ hv5 (by unfold nextZ; rw [runs_rank a k c _ k (by omega) (by omega) (by omega)]; exact selZ_none (by rw [runs_all]; omega))).mono ?_
        rintro e w6 ⟨rfl, hb6⟩
        have hv6 := hv5.below hb6
        have hB6 := thn hB5 hb6
        clear hb6 hB5 hv5
        go_wp2_with fail
        refine (select_is g (runs a k c) _ ((a : Int) + (k : Int) - 1) _ hv6 (by
          have := selZ_at (runs_at a k c (k - 1) (by omega))
          rw [show ((k - 1 : Nat) : Int) = (k : Int) - 1 by omega] at this
          rw [this]; omega)).mono ?_
        rintro e w7 ⟨rfl, hb7⟩
        have hv7 := hv6.below hb7
        have hB7 := thn hB6 hb7
        clear hb7 hB6 hv6
        go_wp2_with fail
        refine (select_is g (runs a k c) _ (-1) _ hv7 (selZ_none (by rw [runs_all]; omega))).mono ?_
        rintro e w8 ⟨rfl, hb8⟩
        have hB8 := thn hB7 hb8
        go_wp2_with fail
        refine (known_calls _).mono ?_
        rintro e w9 ⟨rfl, hb9⟩
        go_wp2_with fail
        go_ret
        exact ⟨rfl, thn hB8 hb9⟩

set_option maxHeartbeats 1000000 in
theorem runs_walk (a b c : Int) (w : World) (_ : (Lit.int .i64 a).wf = true) (_ : (Lit.int .i64 b).wf = true) (_ : (Lit.int .i64 c).wf = true) :
    Calls Try.prog 4 #[.int .i64 a, .int .i64 b, .int .i64 c] w fun e w' => e = .returned (.bool true) ∧ Below w.heap.size w w' := by
  by_cases ha : a < 0
  · go_enter Try.func4, Try.ntmps4
    go_wp2_with fail
    go_ret
    exact ⟨rfl, Below.refl _ _⟩
  · by_cases ha' : 1300 < a
    · go_enter Try.func4, Try.ntmps4
      go_wp2_with fail
      go_ret
      exact ⟨rfl, Below.refl _ _⟩
    · by_cases hb : b < 0
      · go_enter Try.func4, Try.ntmps4
        go_wp2_with fail
        go_ret
        exact ⟨rfl, Below.refl _ _⟩
      · by_cases hb' : 1300 < b
        · go_enter Try.func4, Try.ntmps4
          go_wp2_with fail
          go_ret
          exact ⟨rfl, Below.refl _ _⟩
        · by_cases hc : c < 0
          · go_enter Try.func4, Try.ntmps4
            go_wp2_with fail
            go_ret
            exact ⟨rfl, Below.refl _ _⟩
          · by_cases hc' : 1300 < c
            · go_enter Try.func4, Try.ntmps4
              go_wp2_with fail
              go_ret
              exact ⟨rfl, Below.refl _ _⟩
            · have h := runs_in a.toNat b.toNat c.toNat w (by omega) (by omega) (by omega)
              rwa [Int.toNat_of_nonneg (by omega), Int.toNat_of_nonneg (by omega), Int.toNat_of_nonneg (by omega)] at h
end Go.Proofs.Ytajhilgfohffdaa
