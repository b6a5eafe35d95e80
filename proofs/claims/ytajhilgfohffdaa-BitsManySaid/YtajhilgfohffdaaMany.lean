/- The walk of BitsMany. -/
import Derived.Test.YtajhilgfohffdaaRuns
namespace Go.Proofs.Ytajhilgfohffdaa
open Go.RowKit Go.Lib Bp

theorem zeros_cnt (n i : Nat) : cnt (List.replicate n false) i = 0 := by
  unfold cnt
  rw [List.count_eq_zero]
  intro h
  have := List.mem_of_mem_take h
  simp at this

/-- The Vec in block g, all of whose memory lies from block B on. -/
structure Far (B : Nat) (wr : World) (g : Nat) (l : List Bool) : Prop where
  ex : ∃ A c r c', B ≤ g ∧ wr.heap[g]? = some (.cells #[.slice A l.length c, .slice (some ⟨r, 0, none⟩) (l.length + 1) c'] 38 (0, 0)) ∧
    wr.ownsRow B 3 1 (.slice (some ⟨r, 0, none⟩) (l.length + 1) c') (l.length + 1) (rks l l.length) ∧ wr.ownsRow B 4 1 (.slice A l.length c) l.length (bls l)
  len : l.length ≤ 4096
theorem Far.vec {B : Nat} {wr : World} {g : Nat} {l : List Bool} (h : Far B wr g l) : Vec wr g l := by
  obtain ⟨A, c, r, c', _, h1, h2, h3⟩ := h.ex
  exact ⟨⟨A, c, r, c', h1, Seg.of_own h3, Seg.of_own h2⟩, h.len⟩
theorem Far.set {B : Nat} {wr : World} {g : Nat} {l : List Bool} (h : Far B wr g l) {p : Addr} (hp : p.block < B) (u : Value) : Far B (wr.setCell p u) g l := by
  obtain ⟨A, c, r, c', h0, h1, h2, h3⟩ := h.ex
  exact ⟨⟨A, c, r, c', h0, by rw [Below.heap_setCell _ _ _ _ (by omega)]; exact h1, ownsRow_setCell_below h2 hp u, ownsRow_setCell_below h3 hp u⟩, h.len⟩
theorem Far.of {w wr : World} {g : Nat} {A : Option Addr} {c : Nat} {l : List Bool} {r c' : Nat} (h : NewSt w wr g A c l r c' l.length) (hl : l.length ≤ 4096) : Far w.heap.size wr g l :=
  ⟨⟨A, c, r, c', h.hB, h.blk, h.own, h.row⟩, hl⟩

/-- What stands in the last line of BitsMany: the nil one, then the other, then the known one. -/
theorem rank_nil' (i : Int) (w : World) :
    Calls Try.prog 11 #[.pointer none, .int .i64 i] w fun e w' => e = .returned (.int .i64 0) ∧ Below w.heap.size w w' :=
  (rank_nil i w).mono fun _ _ ⟨he, n, hw⟩ => ⟨he, hw ▸ below_drewN' (Below.refl _ _) n⟩

theorem len_nil' (w : World) :
    Calls Try.prog 15 #[.pointer none] w fun e w' => e = .returned (.int .i64 0) ∧ Below w.heap.size w w' :=
  (len_nil w).mono fun _ _ ⟨he, hw⟩ => ⟨he, hw ▸ Below.refl _ _⟩
theorem get_nil' (i : Int) (w : World) :
    Calls Try.prog 18 #[.pointer none, .int .i64 i] w fun e w' => e = .returned (.bool false) ∧ Below w.heap.size w w' :=
  (get_nil i w).mono fun _ _ ⟨he, hw⟩ => ⟨he, hw ▸ Below.refl _ _⟩

set_option maxHeartbeats 4000000 in
set_option maxRecDepth 100000 in
theorem many_few (n : Nat) (at0 : Int) (w : World) (hn : n ≤ 4096) :
    Calls Try.prog 8 #[.int .i64 n, .int .i64 at0] w fun e w' => e = .returned (.bool true) ∧ Below w.heap.size w w' := by
  have hmk : ∀ W : World, (Instr.makeSlice 22 (.int .i64 (n : Int)) (.int .i64 (n : Int))).run Try.prog W = .ok (.slice (some ⟨W.heap.size, 0, none⟩) n n) (W.alloc (.cells (madeCells #[.bool false] n) 4)) :=
    fun W => run_make_row' (P := Try.prog) 22 4 (.bool false) 1 Try.underlying22 info4 rfl .i64 .i64 n (by omega) (by omega) W
  have hrow := World.rowIs_made w (.bool false) n 4
  have hbel := (Below.refl w.heap.size w).alloc (Nat.le_refl _) (.cells (madeCells #[.bool false] n) 4)
  have hsz : w.heap.size < (w.alloc (.cells (madeCells #[.bool false] n) 4)).heap.size := by simp
  have hd : decide ((n : Int) ≤ 4096) = true := decide_eq_true (by omega)
  go_enter Try.func8, Try.ntmps8
  go_wp2_with fail
  generalize w.alloc (.cells (madeCells #[.bool false] n) 4) = W0 at hrow hbel hsz ⊢
  have hseg : Seg W0 (some ⟨w.heap.size, 0, none⟩) (List.replicate n false).length (bls (List.replicate n false)) := by
    have h := seg_of_row (f := fun _ => false) hrow
    rw [List.map_const', List.length_range] at h
    rw [List.length_replicate]; exact h
  have hnew := new_st (some ⟨w.heap.size, 0, none⟩) n (List.replicate n false) W0 hseg (by simpa using hn)
  rw [List.length_replicate] at hnew
  have HN := Lib.hid hnew
  clear hnew hseg
  refine HN.out.mono ?_
  rintro e w1 ⟨g, A1, c1, r, c', rfl, hst⟩
  have hfar : Far W0.heap.size w1 g (List.replicate n false) := Far.of (by simpa using hst) (by simpa using hn)
  have hrow1 : w1.rowIs w.heap.size 4 n (fun _ => .bool false) := hrow.of_block (hst.below.block _ hrow.lt)
  have hB1 := hbel.trans (hst.below.mono hbel.size)
  clear hst hrow hbel
  have HROW := Lib.hid hrow1
  clear hrow1
  go_wp2_with fail
  go_loopw [7] (fun i wr => ∃ k : Nat, k ≤ n ∧ i = .int .i64 k ∧ wr.rowIs w.heap.size 4 n (fun j => .bool (decide (j < k))) ∧ Far W0.heap.size wr g (List.replicate n false) ∧ Below w.heap.size w wr) (fun i _ => n - (intOf i).toNat)
  case atStart => exact ⟨0, Nat.zero_le _, rfl, by simpa using HROW.out, hfar, hB1⟩
  case round =>
    obtain ⟨k, hk, rfl, hr, hf, hB⟩ := hrel
    by_cases hlt : k < n
    · have hcell := hr.cell hlt
      have hfro := hr.frozen k
      have HNEW := Lib.hid (hr.set k (.bool true))
      have hf2 := hf.set (p := ⟨w.heap.size, k, none⟩) hsz (.bool true)
      clear hr hf
      go_wp2_with fail
      go_roundw
      case rel =>
        refine ⟨k + 1, by omega, by go_num, HNEW.out.congr fun j hj => ?_, hf2, hB.setCell (Nat.le_refl _) _⟩
        by_cases hjk : j = k
        · rw [if_pos hjk, decide_eq_true (by omega)]
        · rw [if_neg hjk]
          congr 1
          rw [decide_eq_decide]
          omega
      case measure => simp [intOf]; omega
    · have hv := hf.vec
      clear hr hf
      go_wp2_with fail
      refine (len_nil' _).mono ?_
      rintro e w2 ⟨rfl, hb2⟩
      go_wp2_with fail
      refine (rank_nil' _ _).mono ?_
      rintro e w3 ⟨rfl, hb3⟩
      go_wp2_with fail
      refine (select_nil _ _).mono ?_
      rintro e w4 ⟨rfl, hb4⟩
      go_wp2_with fail
      refine (next_nil _ _).mono ?_
      rintro e w5 ⟨rfl, hb5⟩
      go_wp2_with fail
      refine (get_nil' _ _).mono ?_
      rintro e w6 ⟨rfl, hb6⟩
      have hB6 := thn (thn (thn (thn (thn hB hb2) hb3) hb4) hb5) hb6
      have hv6 := ((((hv.below hb2).below hb3).below hb4).below hb5).below hb6
      go_wp2_with fail
      refine (rank_is g (List.replicate n false) _ 0 _ hv6 (by unfold rankZ; rw [zeros_cnt]; rfl)).mono ?_
      rintro e w7 ⟨rfl, hb7⟩
      go_wp2_with fail
      refine (known_calls _).mono ?_
      rintro e w8 ⟨rfl, hb8⟩
      go_wp2_with fail
      go_ret
      exact ⟨rfl, thn (thn hB6 hb7) hb8⟩

set_option maxHeartbeats 4000000 in
set_option maxRecDepth 100000 in
theorem many_more (n : Nat) (at0 : Int) (w : World) (hn : 4096 < n) (hn2 : n ≤ 4200) :
    Calls Try.prog 8 #[.int .i64 n, .int .i64 at0] w fun e w' => e = .returned (.bool true) ∧ Below w.heap.size w w' := by
  have hmk : ∀ W : World, (Instr.makeSlice 22 (.int .i64 (n : Int)) (.int .i64 (n : Int))).run Try.prog W = .ok (.slice (some ⟨W.heap.size, 0, none⟩) n n) (W.alloc (.cells (madeCells #[.bool false] n) 4)) :=
    fun W => run_make_row' (P := Try.prog) 22 4 (.bool false) 1 Try.underlying22 info4 rfl .i64 .i64 n (by omega) (by omega) W
  have hrow := World.rowIs_made w (.bool false) n 4
  have hbel := (Below.refl w.heap.size w).alloc (Nat.le_refl _) (.cells (madeCells #[.bool false] n) 4)
  have hd : decide ((n : Int) ≤ 4096) = false := decide_eq_false (by omega)
  go_enter Try.func8, Try.ntmps8
  go_wp2_with fail
  generalize w.alloc (.cells (madeCells #[.bool false] n) 4) = W0 at hrow hbel ⊢
  have HROW := Lib.hid hrow
  clear hrow
  refine (new_nil _ _ _ _ hn).mono ?_
  rintro e w1 ⟨rfl, rfl⟩
  go_wp2_with fail
  go_loopw [7] (fun i wr => ∃ k : Nat, k ≤ n ∧ i = .int .i64 k ∧ wr.rowIs w.heap.size 4 n (fun j => .bool (decide (j < k))) ∧ Below w.heap.size w wr) (fun i _ => n - (intOf i).toNat)
  case atStart => exact ⟨0, Nat.zero_le _, rfl, by simpa using HROW.out, hbel⟩
  case round =>
    obtain ⟨k, hk, rfl, hr, hB⟩ := hrel
    by_cases hlt : k < n
    · have hcell := hr.cell hlt
      have hfro := hr.frozen k
      have HNEW := Lib.hid (hr.set k (.bool true))
      clear hr
      go_wp2_with fail
      go_roundw
      case rel =>
        refine ⟨k + 1, by omega, by go_num, HNEW.out.congr fun j hj => ?_, hB.setCell (Nat.le_refl _) _⟩
        by_cases hjk : j = k
        · rw [if_pos hjk, decide_eq_true (by omega)]
        · rw [if_neg hjk]
          congr 1
          rw [decide_eq_decide]
          omega
      case measure => simp [intOf]; omega
    · clear hr
      go_wp2_with fail
      refine (len_nil' _).mono ?_
      rintro e w2 ⟨rfl, hb2⟩
      go_wp2_with fail
      refine (rank_nil' _ _).mono ?_
      rintro e w3 ⟨rfl, hb3⟩
      go_wp2_with fail
      refine (select_nil _ _).mono ?_
      rintro e w4 ⟨rfl, hb4⟩
      go_wp2_with fail
      refine (next_nil _ _).mono ?_
      rintro e w5 ⟨rfl, hb5⟩
      go_wp2_with fail
      refine (get_nil' _ _).mono ?_
      rintro e w6 ⟨rfl, hb6⟩
      have hB6 := thn (thn (thn (thn (thn hB hb2) hb3) hb4) hb5) hb6
      go_wp2_with fail
      refine (known_calls _).mono ?_
      rintro e w8 ⟨rfl, hb8⟩
      go_wp2_with fail
      go_ret
      exact ⟨rfl, thn hB6 hb8⟩

theorem many_walk (n at0 : Int) (w : World) (_ : (Lit.int .i64 n).wf = true) (_ : (Lit.int .i64 at0).wf = true) :
    Calls Try.prog 8 #[.int .i64 n, .int .i64 at0] w fun e w' => e = .returned (.bool true) ∧ Below w.heap.size w w' := by
  by_cases h0 : n < 0
  · go_enter Try.func8, Try.ntmps8
    go_wp2_with fail
    go_ret
    exact ⟨rfl, Below.refl _ _⟩
  · by_cases h1 : 4200 < n
    · go_enter Try.func8, Try.ntmps8
      go_wp2_with fail
      go_ret
      exact ⟨rfl, Below.refl _ _⟩
    · by_cases h2 : 4096 < n
      · have h := many_more n.toNat at0 w (by omega) (by omega)
        rwa [Int.toNat_of_nonneg (by omega)] at h
      · have h := many_few n.toNat at0 w (by omega)
        rwa [Int.toNat_of_nonneg (by omega)] at h
end Go.Proofs.Ytajhilgfohffdaa
