/- What Len, Get, Rank, Select and Next of a Vec answer, the nil one's too. -/
import Derived.Test.YtajhilgfohffdaaNew
import Derived.WalkLawsBesides
import Derived.WalkSpells
namespace Go.Proofs.Ytajhilgfohffdaa
open Go.RowKit Go.Lib Bp

theorem add_zero' (r m : Nat) : (⟨r, 0, none⟩ : Addr).add m = ⟨r, m, none⟩ := by unfold Addr.add; split <;> simp_all
theorem Vec.drewN {w : World} {g : Nat} {l : List Bool} (h : Vec w g l) (n : Nat) : Vec (w.drewN n) g l := h.below ⟨rfl, rfl, rfl, Nat.le_refl _, fun _ _ => rfl⟩
theorem below_drewN' {B : Nat} {a w : World} (h : Below B a w) (n : Nat) : Below B a (w.drewN n) := ⟨h.os, h.tape, h.output, h.size, h.block⟩

/-- bit i; false where there is none -/
def getZ (l : List Bool) (i : Int) : Bool := if h : 0 ≤ i ∧ i < l.length then l[i.toNat]'(by omega) else false

theorem len_calls (g : Nat) (l : List Bool) (w : World) (h : Vec w g l) :
    Calls Try.prog 15 #[.pointer (some ⟨g, 0, none⟩)] w fun e w' => e = .returned (.int .i64 l.length) ∧ w = w' := by
  obtain ⟨A, c, r, c', hb, h1, h2⟩ := h.ex
  have k0 : w.cell? ⟨g, 0, none⟩ = some (.slice A l.length c) := by rw [cell_of_row w g 0 _ 38 (0, 0) hb]; rfl
  clear h1 h2 hb h
  go_enter Try.func15, Try.ntmps15
  go_wp2
  go_ret
  exact ⟨rfl, rfl⟩
theorem len_nil (w : World) :
    Calls Try.prog 15 #[.pointer none] w fun e w' => e = .returned (.int .i64 0) ∧ w = w' := by
  go_enter Try.func15, Try.ntmps15
  go_wp2
  go_ret
  exact ⟨rfl, rfl⟩

theorem rank_nil (i : Int) (w : World) :
    Calls Try.prog 11 #[.pointer none, .int .i64 i] w fun e w' => e = .returned (.int .i64 0) ∧ ∃ n, w' = w.drewN n := by
  go_enter Try.func11, Try.ntmps11
  go_wp2
  go_ret
  exact ⟨rfl, 0, rfl⟩
theorem rank_calls (g : Nat) (l : List Bool) (i : Int) (w : World) (h : Vec w g l) :
    Calls Try.prog 11 #[.pointer (some ⟨g, 0, none⟩), .int .i64 i] w fun e w' => e = .returned (.int .i64 (rankZ l i)) ∧ ∃ n, w' = w.drewN n := by
  obtain ⟨A, c, r, c', hb, h1, h2⟩ := h.ex
  have hlen := h.len
  have k0 : w.cell? ⟨g, 0, none⟩ = some (.slice A l.length c) := by rw [cell_of_row w g 0 _ 38 (0, 0) hb]; rfl
  have k1 : w.cell? ⟨g, 1, none⟩ = some (.slice (some ⟨r, 0, none⟩) (l.length + 1) c') := by rw [cell_of_row w g 1 _ 38 (0, 0) hb]; rfl
  have hcell : ∀ m, m ≤ l.length → w.cell? ⟨r, m, none⟩ = some (.int .i64 (cnt l m : Nat)) := by
    intro m hm
    obtain ⟨ad, e, hc⟩ := h2.at_ (k := m) (by omega)
    cases e
    rw [rks_get, add_zero'] at hc
    exact hc
  clear h1 h2 hb h
  have hi0 : 0 ≤ min (max i 0) (l.length : Int) := by omega
  have hi1 : min (max i 0) (l.length : Int) < (l.length : Int) + 1 := by omega
  have hc : w.cell? ⟨r, (min (max i 0) (l.length : Int)).toNat, none⟩ = some (.int .i64 (rankZ l i)) := by
    rw [hcell _ (by omega)]
    unfold rankZ
    rw [show (min (max i 0) (l.length : Int)).toNat = min i.toNat l.length by omega, cnt_min]
  clear hcell
  go_enter Try.func11, Try.ntmps11
  go_wp2
  go_quiet (fail)
  go_wp2
  go_ret
  exact ⟨rfl, _, rfl⟩

theorem get_calls (g : Nat) (l : List Bool) (i : Int) (w : World) (h : Vec w g l) :
    Calls Try.prog 18 #[.pointer (some ⟨g, 0, none⟩), .int .i64 i] w fun e w' => e = .returned (.bool (getZ l i)) ∧ w = w' := by
  have hL := len_calls g l w h
  obtain ⟨A, c, r, c', hb, h1, h2⟩ := h.ex
  have hlen := h.len
  have k0 : w.cell? ⟨g, 0, none⟩ = some (.slice A l.length c) := by rw [cell_of_row w g 0 _ 38 (0, 0) hb]; rfl
  by_cases h0 : 0 ≤ i
  · by_cases hlt : i < l.length
    · obtain ⟨ad, rfl, hc⟩ := h1.bit (k := i.toNat) (by omega)
      rw [show l[i.toNat]'(by omega) = getZ l i from by simp [getZ, h0, hlt]] at hc
      clear h1 h2 hb h
      go_enter Try.func18, Try.ntmps18
      go_wp2_with (go_at_call 15; refine hL.mono ?_; rintro e w' ⟨rfl, rfl⟩)
      go_ret
      exact ⟨rfl, rfl⟩
    · have hG : getZ l i = false := by simp [getZ, hlt]
      rw [hG]
      clear h1 h2 hb h hG
      go_enter Try.func18, Try.ntmps18
      go_wp2_with (go_at_call 15; refine hL.mono ?_; rintro e w' ⟨rfl, rfl⟩)
      go_ret
      exact ⟨rfl, rfl⟩
  · have hG : getZ l i = false := by simp [getZ, h0]
    rw [hG]
    clear h1 h2 hb h hG
    go_enter Try.func18, Try.ntmps18
    go_wp2_with (go_at_call 15; refine hL.mono ?_; rintro e w' ⟨rfl, rfl⟩)
    go_ret
    exact ⟨rfl, rfl⟩
theorem get_nil (i : Int) (w : World) :
    Calls Try.prog 18 #[.pointer none, .int .i64 i] w fun e w' => e = .returned (.bool false) ∧ w = w' := by
  by_cases h0 : 0 ≤ i
  · go_enter Try.func18, Try.ntmps18
    go_wp2_with (go_at_call 15; refine (len_nil _).mono ?_; rintro e w' ⟨rfl, rfl⟩)
    go_ret
    exact ⟨rfl, rfl⟩
  · go_enter Try.func18, Try.ntmps18
    go_wp2_with (go_at_call 15; refine (len_nil _).mono ?_; rintro e w' ⟨rfl, rfl⟩)
    go_ret
    exact ⟨rfl, rfl⟩

theorem search_calls (l : List Bool) (r c' : Nat) (k : Int) (w : World) (h0 : 0 ≤ k) (h1 : k < (cnt l l.length : Nat)) (hl : l.length ≤ 4096) (h2 : Seg w (some ⟨r, 0, none⟩) (l.length + 1) (rks l l.length)) :
    Calls Try.prog 21 #[.slice (some ⟨r, 0, none⟩) (l.length + 1) c', .int .i64 (k + 1)] w fun e w' => e = .returned (.int .i64 (selZ l k + 1)) ∧ Below w.heap.size w w' := by
  have hd : ∀ i, i < l.length + 1 → (((List.range (l.length + 1)).map fun j => ((cnt l j : Nat) : Int)).toArray)[i]! = ((cnt l i : Nat) : Int) := by
    intro i hi
    rw [getElem!_pos _ i (by simpa using hi)]; simp
  have hcell : ∀ m, m < l.length + 1 → w.cell? ⟨r, m, none⟩ = some (.int .i64 (cnt l m : Nat)) := by
    intro m hm
    obtain ⟨ad, e, hc⟩ := h2.at_ (k := m) (by omega)
    cases e
    rw [rks_get, add_zero'] at hc
    exact hc
  have hS := Any.sort_SearchInts Try.searchInts r 0 c' (((List.range (l.length + 1)).map fun j => ((cnt l j : Nat) : Int)).toArray) (k + 1) w
    (fun i hi => by
      have hi' : i < l.length + 1 := by simpa using hi
      rw [hd i hi', Nat.zero_add]; exact hcell i hi')
    (World.block_lt_of_cell? w _ (hcell 0 (by omega))) (by simp; omega)
    (fun a b hab hb hx => by
      have hb' : b < l.length + 1 := by simpa using hb
      rw [hd a (by omega)] at hx
      rw [hd b hb']
      have := cnt_mono l hab
      simp at hx ⊢; omega)
  have e1 : (((List.range (l.length + 1)).map fun j => ((cnt l j : Nat) : Int)).toArray).size = l.length + 1 := by simp
  have e2 : ((((List.range (l.length + 1)).map fun j => ((cnt l j : Nat) : Int)).toArray).toList.countP (fun y => !decide (k + 1 ≤ y)) : Int) = selZ l k + 1 := by
    unfold selZ
    rw [if_pos ⟨h0, h1⟩, List.countP_map]
    have : ((fun y => !decide (k + 1 ≤ y)) ∘ fun j => ((cnt l j : Nat) : Int)) = fun j => decide (cnt l j < k.toNat + 1) := by
      funext j
      simp only [Function.comp]
      rw [Bool.eq_iff_iff]
      simp
      omega
    rw [this]; omega
  rw [e1, e2] at hS
  exact hS

set_option maxHeartbeats 800000 in
theorem select_calls (g : Nat) (l : List Bool) (k : Int) (w : World) (h : Vec w g l) :
    Calls Try.prog 12 #[.pointer (some ⟨g, 0, none⟩), .int .i64 k] w fun e w' => e = .returned (.int .i64 (selZ l k)) ∧ Below w.heap.size w w' := by
  have hL := len_calls g l w h
  have hR := rank_calls g l l.length w h
  rw [show rankZ l (l.length : Nat) = ((cnt l l.length : Nat) : Int) from by simp [rankZ]] at hR
  obtain ⟨A, c, r, c', hb, h1, h2⟩ := h.ex
  have hlen := h.len
  have k1 : w.cell? ⟨g, 1, none⟩ = some (.slice (some ⟨r, 0, none⟩) (l.length + 1) c') := by rw [cell_of_row w g 1 _ 38 (0, 0) hb]; rfl
  have hbd := selZ_bd l k
  have hcl := cnt_le l l.length
  by_cases h0 : k < 0
  · have hs : selZ l k = -1 := selZ_none (by omega)
    rw [hs]
    clear hs h1 h2 hb h hbd
    go_enter Try.func12, Try.ntmps12
    go_wp2_with (fail)
    go_ret
    exact ⟨rfl, Below.refl _ _⟩
  · by_cases hlt : k < (cnt l l.length : Nat)
    · have HS := Lib.hid (fun n => search_calls l r c' k (w.drewN n) (by omega) hlt hlen (h2.below (below_drewN' (Below.refl _ _) n)))
      clear h1 h2 hb h
      go_enter Try.func12, Try.ntmps12
      go_wp2_with (first | (go_at_call 15; refine hL.mono ?_; rintro e w' ⟨rfl, rfl⟩) | (go_at_call 11; refine hR.mono ?_; rintro e w' ⟨rfl, nq, rfl⟩) | (go_at_call 21; refine (HS.out nq).mono ?_; rintro e w' ⟨rfl, hbs⟩))
      go_ret
      exact ⟨rfl, (below_drewN' (Below.refl _ _) nq).trans hbs⟩
    · have hs : selZ l k = -1 := selZ_none (by omega)
      rw [hs]
      clear hs h1 h2 hb h hbd
      go_enter Try.func12, Try.ntmps12
      go_wp2_with (first | (go_at_call 15; refine hL.mono ?_; rintro e w' ⟨rfl, rfl⟩) | (go_at_call 11; refine hR.mono ?_; rintro e w' ⟨rfl, nq, rfl⟩))
      go_ret
      exact ⟨rfl, below_drewN' (Below.refl _ _) nq⟩
theorem select_nil (k : Int) (w : World) :
    Calls Try.prog 12 #[.pointer none, .int .i64 k] w fun e w' => e = .returned (.int .i64 (-1)) ∧ Below w.heap.size w w' := by
  by_cases h0 : k < 0
  · go_enter Try.func12, Try.ntmps12
    go_wp2_with (fail)
    go_ret
    exact ⟨rfl, Below.refl _ _⟩
  · go_enter Try.func12, Try.ntmps12
    go_wp2_with (first | (go_at_call 15; refine (len_nil _).mono ?_; rintro e w' ⟨rfl, rfl⟩) | (go_at_call 11; refine (rank_nil _ _).mono ?_; rintro e w' ⟨rfl, nq, rfl⟩))
    go_ret
    exact ⟨rfl, below_drewN' (Below.refl _ _) nq⟩

theorem next_calls (g : Nat) (l : List Bool) (i : Int) (w : World) (h : Vec w g l) :
    Calls Try.prog 13 #[.pointer (some ⟨g, 0, none⟩), .int .i64 i] w fun e w' => e = .returned (.int .i64 (nextZ l i)) ∧ Below w.heap.size w w' := by
  have hR := rank_calls g l i w h
  have HS := Lib.hid (fun n => select_calls g l (rankZ l i) (w.drewN n) (h.drewN n))
  clear h
  go_enter Try.func13, Try.ntmps13
  go_wp2_with (first | (go_at_call 11; refine hR.mono ?_; rintro e w' ⟨rfl, nq, rfl⟩) | (go_at_call 12; refine (HS.out nq).mono ?_; rintro e w' ⟨rfl, hbs⟩))
  go_ret
  exact ⟨rfl, (below_drewN' (Below.refl _ _) nq).trans hbs⟩
theorem next_nil (i : Int) (w : World) :
    Calls Try.prog 13 #[.pointer none, .int .i64 i] w fun e w' => e = .returned (.int .i64 (-1)) ∧ Below w.heap.size w w' := by
  go_enter Try.func13, Try.ntmps13
  go_wp2_with (first | (go_at_call 11; refine (rank_nil _ _).mono ?_; rintro e w' ⟨rfl, nq, rfl⟩) | (go_at_call 12; refine (select_nil _ _).mono ?_; rintro e w' ⟨rfl, hbs⟩))
  go_ret
  exact ⟨rfl, (below_drewN' (Below.refl _ _) nq).trans hbs⟩

/-! ### the document's answers -/
theorem refRank_calls (A : Option Addr) (c : Nat) (l : List Bool) (i : Int) (w : World) (h : Seg w A l.length (bls l)) (hl : l.length ≤ 4096) :
    Calls Try.prog 17 #[.slice A l.length c, .int .i64 i] w fun e w' => e = .returned (.int .i64 (rankZ l i)) ∧ w = w' := by
  have HS := Lib.hid h
  clear h
  go_enter Try.func17, Try.ntmps17
  go_wp2
  go_loop [5, 6] (fun n j => ∃ k : Nat, k ≤ l.length ∧ ((k : Int) ≤ i ∨ k = 0) ∧ j = .int .i64 k ∧ n = .int .i64 (cnt l k : Nat)) (fun _ j => l.length - (intOf j).toNat)
  case atStart => exact ⟨0, Nat.zero_le _, .inr rfl, rfl, by simp [cnt_zero]⟩
  case round =>
    obtain ⟨k, hk, hki, rfl, rfl⟩ := hrel
    have hle := cnt_le l k
    by_cases hi : (k : Int) < i
    · by_cases hlt : k < l.length
      · obtain ⟨ad, rfl, hc⟩ := HS.out.bit hlt
        have hcs := cnt_succ l k hlt
        cases hbit : l[k] <;> rw [hbit] at hc hcs
        · have HCS : Hid (cnt l (k + 1) = cnt l k) := by show cnt l (k + 1) = cnt l k; rw [hcs]; simp
          clear hcs hbit
          go_wp2
          go_round
          case rel => exact ⟨k + 1, by omega, .inl (by omega), by go_num, by rw [HCS.out]⟩
          case measure => simp [intOf]; omega
        · have HCS : Hid (cnt l (k + 1) = cnt l k + 1) := by show cnt l (k + 1) = cnt l k + 1; rw [hcs]; simp
          clear hcs hbit
          go_wp2
          go_round
          case rel => exact ⟨k + 1, by omega, .inl (by omega), by go_num, by rw [HCS.out]; rfl⟩
          case measure => simp [intOf]; omega
      · obtain rfl : k = l.length := by omega
        have HR : Hid (rankZ l i = (cnt l l.length : Nat)) := by show rankZ l i = (cnt l l.length : Nat); unfold rankZ; rw [cnt_past l (by omega)]
        go_wp2
        go_ret
        exact ⟨by rw [HR.out]; rfl, rfl⟩
    · have HR : Hid (rankZ l i = (cnt l k : Nat)) := by show rankZ l i = (cnt l k : Nat); unfold rankZ; rw [show i.toNat = k by omega]
      by_cases hlt : k < l.length
      · go_wp2
        go_ret
        exact ⟨by rw [HR.out]; rfl, rfl⟩
      · go_wp2
        go_ret
        exact ⟨by rw [HR.out]; rfl, rfl⟩

theorem refSelect_calls (A : Option Addr) (c : Nat) (l : List Bool) (q : Int) (w : World) (h : Seg w A l.length (bls l)) (hl : l.length ≤ 4096) :
    Calls Try.prog 16 #[.slice A l.length c, .int .i64 q] w fun e w' => e = .returned (.int .i64 (selZ l q)) ∧ w = w' := by
  have HS := Lib.hid h
  clear h
  go_enter Try.func16, Try.ntmps16
  go_wp2
  go_loop [5, 6] (fun n j => ∃ k : Nat, k ≤ l.length ∧ ((cnt l k : Nat) ≤ q ∨ q < 0) ∧ j = .int .i64 k ∧ n = .int .i64 (cnt l k : Nat)) (fun _ j => l.length - (intOf j).toNat)
  case atStart => exact ⟨0, Nat.zero_le _, by rw [cnt_zero]; omega, rfl, by simp [cnt_zero]⟩
  case round =>
    obtain ⟨k, hk, hki, rfl, rfl⟩ := hrel
    have hle := cnt_le l k
    by_cases hlt : k < l.length
    · obtain ⟨ad, rfl, hc⟩ := HS.out.bit hlt
      have hcs := cnt_succ l k hlt
      cases hbit : l[k] <;> rw [hbit] at hc hcs
      · have HCS : Hid (cnt l (k + 1) = cnt l k) := by show cnt l (k + 1) = cnt l k; rw [hcs]; simp
        clear hcs hbit
        go_wp2
        go_round
        case rel => exact ⟨k + 1, by omega, by rw [HCS.out]; exact hki, by go_num, by rw [HCS.out]⟩
        case measure => simp [intOf]; omega
      · have HCS : Hid (cnt l (k + 1) = cnt l k + 1) := by show cnt l (k + 1) = cnt l k + 1; rw [hcs]; simp
        by_cases heq : ((cnt l k : Nat) : Int) = q
        · have HR : Hid (selZ l q = k) := by
            show selZ l q = k
            rw [← heq]; exact selZ_at ⟨hlt, hbit, rfl⟩
          have hb : (((cnt l k : Nat) : Int) == q) = true := beq_iff_eq.2 heq
          clear heq hcs hbit
          go_wp2
          go_ret
          exact ⟨by rw [HR.out]; rfl, rfl⟩
        · have hb : (((cnt l k : Nat) : Int) == q) = false := beq_eq_false_iff_ne.2 heq
          clear hcs hbit
          go_wp2
          go_round
          case rel => exact ⟨k + 1, by omega, by rw [HCS.out]; omega, by go_num, by rw [HCS.out]; rfl⟩
          case measure => simp [intOf]; omega
    · obtain rfl : k = l.length := by omega
      have HR : Hid (selZ l q = -1) := by
        show selZ l q = -1
        exact selZ_none (by omega)
      go_wp2
      go_ret
      exact ⟨by rw [HR.out]; rfl, rfl⟩

theorem refNext_calls (A : Option Addr) (c : Nat) (l : List Bool) (i : Int) (w : World) (h : Seg w A l.length (bls l)) (hl : l.length ≤ 4096) (hi : i ≤ 9223372036854775807) :
    Calls Try.prog 19 #[.slice A l.length c, .int .i64 i] w fun e w' => e = .returned (.int .i64 (nextZ l i)) ∧ w = w' := by
  have HS := Lib.hid h
  clear h
  obtain ⟨m, e1, hm, e0⟩ : ∃ m : Nat, max i 0 = (m : Int) ∧ m ≤ 9223372036854775807 ∧ nextZ l i = nextZ l (m : Nat) :=
    ⟨i.toNat, by omega, by omega, by unfold nextZ rankZ; rw [Int.toNat_natCast]⟩
  rw [e0]
  have E1 := Lib.hid e1
  clear e0 e1
  go_enter Try.func19, Try.ntmps19
  go_wp2
  rw [E1.out]
  go_loop [5] (fun j => ∃ k : Nat, m ≤ k ∧ (k ≤ l.length ∨ k = m) ∧ j = .int .i64 k ∧ Hid (∀ t, m ≤ t → t < k → ∀ h : t < l.length, l[t] = false)) (fun j => l.length - (intOf j).toNat)
  case atStart => exact ⟨m, Nat.le_refl _, .inr rfl, rfl, fun t h1 h2 => by omega⟩
  case round =>
    obtain ⟨k, hk, hk2, rfl, HN⟩ := hrel
    by_cases hlt : k < l.length
    · obtain ⟨ad, rfl, hc⟩ := HS.out.bit hlt
      cases hbit : l[k] <;> rw [hbit] at hc
      · have HN2 : Hid (∀ t, m ≤ t → t < k + 1 → ∀ h : t < l.length, l[t] = false) := by
          intro t h1 h2 h3
          rcases Nat.lt_or_ge t k with h4 | h4
          · exact HN.out t h1 h4 h3
          · obtain rfl : t = k := by omega
            exact hbit
        clear hbit HN
        go_wp2
        go_round
        case rel => exact ⟨k + 1, by omega, .inl (by omega), by go_num, HN2⟩
        case measure => simp [intOf]; omega
      · have HR : Hid (nextZ l (m : Nat) = k) := next_at hk hlt hbit HN.out
        clear hbit
        go_wp2
        go_ret
        exact ⟨by rw [HR.out]; rfl, rfl⟩
    · have HR : Hid (nextZ l (m : Nat) = -1) := next_none (fun t h1 h2 => HN.out t h1 (by omega) h2)
      go_wp2
      go_ret
      exact ⟨by rw [HR.out]; rfl, rfl⟩
end Go.Proofs.Ytajhilgfohffdaa
