/- How many ones are ahead of each place of a row of bits, and where each one is: plain Lean, no program. -/
import Derived.Below
namespace Go.Proofs.Ytajhilgfohffdaa.Bp

/-- how many ones stand ahead of place i -/
def cnt (l : List Bool) (i : Nat) : Nat := (l.take i).count true
theorem cnt_zero (l : List Bool) : cnt l 0 = 0 := by simp [cnt]
theorem cnt_succ (l : List Bool) (i : Nat) (h : i < l.length) : cnt l (i + 1) = cnt l i + (if l[i] = true then 1 else 0) := by
  unfold cnt
  rw [List.take_succ_eq_append_getElem h, List.count_append]
  cases l[i] <;> simp
theorem cnt_mono (l : List Bool) {i j : Nat} (h : i ≤ j) : cnt l i ≤ cnt l j := by
  unfold cnt
  rw [show l.take i = (l.take j).take i from by rw [List.take_take]; congr 1; omega]
  exact (List.take_sublist _ _).count_le _
theorem cnt_past (l : List Bool) {i : Nat} (h : l.length ≤ i) : cnt l i = cnt l l.length := by
  unfold cnt; rw [List.take_of_length_le h, List.take_length]
theorem cnt_le (l : List Bool) (i : Nat) : cnt l i ≤ i := by
  unfold cnt
  exact Nat.le_trans List.count_le_length (List.length_take_le _ _)
theorem cnt_le_len (l : List Bool) (i : Nat) : cnt l i ≤ cnt l l.length := by
  rcases Nat.le_total i l.length with h | h
  · exact cnt_mono l h
  · rw [cnt_past l h]; exact Nat.le_refl _
theorem cnt_min (l : List Bool) (i : Nat) : cnt l (min i l.length) = cnt l i := by
  rcases Nat.le_total i l.length with h | h
  · rw [Nat.min_eq_left h]
  · rw [Nat.min_eq_right h, cnt_past l h]

/-- place i is a one, and k ones are ahead of it -/
def At (l : List Bool) (k i : Nat) : Prop := ∃ h : i < l.length, l[i] = true ∧ cnt l i = k
theorem At.lt {l : List Bool} {k i : Nat} (h : At l k i) : i < l.length := h.1
theorem At.succ {l : List Bool} {k i : Nat} (h : At l k i) : cnt l (i + 1) = k + 1 := by
  obtain ⟨hl, ht, hc⟩ := h
  rw [cnt_succ l i hl, if_pos ht, hc]
theorem At.uniq {l : List Bool} {k i j : Nat} (h : At l k i) (h' : At l k j) : i = j := by
  rcases Nat.lt_trichotomy i j with hlt | rfl | hlt
  · have := cnt_mono l (show i + 1 ≤ j from hlt)
    rw [h.succ, h'.2.2] at this; omega
  · rfl
  · have := cnt_mono l (show j + 1 ≤ i from hlt)
    rw [h'.succ, h.2.2] at this; omega
theorem At.bound {l : List Bool} {k i : Nat} (h : At l k i) : k < cnt l l.length := by
  have := cnt_mono l (show i + 1 ≤ l.length from h.1)
  rw [h.succ] at this; omega
theorem at_ex (l : List Bool) (k : Nat) (hk : k < cnt l l.length) : ∃ i, At l k i := by
  have main : ∀ n, n ≤ l.length → k < cnt l n → ∃ i, At l k i := by
    intro n
    induction n with
    | zero => intro _ h; rw [cnt_zero] at h; omega
    | succ n ih =>
      intro hn h
      by_cases hlt : k < cnt l n
      · exact ih (by omega) hlt
      · rw [cnt_succ l n (by omega)] at h
        by_cases ht : l[n] = true
        · exact ⟨n, by omega, ht, by rw [if_pos ht] at h; omega⟩
        · rw [if_neg ht] at h; omega
  exact main l.length (Nat.le_refl _) hk

def rankZ (l : List Bool) (i : Int) : Int := (cnt l i.toNat : Nat)
/-- the place of the k-th one -/
def selZ (l : List Bool) (k : Int) : Int :=
  if 0 ≤ k ∧ k < (cnt l l.length : Nat) then (((List.range (l.length + 1)).countP fun j => decide (cnt l j < k.toNat + 1) : Nat) : Int) - 1 else -1
theorem countP_first (p : Nat → Bool) (n m : Nat) (hm : m ≤ n) (h1 : ∀ t, t < m → p t = true) (h2 : ∀ t, m ≤ t → t < n → p t = false) : (List.range n).countP p = m := by
  induction n with
  | zero => simp; omega
  | succ n ih =>
    rw [List.range_succ, List.countP_append]
    by_cases h : m = n + 1
    · subst h
      have e : (List.range n).countP p = n := by
        rw [List.countP_eq_length.2]
        · simp
        · intro a ha; exact h1 a (by have := List.mem_range.1 ha; omega)
      rw [e]
      simp [h1 n (by omega)]
    · rw [ih (by omega) (fun t h3 h4 => h2 t h3 (by omega))]
      simp [h2 n (by omega) (by omega)]
theorem selZ_at {l : List Bool} {k i : Nat} (h : At l k i) : selZ l k = i := by
  unfold selZ
  have hb := h.bound
  rw [if_pos ⟨by omega, by omega⟩, countP_first _ _ (i + 1) (by have := h.lt; omega)]
  · omega
  · intro t ht
    have := cnt_mono l (show t ≤ i by omega)
    rw [h.2.2] at this
    simp; omega
  · intro t h1 _
    have := cnt_mono l h1
    rw [h.succ] at this
    simp; omega
theorem selZ_none {l : List Bool} {k : Int} (h : k < 0 ∨ (cnt l l.length : Int) ≤ k) : selZ l k = -1 := by
  unfold selZ; rw [if_neg (by omega)]
theorem selZ_some {l : List Bool} {k : Int} (h0 : 0 ≤ k) (h1 : k < (cnt l l.length : Nat)) : ∃ i : Nat, selZ l k = i ∧ At l k.toNat i := by
  obtain ⟨i, hi⟩ := at_ex l k.toNat (by omega)
  refine ⟨i, ?_, hi⟩
  have := selZ_at hi
  rwa [Int.toNat_of_nonneg h0] at this
theorem selZ_bd (l : List Bool) (k : Int) : -1 ≤ selZ l k ∧ selZ l k < l.length := by
  by_cases h : 0 ≤ k ∧ k < (cnt l l.length : Nat)
  · obtain ⟨i, e, hi⟩ := selZ_some h.1 h.2
    have := hi.lt
    omega
  · rw [selZ_none (by omega)]; omega
theorem rankZ_bd (l : List Bool) (i : Int) : 0 ≤ rankZ l i ∧ rankZ l i ≤ l.length := by
  unfold rankZ
  have h1 := cnt_le_len l i.toNat
  have h2 := cnt_le l l.length
  omega
def nextZ (l : List Bool) (i : Int) : Int := selZ l (rankZ l i)
/-- from i on the first one is at m -/
theorem next_at {l : List Bool} {i m : Nat} (him : i ≤ m) (hm : m < l.length) (ht : l[m] = true) (hno : ∀ t, i ≤ t → t < m → ∀ h : t < l.length, l[t] = false) : nextZ l i = m := by
  have e : ∀ t, i ≤ t → t ≤ m → cnt l t = cnt l i := by
    intro t h1
    induction t with
    | zero => intro _; have : i = 0 := by omega
              subst this; rfl
    | succ t ih =>
      intro h2
      by_cases hi : i = t + 1
      · rw [hi]
      · rw [cnt_succ l t (by omega), ih (by omega) (by omega), hno t (by omega) (by omega) (by omega)]; simp
  unfold nextZ rankZ
  rw [Int.toNat_natCast]
  exact selZ_at ⟨hm, ht, (e m him (Nat.le_refl _))⟩
theorem next_none {l : List Bool} {i : Nat} (hno : ∀ t, i ≤ t → ∀ h : t < l.length, l[t] = false) : nextZ l i = -1 := by
  have e : ∀ t, i ≤ t → t ≤ l.length → cnt l t = cnt l i := by
    intro t h1
    induction t with
    | zero => intro _; have : i = 0 := by omega
              subst this; rfl
    | succ t ih =>
      intro h2
      by_cases hi : i = t + 1
      · rw [hi]
      · rw [cnt_succ l t (by omega), ih (by omega) (by omega), hno t (by omega) (by omega)]; simp
  unfold nextZ rankZ
  rw [Int.toNat_natCast]
  apply selZ_none
  right
  rcases Nat.le_total i l.length with h | h
  · rw [e _ h (Nat.le_refl _)]; exact Int.le_refl _
  · rw [cnt_past l h]; exact Int.le_refl _
end Go.Proofs.Ytajhilgfohffdaa.Bp
