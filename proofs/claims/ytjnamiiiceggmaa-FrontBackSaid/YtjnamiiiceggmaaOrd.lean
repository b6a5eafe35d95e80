/- Texts that rise: places and beginnings: plain Lean, no program. -/
import Derived.Below
namespace Go.Proofs.Ytjnamiiiceggmaa.Fp

theorem lt_irr (x : List UInt8) : ¬ x < x := List.lt_irrefl x
theorem lt_tr {x y z : List UInt8} (h : x < y) (k : y < z) : x < z := List.lt_trans h k
theorem lt_tri (x y : List UInt8) : x < y ∨ x = y ∨ y < x := by
  by_cases h : x < y
  · exact .inl h
  · by_cases k : y < x
    · exact .inr (.inr k)
    · exact .inr (.inl (List.le_antisymm (List.not_lt.1 k) (List.not_lt.1 h)))

/-- they rise -/
def Srt (X : List (List UInt8)) : Prop := ∀ i, (h : i + 1 < X.length) → X[i] < X[i + 1]
theorem Srt.lt {X : List (List UInt8)} (h : Srt X) {i j : Nat} (hij : i < j) (hj : j < X.length) : X[i] < X[j] := by
  induction j with
  | zero => omega
  | succ j ih =>
    rcases Nat.lt_or_ge i j with h1 | h1
    · exact lt_tr (ih h1 (by omega)) (h j hj)
    · obtain rfl : i = j := by omega
      exact h i hj
theorem Srt.inj {X : List (List UInt8)} (h : Srt X) {i j : Nat} (hi : i < X.length) (hj : j < X.length) (e : X[i] = X[j]) : i = j := by
  rcases Nat.lt_trichotomy i j with hlt | rfl | hlt
  · have := h.lt hlt hj; rw [e] at this; exact absurd this (lt_irr _)
  · rfl
  · have := h.lt hlt hi; rw [e] at this; exact absurd this (lt_irr _)

/-- how many texts stand below s -/
theorem cut_at {X : List (List UInt8)} (h : Srt X) (s : List UInt8) : ∃ k, k ≤ X.length ∧ (∀ t, t < k → (ht : t < X.length) → X[t] < s) ∧ (∀ t, k ≤ t → (ht : t < X.length) → ¬ X[t] < s) := by
  have main : ∀ n, n ≤ X.length → ∃ k, k ≤ n ∧ (∀ t, t < k → (ht : t < X.length) → X[t] < s) ∧ (∀ t, k ≤ t → t < n → (ht : t < X.length) → ¬ X[t] < s) := by
    intro n
    induction n with
    | zero => intro _; exact ⟨0, Nat.le_refl _, fun t h _ => by omega, fun t _ h _ => by omega⟩
    | succ n ih =>
      intro hn
      obtain ⟨k, hk, h1, h2⟩ := ih (by omega)
      by_cases hl : X[n] < s
      · refine ⟨n + 1, Nat.le_refl _, fun t ht hx => ?_, fun t _ _ _ => by omega⟩
        rcases Nat.lt_or_ge t n with h3 | h3
        · exact lt_tr (h.lt h3 (by omega)) hl
        · obtain rfl : t = n := by omega
          exact hl
      · refine ⟨k, by omega, h1, fun t h3 h4 hx => ?_⟩
        rcases Nat.lt_or_ge t n with h5 | h5
        · exact h2 t h3 h5 hx
        · obtain rfl : t = n := by omega
          exact hl
  obtain ⟨k, hk, h1, h2⟩ := main X.length (Nat.le_refl _)
  exact ⟨k, hk, h1, fun t h3 ht => h2 t h3 ht ht⟩

/-- a text's number; 0: it has none -/
def loc (X : List (List UInt8)) (s : List UInt8) : Nat := if s ∈ X then X.idxOf s + 1 else 0
theorem loc_at {X : List (List UInt8)} (h : Srt X) {i : Nat} (hi : i < X.length) : loc X X[i] = i + 1 := by
  unfold loc
  rw [if_pos (List.getElem_mem hi)]
  have hlt := List.idxOf_lt_length_of_mem (List.getElem_mem hi)
  have := h.inj hlt hi (List.getElem_idxOf hlt)
  omega
theorem loc_none {X : List (List UInt8)} {s : List UInt8} (h : ∀ i, (hi : i < X.length) → X[i] ≠ s) : loc X s = 0 := by
  unfold loc
  rw [if_neg]
  intro hm
  obtain ⟨i, hi, e⟩ := List.getElem_of_mem hm
  exact h i hi e
/-- the first place, in whatever order -/
theorem loc_first {X : List (List UInt8)} {i : Nat} (hi : i < X.length) (h : ∀ j, j < i → (hj : j < X.length) → X[j] ≠ X[i]) : loc X X[i] = i + 1 := by
  unfold loc
  rw [if_pos (List.getElem_mem hi)]
  have hlt := List.idxOf_lt_length_of_mem (List.getElem_mem hi)
  have e := List.getElem_idxOf hlt
  rcases Nat.lt_trichotomy (X.idxOf X[i]) i with h1 | h1 | h1
  · exact absurd e (h _ h1 hlt)
  · omega
  · have := List.not_of_lt_findIdx (show i < X.findIdx (· == X[i]) from h1)
    simp at this
theorem loc_le (X : List (List UInt8)) (s : List UInt8) : loc X s ≤ X.length := by
  unfold loc
  split
  · rename_i h; exact List.idxOf_lt_length_of_mem h
  · omega
/-- what a search comes to -/
theorem loc_cut {X : List (List UInt8)} {s : List UInt8} {k : Nat} (h : Srt X) (h1 : ∀ t, t < k → (ht : t < X.length) → X[t] < s) (h2 : ∀ t, k ≤ t → (ht : t < X.length) → ¬ X[t] < s) :
    (∀ hk : k < X.length, X[k] = s → loc X s = k + 1) ∧ ((∀ hk : k < X.length, X[k] ≠ s) → loc X s = 0) := by
  refine ⟨fun hk e => by subst e; exact loc_at h hk, fun hno => loc_none fun i hi e => ?_⟩
  rcases Nat.lt_trichotomy i k with hlt | rfl | hlt
  · have := h1 i hlt hi; rw [e] at this; exact lt_irr _ this
  · exact hno hi e
  · have := h.lt hlt hi; rw [e] at this; exact h2 k (Nat.le_refl _) (by omega) this

/-! ### beginnings -/
theorem pre_not_lt {p x : List UInt8} (h : p <+: x) : ¬ x < p := by
  obtain ⟨t, rfl⟩ := h
  induction p with
  | nil => simp
  | cons a p ih =>
    intro h
    rw [List.cons_append, List.cons_lt_cons_iff] at h
    rcases h with h | ⟨_, h⟩
    · exact absurd h (by simp)
    · exact ih h
theorem pre_mid {p x y : List UInt8} (hp : ¬ x < p) (hxy : x < y) (hy : p <+: y) : p <+: x := by
  induction p generalizing x y with
  | nil => exact List.nil_prefix
  | cons a p ih =>
    match x, y with
    | [], _ => exact absurd (List.nil_lt_cons a p) hp
    | b :: x, [] => simp at hy
    | b :: x, c :: y =>
      rw [List.cons_prefix_cons] at hy
      obtain ⟨rfl, hy⟩ := hy
      rw [List.cons_lt_cons_iff] at hp hxy
      rcases hxy with h | ⟨rfl, h⟩
      · exact absurd (.inl h) hp
      · rw [List.cons_prefix_cons]
        exact ⟨rfl, ih (fun h1 => hp (.inr ⟨rfl, h1⟩)) h hy⟩

/-- from number a up to number b, and no others, begin with p; 0, 0: none does -/
structure PreIs (X : List (List UInt8)) (p : List UInt8) (a b : Nat) : Prop where
  ok : (a = 0 ∧ b = 0) ∨ (1 ≤ a ∧ a ≤ b ∧ b ≤ X.length)
  iff : ∀ i, (h : i < X.length) → (p <+: X[i] ↔ a ≤ i + 1 ∧ i + 1 ≤ b)
theorem PreIs.uniq {X : List (List UInt8)} {p : List UInt8} {a b c d : Nat} (h : PreIs X p a b) (k : PreIs X p c d) : a = c ∧ b = d := by
  rcases h.ok with ⟨rfl, rfl⟩ | ⟨h1, h2, h3⟩
  · rcases k.ok with ⟨rfl, rfl⟩ | ⟨k1, k2, k3⟩
    · exact ⟨rfl, rfl⟩
    · have := (k.iff (c - 1) (by omega)).2 ⟨by omega, by omega⟩
      have := (h.iff (c - 1) (by omega)).1 this
      omega
  · rcases k.ok with ⟨rfl, rfl⟩ | ⟨k1, k2, k3⟩
    · have := (h.iff (a - 1) (by omega)).2 ⟨by omega, by omega⟩
      have := (k.iff (a - 1) (by omega)).1 this
      omega
    · have e1 := (k.iff (a - 1) (by omega)).1 ((h.iff (a - 1) (by omega)).2 ⟨by omega, by omega⟩)
      have e2 := (k.iff (b - 1) (by omega)).1 ((h.iff (b - 1) (by omega)).2 ⟨by omega, by omega⟩)
      have e3 := (h.iff (c - 1) (by omega)).1 ((k.iff (c - 1) (by omega)).2 ⟨by omega, by omega⟩)
      have e4 := (h.iff (d - 1) (by omega)).1 ((k.iff (d - 1) (by omega)).2 ⟨by omega, by omega⟩)
      omega
/-- behind the texts below p, those that begin with p stand first -/
theorem pre_mono {X : List (List UInt8)} {p : List UInt8} {k : Nat} (h : Srt X) (h2 : ∀ t, k ≤ t → (ht : t < X.length) → ¬ X[t] < p) {i j : Nat} (hk : k ≤ i) (hij : i ≤ j) (hj : j < X.length) (hp : p <+: X[j]) : p <+: X[i] := by
  rcases Nat.lt_or_ge i j with hlt | hge
  · exact pre_mid (h2 i hk (by omega)) (h.lt hlt hj) hp
  · obtain rfl : i = j := by omega
    exact hp
/-- the search's answer -/
theorem pre_found {X : List (List UInt8)} {p : List UInt8} {k n : Nat} (hk : k + n ≤ X.length) (h1 : ∀ t, t < k → (ht : t < X.length) → X[t] < p)
    (h3 : ∀ t, t < n → (ht : k + t < X.length) → p <+: X[k + t]) (h4 : ∀ t, n ≤ t → (ht : k + t < X.length) → ¬ p <+: X[k + t]) :
    PreIs X p (if n = 0 then 0 else k + 1) (if n = 0 then 0 else k + n) := by
  by_cases hn : n = 0
  · subst hn
    refine ⟨.inl ⟨rfl, rfl⟩, fun i hi => ⟨fun hp => ?_, fun h => by simp at h⟩⟩
    rcases Nat.lt_or_ge i k with hlt | hge
    · exact absurd (h1 i hlt hi) (pre_not_lt hp)
    · have := h4 (i - k) (by omega) (by omega)
      rw [show X[k + (i - k)]'(by omega) = X[i] by congr 1; omega] at this
      exact absurd hp this
  · rw [if_neg hn, if_neg hn]
    refine ⟨.inr ⟨by omega, by omega, hk⟩, fun i hi => ⟨fun hp => ?_, fun h => ?_⟩⟩
    · rcases Nat.lt_or_ge i k with hlt | hge
      · exact absurd (h1 i hlt hi) (pre_not_lt hp)
      · rcases Nat.lt_or_ge i (k + n) with h5 | h5
        · omega
        · have := h4 (i - k) (by omega) (by omega)
          rw [show X[k + (i - k)]'(by omega) = X[i] by congr 1; omega] at this
          exact absurd hp this
    · have := h3 (i - k) (by omega) (by omega)
      rwa [show X[k + (i - k)]'(by omega) = X[i] by congr 1; omega] at this
/-- the first and the last one, of texts that rise -/
theorem pre_ends {X : List (List UInt8)} {p : List UInt8} {a b : Nat} (h : Srt X) (hab : (a = 0 ∧ b = 0 ∧ ∀ i, (hi : i < X.length) → ¬ p <+: X[i]) ∨
    (∃ (h1 : 1 ≤ a) (h2 : a ≤ b) (hb : b ≤ X.length), p <+: X[a - 1]'(by omega) ∧ p <+: X[b - 1]'(by omega) ∧ ∀ i, (hi : i < X.length) → p <+: X[i] → a ≤ i + 1 ∧ i + 1 ≤ b)) : PreIs X p a b := by
  rcases hab with ⟨rfl, rfl, hno⟩ | ⟨h1, h2, hb, ha, hb', hall⟩
  · exact ⟨.inl ⟨rfl, rfl⟩, fun i hi => ⟨fun hp => absurd hp (hno i hi), fun h => by omega⟩⟩
  · refine ⟨.inr ⟨h1, h2, hb⟩, fun i hi => ⟨hall i hi, fun hi2 => ?_⟩⟩
    rcases Nat.lt_or_ge i (b - 1) with hlt | hge
    · rcases Nat.lt_or_ge (a - 1) i with h3 | h3
      · refine pre_mid ?_ (h.lt hlt (by omega)) hb'
        intro hlt'
        exact pre_not_lt ha (lt_tr (h.lt h3 hi) hlt')
      · have e : i = a - 1 := by omega
        subst e; exact ha
    · have e : i = b - 1 := by omega
      subst e; exact hb'
end Go.Proofs.Ytjnamiiiceggmaa.Fp
