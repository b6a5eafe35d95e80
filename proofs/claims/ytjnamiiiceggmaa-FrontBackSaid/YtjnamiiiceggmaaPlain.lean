/- Texts that rise, and how they are written as bytes and read: plain Lean, no program. -/
import Derived.Below
namespace Go.Proofs.Ytjnamiiiceggmaa.Fp

/-- how many bytes two texts have in common at their beginnings -/
def shr : List UInt8 → List UInt8 → Nat
  | a :: x, b :: y => if a = b then shr x y + 1 else 0
  | _, _ => 0
theorem shr_le : ∀ (x y : List UInt8), shr x y ≤ x.length ∧ shr x y ≤ y.length
  | [], y => by simp [shr]
  | a :: x, [] => by simp [shr]
  | a :: x, b :: y => by
    have := shr_le x y
    unfold shr
    split <;> simp <;> omega
theorem shr_take : ∀ (x y : List UInt8), x.take (shr x y) = y.take (shr x y)
  | [], y => by simp [shr]
  | a :: x, [] => by simp [shr]
  | a :: x, b :: y => by
    unfold shr
    split
    · rename_i h
      subst h
      simp [shr_take x y]
    · simp
/-- what stops the count -/
theorem shr_stop (x y : List UInt8) (n : Nat) (h1 : n ≤ x.length) (h2 : n ≤ y.length) (he : x.take n = y.take n) (hs : n = x.length ∨ n = y.length ∨ ∃ (hx : n < x.length) (hy : n < y.length), x[n] ≠ y[n]) : shr x y = n := by
  induction n generalizing x y with
  | zero =>
    match x, y with
    | [], y => simp [shr]
    | a :: x, [] => simp [shr]
    | a :: x, b :: y =>
      unfold shr
      rcases hs with hs | hs | ⟨_, _, hs⟩
      · simp at hs
      · simp at hs
      · simp at hs
        rw [if_neg hs]
  | succ n ih =>
    match x, y with
    | [], y => simp at h1
    | a :: x, [] => simp at h2
    | a :: x, b :: y =>
      simp at he h1 h2
      unfold shr
      rw [if_pos he.1, ih x y h1 h2 he.2]
      rcases hs with hs | hs | ⟨p, q, hs⟩
      · left; simpa using hs
      · right; left; simpa using hs
      · right; right; exact ⟨by simpa using p, by simpa using q, by simpa using hs⟩

/-! ### the bytes -/
/-- one text behind another one: how many bytes are shared -/
def com (i : Nat) (prev s : List UInt8) : Nat := if i % 4 = 0 then 0 else shr prev s
theorem com_le (i : Nat) (prev s : List UInt8) : com i prev s ≤ prev.length ∧ com i prev s ≤ s.length := by
  unfold com
  split
  · omega
  · exact shr_le _ _
theorem com_take (i : Nat) (prev s : List UInt8) : prev.take (com i prev s) = s.take (com i prev s) := by
  unfold com
  split
  · simp
  · exact shr_take _ _
def ent (i : Nat) (prev s : List UInt8) : List UInt8 := UInt8.ofNat (com i prev s) :: UInt8.ofNat (s.length - com i prev s) :: s.drop (com i prev s)
def encF : Nat → List UInt8 → List (List UInt8) → List UInt8
  | _, _, [] => []
  | i, prev, s :: r => ent i prev s ++ encF (i + 1) s r
def enc (X : List (List UInt8)) : List UInt8 := UInt8.ofNat (X.length / 256) :: UInt8.ofNat X.length :: encF 0 [] X

theorem ent_len (i : Nat) (prev s : List UInt8) : (ent i prev s).length = 2 + (s.length - com i prev s) := by
  unfold ent; simp; omega
theorem ent_le (i : Nat) (prev s : List UInt8) : (ent i prev s).length ≤ 2 + s.length := by
  rw [ent_len]; omega

/-- one entry is read -/
def step (last rest : List UInt8) : Option (List UInt8 × List UInt8) :=
  match rest with
  | a :: c :: r => if a.toNat ≤ last.length ∧ c.toNat ≤ r.length then some (last.take a.toNat ++ r.take c.toNat, r.drop c.toNat) else none
  | _ => none
def decN : Nat → List UInt8 → List UInt8 → Option (List (List UInt8) × List UInt8)
  | 0, _, rest => some ([], rest)
  | n + 1, last, rest => (step last rest).bind fun p => (decN n p.1 p.2).map fun q => (p.1 :: q.1, q.2)

theorem step_ent (i : Nat) (prev s t : List UInt8) (hp : prev.length ≤ 250) (hs : s.length ≤ 250) : step prev (ent i prev s ++ t) = some (s, t) := by
  have hc := com_le i prev s
  unfold step ent
  simp only [List.cons_append]
  have e1 : (UInt8.ofNat (com i prev s)).toNat = com i prev s := by rw [UInt8.toNat_ofNat']; omega
  have e2 : (UInt8.ofNat (s.length - com i prev s)).toNat = s.length - com i prev s := by rw [UInt8.toNat_ofNat']; omega
  rw [e1, e2, if_pos ⟨hc.1, by simp⟩]
  have h1 : (s.drop (com i prev s) ++ t).take (s.length - com i prev s) = s.drop (com i prev s) := by
    rw [List.take_append_of_le_length (by simp), List.take_of_length_le (by simp)]
  have h2 : (s.drop (com i prev s) ++ t).drop (s.length - com i prev s) = t := by
    rw [List.drop_append_of_le_length (by simp), List.drop_of_length_le (by simp)]; rfl
  rw [h1, h2, com_take, List.take_append_drop]
theorem dec_enc (X : List (List UInt8)) (hX : ∀ s ∈ X, s.length ≤ 250) : ∀ (i : Nat) (prev t : List UInt8), prev.length ≤ 250 → decN X.length prev (encF i prev X ++ t) = some (X, t) := by
  induction X with
  | nil => intro i prev t _; rfl
  | cons s r ih =>
    intro i prev t hp
    have hs := hX s (List.mem_cons_self)
    show (step prev (ent i prev s ++ encF (i + 1) s r ++ t)).bind _ = _
    rw [List.append_assoc, step_ent i prev s _ hp hs]
    simp only [Option.bind_some]
    rw [ih (fun x hx => hX x (List.mem_cons_of_mem _ hx)) (i + 1) s t hs]
    rfl

/-- what bytes are the bytes of: the texts, not yet looked at -/
def decB (b : List UInt8) : Option (List (List UInt8)) :=
  match b with
  | p :: q :: r => (decN (p.toNat * 256 + q.toNat) [] r).map (·.1)
  | _ => none
theorem decB_enc (X : List (List UInt8)) (hX : ∀ s ∈ X, s.length ≤ 250) (hn : X.length ≤ 300) (t : List UInt8) : decB (enc X ++ t) = some X ∧ decN X.length [] (encF 0 [] X ++ t) = some (X, t) := by
  have e1 : (UInt8.ofNat (X.length / 256)).toNat * 256 + (UInt8.ofNat X.length).toNat = X.length := by
    rw [UInt8.toNat_ofNat', UInt8.toNat_ofNat']; omega
  have h := dec_enc X hX 0 [] t (by simp)
  refine ⟨?_, h⟩
  show (decN ((UInt8.ofNat (X.length / 256)).toNat * 256 + (UInt8.ofNat X.length).toNat) [] (encF 0 [] X ++ t)).map _ = _
  rw [e1, h]; rfl
/-- no row of bytes is the beginning of another one's bytes -/
theorem enc_free (X Y : List (List UInt8)) (hX : ∀ s ∈ X, s.length ≤ 250) (hn : X.length ≤ 300) (hY : ∀ s ∈ Y, s.length ≤ 250) (hm : Y.length ≤ 300) (t : List UInt8) (h : enc X ++ t = enc Y) : t = [] ∧ X = Y := by
  have h1 := (decB_enc X hX hn t).1
  have h2 := (decB_enc Y hY hm []).1
  rw [List.append_nil] at h2
  rw [h, h2] at h1
  have e : Y = X := Option.some.inj h1
  subst e
  refine ⟨?_, rfl⟩
  have := congrArg List.length h
  rw [List.length_append] at this
  exact List.eq_nil_of_length_eq_zero (by omega)
end Go.Proofs.Ytjnamiiiceggmaa.Fp
