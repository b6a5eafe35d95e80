/- What bytes are the bytes of: no program. -/
import Derived.Test.YtjnamiiiceggmaaRefB
namespace Go.Proofs.Ytjnamiiiceggmaa
open Go.RowKit Go.Lib Fp

/-- b are the bytes of the texts l -/
def Rd (b : List UInt8) (l : List ByteArray) : Prop := May l ∧ enc (tx l) = b
theorem tx_inj : ∀ {l l' : List ByteArray}, tx l = tx l' → l = l'
  | [], [], _ => rfl
  | [], _ :: _, h => by simp [tx] at h
  | _ :: _, [], h => by simp [tx] at h
  | a :: l, b :: l', h => by
    unfold tx at h
    rw [List.map_cons, List.map_cons] at h
    injection h with h1 h2
    rw [ba_eq.2 h1, tx_inj (l := l) (l' := l') h2]
theorem Rd.dec {b : List UInt8} {l : List ByteArray} (h : Rd b l) : decB b = some (tx l) := by
  have := (decB_enc (tx l) h.1.small (by rw [tx_len]; exact h.1.1) []).1
  rwa [List.append_nil, h.2] at this
theorem Rd.uniq {b : List UInt8} {l l' : List ByteArray} (h : Rd b l) (h' : Rd b l') : l = l' := by
  have := h.dec
  rw [h'.dec] at this
  exact (tx_inj (Option.some.inj this)).symm
theorem rd_none {b : List UInt8} (h : decB b = none) : ¬ ∃ l, Rd b l := fun ⟨l, hl⟩ => by
  rw [hl.dec] at h; cases h
theorem rd_some {b : List UInt8} {L : List ByteArray} (h : decB b = some (tx L)) (hn : ¬ Rd b L) : ¬ ∃ l, Rd b l := fun ⟨l, hl⟩ => by
  have := hl.dec
  rw [h] at this
  rw [tx_inj (Option.some.inj this)] at hn
  exact hn hl
theorem rd_short {b : List UInt8} (h : b.length < 2) : ¬ ∃ l, Rd b l := by
  refine rd_none ?_
  match b, h with
  | [], _ => rfl
  | [_], _ => rfl
theorem decB_at {b : List UInt8} (h : 2 ≤ b.length) : decB b = (decN (b[0].toNat * 256 + b[1].toNat) [] (b.drop 2)).map (·.1) := by
  match b, h with
  | p :: q :: r, _ => rfl
theorem step_short {last rest : List UInt8} (h : rest.length < 2) : Fp.step last rest = none := by
  match rest, h with
  | [], _ => rfl
  | [_], _ => rfl
theorem step_at {last b : List UInt8} {off : Nat} (h : off + 2 ≤ b.length) : Fp.step last (b.drop off) =
    if b[off].toNat ≤ last.length ∧ b[off + 1].toNat ≤ b.length - off - 2 then some (last.take b[off].toNat ++ (b.drop (off + 2)).take b[off + 1].toNat, b.drop (off + 2 + b[off + 1].toNat)) else none := by
  have e : b.drop off = b[off] :: b[off + 1] :: b.drop (off + 2) := by
    rw [List.drop_eq_getElem_cons (by omega), List.drop_eq_getElem_cons (by omega)]
  rw [e]
  show (if b[off].toNat ≤ last.length ∧ b[off + 1].toNat ≤ (b.drop (off + 2)).length then _ else _) = _
  rw [List.length_drop, List.drop_drop, Nat.sub_sub]

theorem bytes_st (g : Nat) (l : List ByteArray) (w : World) (h : Dic w g l) :
    Calls Try.prog 13 #[.pointer (some ⟨g, 0, none⟩)] w fun e w' => ∃ A n c, e = .returned (.slice A n c) ∧ Seg w' A n (bys (enc (tx l))) ∧ Below w.heap.size w w' ∧ (convert 23 9 (.slice A n c)).run Try.prog w' = .ok (.string (str (enc (tx l)))) w' :=
  (bytes_calls g l w h).mono fun e w' ⟨v, he, hown, hb⟩ => by
    obtain ⟨A, c, rfl⟩ := own_form hown
    exact ⟨A, _, c, he, Seg.of_own hown, hb, conv_seg _ _ _ _ _ (Seg.of_own hown)⟩
theorem refBytes_st (A : Option Addr) (c : Nat) (l : List ByteArray) (w : World) (h : Seg w A l.length (sts l)) (hm : May l) :
    Calls Try.prog 25 #[.slice A l.length c] w fun e w' => ∃ A n c, e = .returned (.slice A n c) ∧ Seg w' A n (bys (enc (tx l))) ∧ Below w.heap.size w w' ∧ (convert 23 9 (.slice A n c)).run Try.prog w' = .ok (.string (str (enc (tx l)))) w' :=
  (refBytes_calls A c l w h hm).mono fun e w' ⟨v, he, hown, hb⟩ => by
    obtain ⟨A, c, rfl⟩ := own_form hown
    exact ⟨A, _, c, he, Seg.of_own hown, hb, conv_seg _ _ _ _ _ (Seg.of_own hown)⟩

/-- what the readers' loop holds to behind k texts -/
structure RSt (b : List UInt8) (n k off : Nat) (L : List ByteArray) (last : ByteArray) : Prop where
  len : L.length = k
  eq : decN n [] (b.drop 2) = (decN (n - k) last.data.toList (b.drop off)).map fun q => (tx L ++ q.1, q.2)
theorem RSt.start (b : List UInt8) (n : Nat) : RSt b n 0 2 [] ByteArray.empty := by
  refine ⟨rfl, ?_⟩
  show decN n [] (b.drop 2) = (decN n [] (b.drop 2)).map fun q => (q.1, q.2)
  cases decN n [] (b.drop 2) <;> rfl
theorem RSt.fail {b : List UInt8} {n k off : Nat} {L : List ByteArray} {last : ByteArray} (h : RSt b n k off L last) (hk : k < n) (hs : Fp.step last.data.toList (b.drop off) = none) : decN n [] (b.drop 2) = none := by
  rw [h.eq, show n - k = (n - k - 1) + 1 by omega]
  show ((Fp.step last.data.toList (b.drop off)).bind _).map _ = none
  rw [hs]; rfl
theorem RSt.next {b : List UInt8} {n k off off' : Nat} {L : List ByteArray} {last s : ByteArray} (h : RSt b n k off L last) (hk : k < n) (hs : Fp.step last.data.toList (b.drop off) = some (s.data.toList, b.drop off')) : RSt b n (k + 1) off' (L ++ [s]) s := by
  refine ⟨by rw [List.length_append, h.len]; rfl, ?_⟩
  rw [h.eq, show n - k = (n - (k + 1)) + 1 by omega]
  show ((Fp.step last.data.toList (b.drop off)).bind _).map _ = _
  rw [hs]
  show ((decN (n - (k + 1)) s.data.toList (b.drop off')).map _).map _ = _
  cases decN (n - (k + 1)) s.data.toList (b.drop off') with
  | none => rfl
  | some q => simp [tx]
theorem RSt.done {b : List UInt8} {n off : Nat} {L : List ByteArray} {last : ByteArray} (h : RSt b n n off L last) : decN n [] (b.drop 2) = some (tx L, b.drop off) := by
  rw [h.eq, Nat.sub_self]
  show some (tx L ++ [], b.drop off) = _
  rw [List.append_nil]
end Go.Proofs.Ytjnamiiiceggmaa
