/- What texts, and the document's Prefix, answer. -/
import Derived.Test.YtjnamiiiceggmaaPre
namespace Go.Proofs.Ytjnamiiiceggmaa
open Go.RowKit Go.Lib Fp

set_option maxHeartbeats 1000000 in
theorem texts_calls (g : Nat) (A : Option Addr) (c : Nat) (l : List ByteArray) (w : World) (hd : Dic w g l) (hs : Seg w A l.length (sts l)) :
    Calls Try.prog 22 #[.pointer (some ⟨g, 0, none⟩), .slice A l.length c] w fun e w' => e = .returned (.bool true) ∧ w = w' := by
  have hlen := hd.may.1
  have HL := Lib.hid (len_calls g l w hd)
  have HE := Lib.hid fun id => ext_calls g l id w hd
  have HR := Lib.hid fun id => refExt_calls A c l id w hs (by omega)
  clear hd hs
  go_enter Try.func22, Try.ntmps22
  go_wp2_with fail
  refine HL.out.mono ?_
  rintro e w' ⟨rfl, rfl⟩
  go_wp2
  go_loop [5] (fun i => ∃ k : Int, -1 ≤ k ∧ k ≤ (l.length : Int) + 2 ∧ i = .int .i64 k) (fun i => ((l.length : Int) + 2 - intOf i).toNat)
  case atStart => exact ⟨-1, by omega, by omega, rfl⟩
  case round =>
    obtain ⟨k, hk1, hk2, rfl⟩ := hrel
    by_cases hlt : k ≤ (l.length : Int) + 1
    · have he := HE.out k
      have hr := HR.out k
      generalize extZ l k = s at he hr
      have HE1 := Lib.hid he
      have HR1 := Lib.hid hr
      clear he hr
      go_wp2_with fail
      refine HE1.out.mono ?_
      rintro e w' ⟨rfl, rfl⟩
      go_wp2_with fail
      refine HR1.out.mono ?_
      rintro e w' ⟨rfl, rfl⟩
      go_wp2
      go_round
      case rel => exact ⟨k + 1, by omega, by omega, by go_num⟩
      case measure => simp [intOf]; omega
    · go_wp2
      go_ret
      exact ⟨rfl, rfl⟩

/-- what the loop of the document's Prefix holds to behind k texts -/
structure PSt (l : List ByteArray) (p : ByteArray) (k a b : Nat) : Prop where
  st : (a = 0 ∧ b = 0 ∧ ∀ j, j < k → hp (l.getD j ByteArray.empty) p = false) ∨
    (1 ≤ a ∧ a ≤ b ∧ b ≤ k ∧ hp (l.getD (a - 1) ByteArray.empty) p = true ∧ hp (l.getD (b - 1) ByteArray.empty) p = true ∧ ∀ j, j < k → hp (l.getD j ByteArray.empty) p = true → a ≤ j + 1 ∧ j + 1 ≤ b)
theorem PSt.no {l : List ByteArray} {p : ByteArray} {k a b : Nat} (h : PSt l p k a b) (hn : hp (l.getD k ByteArray.empty) p = false) : PSt l p (k + 1) a b := by
  refine ⟨h.st.imp (fun ⟨h1, h2, h3⟩ => ⟨h1, h2, fun j hj => ?_⟩) (fun ⟨h1, h2, h3, h4, h5, h6⟩ => ⟨h1, h2, by omega, h4, h5, fun j hj hp => ?_⟩)⟩
  · rcases Nat.lt_or_ge j k with h | h
    · exact h3 j h
    · obtain rfl : j = k := by omega
      exact hn
  · rcases Nat.lt_or_ge j k with h | h
    · exact h6 j h hp
    · obtain rfl : j = k := by omega
      rw [hn] at hp; cases hp
theorem PSt.first {l : List ByteArray} {p : ByteArray} {k b : Nat} (h : PSt l p k 0 b) (hy : hp (l.getD k ByteArray.empty) p = true) : PSt l p (k + 1) (k + 1) (k + 1) := by
  refine ⟨.inr ⟨by omega, by omega, by omega, hy, hy, fun j hj hpj => ?_⟩⟩
  rcases h.st with ⟨_, _, h3⟩ | ⟨h1, _⟩
  · rcases Nat.lt_or_ge j k with h | h
    · rw [h3 j h] at hpj; cases hpj
    · omega
  · omega
theorem PSt.more {l : List ByteArray} {p : ByteArray} {k a b : Nat} (h : PSt l p k a b) (ha : a ≠ 0) (hy : hp (l.getD k ByteArray.empty) p = true) : PSt l p (k + 1) a (k + 1) := by
  rcases h.st with ⟨h1, _⟩ | ⟨h1, h2, h3, h4, h5, h6⟩
  · exact absurd h1 ha
  · refine ⟨.inr ⟨h1, by omega, by omega, h4, hy, fun j hj hpj => ?_⟩⟩
    rcases Nat.lt_or_ge j k with h | h
    · have := h6 j h hpj; omega
    · omega
theorem hp_at {l : List ByteArray} (p : ByteArray) {t : Nat} (ht : t < l.length) : hp (l.getD t ByteArray.empty) p = true ↔ p.data.toList <+: (tx l)[t]'(by rw [tx_len]; exact ht) := by
  rw [tx_get l t ht, ← List.getElem_eq_getD (h := ht)]
  unfold hp
  rw [decide_eq_true_iff]
theorem PSt.end_ {l : List ByteArray} {p : ByteArray} {a b : Nat} (h : PSt l p l.length a b) (hm : May l) : PreIs (tx l) p.data.toList a b := by
  refine pre_ends hm.srt ?_
  rcases h.st with ⟨h1, h2, h3⟩ | ⟨h1, h2, h3, h4, h5, h6⟩
  · refine .inl ⟨h1, h2, fun i hi hpi => ?_⟩
    rw [tx_len] at hi
    have := (hp_at p hi).2 hpi
    rw [h3 i hi] at this; cases this
  · refine .inr ⟨h1, h2, by rw [tx_len]; exact h3, (hp_at p (by omega)).1 h4, (hp_at p (by omega)).1 h5, fun i hi hpi => ?_⟩
    rw [tx_len] at hi
    exact h6 i hi ((hp_at p hi).2 hpi)
theorem PSt.le {l : List ByteArray} {p : ByteArray} {k a b : Nat} (h : PSt l p k a b) : a ≤ k ∧ b ≤ k := by
  rcases h.st with ⟨h1, h2, h3⟩ | ⟨h1, h2, h3, _⟩ <;> omega

set_option maxHeartbeats 2000000 in
theorem refPre_calls (A : Option Addr) (c : Nat) (l : List ByteArray) (p : ByteArray) (a b : Nat) (w : World) (h : Seg w A l.length (sts l)) (hm : May l) (hpre : PreIs (tx l) p.data.toList a b) :
    Calls Try.prog 26 #[.slice A l.length c, .string p] w fun e w' => e = .returned (.tuple #[.int .i64 a, .int .i64 b]) ∧ w = w' := by
  have hlen := hm.1
  have HS := Lib.hid h
  have HM := Lib.hid hm
  have HP := Lib.hid hpre
  clear h hm hpre
  go_enter Try.func26, Try.ntmps26
  go_wp2
  go_loop [6, 7, 8] (fun u v i => ∃ k f m : Nat, k ≤ l.length ∧ i = .int .i64 k ∧ u = .int .i64 f ∧ v = .int .i64 m ∧ f ≤ k ∧ m ≤ k ∧ Hid (PSt l p k f m)) (fun _ _ i => l.length - (intOf i).toNat)
  case atStart => exact ⟨0, 0, 0, Nat.zero_le _, rfl, rfl, rfl, Nat.le_refl _, Nat.le_refl _, ⟨.inl ⟨rfl, rfl, fun j hj => absurd hj (by omega)⟩⟩⟩
  case round =>
    obtain ⟨k, f, m, hk, rfl, rfl, rfl, hf, hmk, HT⟩ := hrel
    by_cases hlt : k < l.length
    · obtain ⟨ad, rfl, hc⟩ := HS.out.str hlt
      have eg : l.getD k ByteArray.empty = l[k] := (List.getElem_eq_getD _).symm
      have hno := fun h => HT.out.no (k := k) h
      have hmore := fun h h' => HT.out.more (k := k) h h'
      have hfirst := fun (h0 : f = 0) h' => (by have h := HT.out; rw [h0] at h; exact h.first h' : PSt l p (k + 1) (k + 1) (k + 1))
      rw [eg] at hno hmore hfirst
      clear eg
      generalize l[k] = s at hc hno hmore hfirst
      by_cases hle : p.size ≤ s.size
      · have hb := hp_short hle
        cases hps : hp s p
        · have HN := Lib.hid (hno hps)
          rw [hps] at hb
          clear hno hmore hfirst hps
          go_wp2
          go_round
          case rel => exact ⟨k + 1, f, m, by omega, by go_num, rfl, rfl, by omega, by omega, HN⟩
          case measure => simp [intOf]; omega
        · rw [hps] at hb
          by_cases h0 : f = 0
          · have HN := Lib.hid (hfirst h0 hps)
            have hfb : ((f : Int) == 0) = true := by rw [h0]; rfl
            clear hno hmore hfirst hps
            go_wp2
            go_round
            case rel => exact ⟨k + 1, k + 1, k + 1, by omega, by go_num, by go_num, by go_num, by omega, by omega, HN⟩
            case measure => simp [intOf]; omega
          · have HN := Lib.hid (hmore h0 hps)
            have hfb : ((f : Int) == 0) = false := beq_eq_false_iff_ne.2 (by omega)
            clear hno hmore hfirst hps
            go_wp2
            go_round
            case rel => exact ⟨k + 1, f, k + 1, by omega, by go_num, rfl, by go_num, by omega, by omega, HN⟩
            case measure => simp [intOf]; omega
      · have HN := Lib.hid (hno (hp_long hle))
        clear hno hmore hfirst
        go_wp2
        go_round
        case rel => exact ⟨k + 1, f, m, by omega, by go_num, rfl, rfl, by omega, by omega, HN⟩
        case measure => simp [intOf]; omega
    · obtain rfl : k = l.length := by omega
      obtain ⟨rfl, rfl⟩ := (HT.out.end_ HM.out).uniq HP.out
      go_wp2
      go_ret2
      exact ⟨rfl, rfl⟩
end Go.Proofs.Ytjnamiiiceggmaa
