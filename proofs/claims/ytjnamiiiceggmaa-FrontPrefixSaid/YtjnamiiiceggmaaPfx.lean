/- The walk of FrontPrefix. -/
import Derived.Test.YtjnamiiiceggmaaPre
namespace Go.Proofs.Ytjnamiiiceggmaa
open Go.RowKit Go.Lib Fp

theorem pre_all (X : List (List UInt8)) : PreIs X [] (if X.length = 0 then 0 else 1) X.length := by
  refine ⟨?_, fun i hi => ⟨fun _ => ?_, fun _ => List.nil_prefix⟩⟩
  · split <;> omega
  · split <;> omega
theorem hp_iff {l : List ByteArray} {p : ByteArray} {a b : Nat} (h : PreIs (tx l) p.data.toList a b) {k : Nat} (hk : k < l.length) : hp l[k] p = true ↔ a ≤ k + 1 ∧ k + 1 ≤ b := by
  have := h.iff k (by rw [tx_len]; exact hk)
  rw [tx_get l k hk] at this
  rw [← this]
  unfold hp
  rw [decide_eq_true_iff]

set_option maxHeartbeats 4000000 in
set_option maxRecDepth 100000 in
theorem prefix_main (A : Option Addr) (c : Nat) (l : List ByteArray) (p : ByteArray) (w : World) (hs : Seg w A l.length (sts l)) (hm : May l) (hl20 : l.length ≤ 20000) (_ : l.length ≤ c)
    (hp300 : p.size ≤ 300) (hlong : Calls Try.prog 17 #[.slice A l.length c] w fun e w' => e = .returned (.bool false) ∧ w = w')
    (hmay : Calls Try.prog 18 #[.slice A l.length c] w fun e w' => e = .returned (.bool true) ∧ ∃ n, w' = w.drewN n) :
    Calls Try.prog 8 #[.slice A l.length c, .string p] w fun e w' => e = .returned (.bool true) ∧ Below w.heap.size w w' := by
  have HS := Lib.hid hs
  have HM := Lib.hid hm
  clear hs hm
  go_enter Try.func8, Try.ntmps8
  go_wp2_with fail
  refine hlong.mono ?_
  rintro e w' ⟨rfl, rfl⟩
  go_wp2_with fail
  refine hmay.mono ?_
  rintro e w' ⟨rfl, q, rfl⟩
  clear hlong hmay
  go_wp2_with fail
  refine (new_yes A c l _ (HS.out.drewN q) HM.out).mono ?_
  rintro e w1 ⟨g, rfl, _, hd1, hb1⟩
  have hB1 := thn (below_drewN' (Below.refl _ _) q) hb1
  clear hb1
  go_wp2_with fail
  obtain ⟨a, b, hpre, hcalls⟩ := prefix_calls g l p HM.out
  refine (hcalls _ hd1).mono ?_
  rintro e w2 ⟨rfl, hb2⟩
  have hd2 := hd1.below hb2
  have hB2 := thn hB1 hb2
  clear hd1 hb2 hB1 hcalls
  have hok := hpre.ok
  have HP := Lib.hid hpre
  clear hpre
  rw [tx_len] at hok
  have hab : a ≤ b := by omega
  have hbl : b ≤ l.length := by omega
  obtain ⟨z, hz1, hz2⟩ : ∃ z : Bool, ((a : Int) == 0) = z ∧ ((b : Int) == 0) = z := by
    rcases hok with ⟨rfl, rfl⟩ | ⟨h1, h2, h3⟩
    · exact ⟨true, rfl, rfl⟩
    · exact ⟨false, beq_eq_false_iff_ne.2 (by omega), beq_eq_false_iff_ne.2 (by omega)⟩
  have HO := Lib.hid hok
  clear hok
  go_wp2
  go_loopw [9] (fun i wr => ∃ k : Nat, 1 ≤ k ∧ k ≤ l.length + 1 ∧ i = .int .i64 k ∧ Dic wr g l ∧ Below w.heap.size w wr) (fun i _ => l.length + 1 - (intOf i).toNat)
  case atStart => exact ⟨1, Nat.le_refl _, by omega, rfl, hd2, hB2⟩
  case round =>
    obtain ⟨k, hk1, hk2, rfl, hd, hB⟩ := hrel
    by_cases hlt : k ≤ l.length
    · obtain ⟨ad, rfl, hc⟩ := (HS.out.below hB).str (k := k - 1) (by omega)
      have hiff := hp_iff HP.out (k := k - 1) (by omega)
      generalize l[k - 1] = s at hc hiff
      have hi1 : (0 : Int) ≤ (k : Int) - 1 := by omega
      have hi2 : (k : Int) - 1 < (l.length : Int) := by omega
      have hsz : hp s p = true → p.size ≤ s.size := fun h => by
        rcases Nat.lt_or_ge s.size p.size with h1 | h1
        · rw [hp_long (by omega)] at h; cases h
        · exact h1
      by_cases hin : a ≤ k ∧ k ≤ b
      · have hps := hiff.2 ⟨by omega, by omega⟩
        have hle := hsz hps
        have hb := hp_short hle
        rw [hps] at hb
        have d1 : 0 < a := by have := HO.out; omega
        have d2 : decide ((a : Int) ≤ (k : Int)) = true := decide_eq_true (by omega)
        have d3 : decide ((k : Int) ≤ (b : Int)) = true := decide_eq_true (by omega)
        have d4 : decide ((p.size : Int) ≤ (s.size : Int)) = true := decide_eq_true (by omega)
        clear hiff hsz hps
        go_wp2
        go_roundw
        case rel => exact ⟨k + 1, by omega, by omega, by go_num, hd, hB⟩
        case measure => simp [intOf]; omega
      · have hps : hp s p = false := by
          cases h : hp s p
          · rfl
          · have := hiff.1 h; omega
        clear hiff hsz
        have hcase : ¬ 0 < a ∨ (0 < a ∧ ¬ a ≤ k) ∨ (0 < a ∧ a ≤ k ∧ ¬ k ≤ b) := by omega
        by_cases hle : p.size ≤ s.size
        · have hb := hp_short hle
          rw [hps] at hb
          have d4 : decide ((p.size : Int) ≤ (s.size : Int)) = true := decide_eq_true (by omega)
          clear hps hin
          rcases hcase with d1 | ⟨d1, d2⟩ | ⟨d1, d2, d3⟩
          · clear hbl hab hz1 hz2
            go_wp2
            go_roundw
            case rel => exact ⟨k + 1, by omega, by omega, by go_num, hd, hB⟩
            case measure => simp [intOf]; omega
          · have d2' : decide ((a : Int) ≤ (k : Int)) = false := decide_eq_false (by omega)
            go_wp2
            go_roundw
            case rel => exact ⟨k + 1, by omega, by omega, by go_num, hd, hB⟩
            case measure => simp [intOf]; omega
          · have d2' : decide ((a : Int) ≤ (k : Int)) = true := decide_eq_true (by omega)
            have d3' : decide ((k : Int) ≤ (b : Int)) = false := decide_eq_false (by omega)
            go_wp2
            go_roundw
            case rel => exact ⟨k + 1, by omega, by omega, by go_num, hd, hB⟩
            case measure => simp [intOf]; omega
        · have d4 : decide ((p.size : Int) ≤ (s.size : Int)) = false := decide_eq_false (by omega)
          clear hps hin
          rcases hcase with d1 | ⟨d1, d2⟩ | ⟨d1, d2, d3⟩
          · clear hbl hab hz1 hz2
            go_wp2
            go_roundw
            case rel => exact ⟨k + 1, by omega, by omega, by go_num, hd, hB⟩
            case measure => simp [intOf]; omega
          · have d2' : decide ((a : Int) ≤ (k : Int)) = false := decide_eq_false (by omega)
            go_wp2
            go_roundw
            case rel => exact ⟨k + 1, by omega, by omega, by go_num, hd, hB⟩
            case measure => simp [intOf]; omega
          · have d2' : decide ((a : Int) ≤ (k : Int)) = true := decide_eq_true (by omega)
            have d3' : decide ((k : Int) ≤ (b : Int)) = false := decide_eq_false (by omega)
            go_wp2
            go_roundw
            case rel => exact ⟨k + 1, by omega, by omega, by go_num, hd, hB⟩
            case measure => simp [intOf]; omega
    · clear hz1 hz2
      go_wp2_with fail
      obtain ⟨a2, b2, hpre2, hcalls2⟩ := prefix_calls g l ⟨#[]⟩ HM.out
      obtain ⟨ha2, hb2⟩ := hpre2.uniq (pre_all (tx l))
      rw [tx_len] at ha2 hb2
      subst ha2
      subst hb2
      clear hpre2
      refine (hcalls2 _ hd).mono ?_
      rintro e w3 ⟨rfl, hb3⟩
      have hB3 := thn hB hb3
      clear hb3 hcalls2 hd hB
      by_cases h0 : l.length = 0
      · rw [if_pos h0]
        have e0 : ((l.length : Int) == 0) = true := by rw [h0]; rfl
        go_wp2_with fail
        refine (known_calls _).mono ?_
        rintro e w4 ⟨rfl, hb4⟩
        go_wp2_with fail
        go_ret
        exact ⟨rfl, thn hB3 hb4⟩
      · rw [if_neg h0]
        have e0 : ((l.length : Int) == 0) = false := beq_eq_false_iff_ne.2 (by omega)
        have e1 : 0 < l.length := by omega
        go_wp2_with fail
        refine (known_calls _).mono ?_
        rintro e w4 ⟨rfl, hb4⟩
        go_wp2_with fail
        go_ret
        exact ⟨rfl, thn hB3 hb4⟩

set_option maxHeartbeats 4000000 in
set_option maxRecDepth 100000 in
theorem prefix_walk (A : Option Addr) (c : Nat) (l : List ByteArray) (p : ByteArray) (w : World) (h : Txs w A c l) (_ : p.size ≤ 140737488351232) :
    Calls Try.prog 8 #[.slice A l.length c, .string p] w fun e w' => e = .returned (.bool true) ∧ Below w.heap.size w w' := by
  obtain ⟨bl, hbl, hlong⟩ := long_calls A c l w h
  cases bl
  · have htot := hbl rfl
    have hlen := tot_ge l l.length
    have hl20 : l.length ≤ 20000 := by omega
    obtain ⟨bm, hbm, hmay⟩ := may_calls A c l w h.seg (by omega)
    cases bm
    · clear hbl hbm h htot hlen
      go_enter Try.func8, Try.ntmps8
      go_wp2_with fail
      refine hlong.mono ?_
      rintro e w' ⟨rfl, rfl⟩
      go_wp2_with fail
      refine hmay.mono ?_
      rintro e w' ⟨rfl, q, rfl⟩
      go_wp2_with fail
      go_ret
      exact ⟨rfl, below_drewN' (Below.refl _ _) q⟩
    · have hm := hbm.1 rfl
      have hcap := h.cap
      by_cases h3 : p.size ≤ 300
      · exact prefix_main A c l p w h.seg hm hl20 hcap h3 hlong hmay
      · clear hbl hbm h htot hm hlen
        go_enter Try.func8, Try.ntmps8
        go_wp2_with fail
        refine hlong.mono ?_
        rintro e w' ⟨rfl, rfl⟩
        go_wp2_with fail
        refine hmay.mono ?_
        rintro e w' ⟨rfl, q, rfl⟩
        go_wp2_with fail
        go_ret
        exact ⟨rfl, below_drewN' (Below.refl _ _) q⟩
  · clear hbl h
    go_enter Try.func8, Try.ntmps8
    go_wp2_with fail
    refine hlong.mono ?_
    rintro e w' ⟨rfl, rfl⟩
    go_wp2_with fail
    go_ret
    exact ⟨rfl, Below.refl _ _⟩
end Go.Proofs.Ytjnamiiiceggmaa
