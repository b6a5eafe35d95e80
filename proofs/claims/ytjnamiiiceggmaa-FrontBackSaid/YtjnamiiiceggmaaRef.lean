/- What long, and the document's May, Extract, Locate, answer. -/
import Derived.Test.YtjnamiiiceggmaaOpen
namespace Go.Proofs.Ytjnamiiiceggmaa
open Go.RowKit Go.Lib Fp

/-- how long the first k texts are together, one more for each -/
def tot (l : List ByteArray) : Nat → Nat
  | 0 => 0
  | k + 1 => tot l k + 1 + (l.getD k ByteArray.empty).size
theorem tot_ge (l : List ByteArray) : ∀ k, k ≤ tot l k
  | 0 => Nat.zero_le _
  | k + 1 => by have := tot_ge l k; simp only [tot]; omega

set_option maxHeartbeats 1000000 in
theorem long_calls (A : Option Addr) (c : Nat) (l : List ByteArray) (w : World) (h : Txs w A c l) :
    ∃ b : Bool, (b = false → tot l l.length ≤ 20000) ∧ Calls Try.prog 17 #[.slice A l.length c] w fun e w' => e = .returned (.bool b) ∧ w = w' := by
  by_cases hb : tot l l.length ≤ 20000
  · refine ⟨false, fun _ => hb, ?_⟩
    have hmono : ∀ k, k ≤ l.length → tot l k ≤ tot l l.length := by
      have : ∀ d k, tot l k ≤ tot l (k + d) := by
        intro d
        induction d with
        | zero => intro k; exact Nat.le_refl _
        | succ d ih => intro k; have := ih k; rw [← Nat.add_assoc]; simp only [tot]; omega
      intro k hk
      have := this (l.length - k) k
      rwa [show k + (l.length - k) = l.length by omega] at this
    have HS := Lib.hid h.seg
    have HM := Lib.hid hmono
    clear h hmono
    go_enter Try.func17, Try.ntmps17
    go_wp2
    go_loop [3, 4] (fun n i => ∃ k : Nat, k ≤ l.length ∧ i = .int .i64 k ∧ n = .int .i64 (tot l k : Nat)) (fun _ i => l.length - (intOf i).toNat)
    case atStart => exact ⟨0, Nat.zero_le _, rfl, rfl⟩
    case round =>
      obtain ⟨k, hk, rfl, rfl⟩ := hrel
      have h1 := HM.out k hk
      have hkk := tot_ge l k
      by_cases hlt : k < l.length
      · obtain ⟨ad, rfl, hc⟩ := HS.out.str hlt
        have h2 := HM.out (k + 1) hlt
        have h3 : tot l (k + 1) = tot l k + 1 + l[k].size := by simp only [tot]; rw [← List.getElem_eq_getD]
        have H3 := Lib.hid h3
        have h4 : tot l k + 1 + l[k].size ≤ 20000 := by omega
        clear h3 h2
        generalize l[k] = s at hc h4 H3
        go_wp2
        go_round
        case rel => exact ⟨k + 1, by omega, by go_num, by rw [H3.out]; go_num⟩
        case measure => simp [intOf]; omega
      · obtain rfl : k = l.length := by omega
        go_wp2
        go_ret
        exact ⟨by simp <;> omega, rfl⟩
  · refine ⟨true, fun h => (by cases h), ?_⟩
    have HS := Lib.hid h.seg
    have HZ := Lib.hid h.small
    have HB := Lib.hid hb
    clear h hb
    go_enter Try.func17, Try.ntmps17
    go_wp2
    go_loop [3, 4] (fun n i => ∃ k : Nat, k ≤ l.length ∧ i = .int .i64 k ∧ n = .int .i64 (tot l k : Nat) ∧ tot l k ≤ 140737488400000) (fun _ i => l.length - (intOf i).toNat)
    case atStart => exact ⟨0, Nat.zero_le _, rfl, rfl, by simp [tot]⟩
    case round =>
      obtain ⟨k, hk, rfl, rfl, hbd⟩ := hrel
      have hkk := tot_ge l k
      by_cases hlt : k < l.length
      · obtain ⟨ad, rfl, hc⟩ := HS.out.str hlt
        have hsz := HZ.out l[k] (List.getElem_mem _)
        have h3 : tot l (k + 1) = tot l k + 1 + l[k].size := by simp only [tot]; rw [← List.getElem_eq_getD]
        have H3 := Lib.hid h3
        clear h3
        generalize l[k] = s at hc hsz H3
        by_cases hle : tot l k ≤ 20000
        · go_wp2
          go_round
          case rel => exact ⟨k + 1, by omega, by go_num, by rw [H3.out]; go_num, by rw [H3.out]; omega⟩
          case measure => simp [intOf]; omega
        · go_wp2
          go_ret
          exact ⟨by simp <;> omega, rfl⟩
      · have hle : ¬ tot l k ≤ 20000 := by
          have := HB.out
          rwa [show l.length = k by omega] at this
        go_wp2
        go_ret
        exact ⟨by simp <;> omega, rfl⟩

/-! ### the document's May -/
set_option maxHeartbeats 2000000 in
set_option maxRecDepth 100000 in
theorem may_calls (A : Option Addr) (c : Nat) (l : List ByteArray) (w : World) (h : Seg w A l.length (sts l)) (hbig : l.length ≤ 100000) :
    ∃ b : Bool, (b = true ↔ May l) ∧ Calls Try.prog 18 #[.slice A l.length c] w fun e w' => e = .returned (.bool b) ∧ ∃ n, w' = w.drewN n := by
  by_cases hm : ∀ i, i < l.length → OkAt l i
  · refine ⟨decide (l.length ≤ 300), by rw [decide_eq_true_iff]; exact ⟨fun h => ⟨h, hm⟩, fun h => h.1⟩, ?_⟩
    have HS := Lib.hid h
    have HM := Lib.hid hm
    clear h hm
    go_enter Try.func18, Try.ntmps18
    go_wp2
    go_loopw [3] (fun i wr => ∃ k n : Nat, k ≤ l.length ∧ i = .int .i64 k ∧ wr = w.drewN n) (fun i _ => l.length - (intOf i).toNat)
    case atStart => exact ⟨0, 0, Nat.zero_le _, rfl, rfl⟩
    case round =>
      obtain ⟨k, n, hk, rfl, rfl⟩ := hrel
      by_cases hlt : k < l.length
      · obtain ⟨_, h1, h2, h3⟩ := HM.out k hlt
        obtain ⟨ad, rfl, hc⟩ := HS.out.str hlt
        by_cases h0 : 0 < k
        · obtain ⟨ad', e, hc'⟩ := HS.out.str (k := k - 1) (by omega)
          cases e
          have h3' := h3 h0
          have hi1 : (0 : Int) ≤ (k : Int) - 1 := by omega
          have hi2 : (k : Int) - 1 < (l.length : Int) := by omega
          clear h3
          generalize l[k] = s at hc h1 h2 h3'
          generalize l[k - 1] = p at hc' h3'
          have d1 : decide ((s.size : Int) < 1) = false := decide_eq_false (by omega)
          have d2 : decide ((250 : Int) < (s.size : Int)) = false := decide_eq_false (by omega)
          have d3 : decide ((0 : Int) < (k : Int)) = true := decide_eq_true (by omega)
          go_wp2
          go_quiet (fail)
          go_wp2
          go_roundw
          case rel => exact ⟨k + 1, _, by omega, by go_num, rfl⟩
          case measure => simp [intOf]; omega
        · clear h3
          have hd : decide ((0 : Int) < (k : Int)) = false := decide_eq_false (by omega)
          generalize l[k] = s at hc h1 h2
          have d1 : decide ((s.size : Int) < 1) = false := decide_eq_false (by omega)
          have d2 : decide ((250 : Int) < (s.size : Int)) = false := decide_eq_false (by omega)
          go_wp2
          go_quiet (fail)
          go_wp2
          go_roundw
          case rel => exact ⟨k + 1, _, by omega, by go_num, rfl⟩
          case measure => simp [intOf]; omega
      · go_wp2
        go_ret
        exact ⟨by simp <;> omega, _, rfl⟩
  · refine ⟨false, ⟨fun h => (by cases h), fun h => absurd h.2 hm⟩, ?_⟩
    have HS := Lib.hid h
    have HM := Lib.hid hm
    clear h hm
    go_enter Try.func18, Try.ntmps18
    go_wp2
    go_loopw [3] (fun i wr => ∃ k n : Nat, k ≤ l.length ∧ i = .int .i64 k ∧ wr = w.drewN n ∧ Hid (∀ j, j < k → OkAt l j)) (fun i _ => l.length - (intOf i).toNat)
    case atStart => exact ⟨0, 0, Nat.zero_le _, rfl, rfl, fun j hj => by omega⟩
    case round =>
      obtain ⟨k, n, hk, rfl, rfl, HK⟩ := hrel
      by_cases hlt : k < l.length
      · obtain ⟨ad, rfl, hc⟩ := HS.out.str hlt
        by_cases h1 : 1 ≤ l[k].size
        · by_cases h2 : l[k].size ≤ 250
          · by_cases h0 : 0 < k
            · obtain ⟨ad', e, hc'⟩ := HS.out.str (k := k - 1) (by omega)
              cases e
              have hi1 : (0 : Int) ≤ (k : Int) - 1 := by omega
              have hi2 : (k : Int) - 1 < (l.length : Int) := by omega
              have d3 : decide ((0 : Int) < (k : Int)) = true := decide_eq_true (by omega)
              cases h3 : Op.bytesLess l[k - 1].toList l[k].toList
              · generalize l[k] = s at hc h1 h2 h3
                generalize l[k - 1] = p at hc' h3
                have d1 : decide ((s.size : Int) < 1) = false := decide_eq_false (by omega)
                have d2 : decide ((250 : Int) < (s.size : Int)) = false := decide_eq_false (by omega)
                go_wp2
                go_quiet (fail)
                go_wp2
                go_ret
                exact ⟨rfl, _, World.drewN_drewN ..⟩
              · have HK2 : Hid (∀ j, j < k + 1 → OkAt l j) := fun j hj => by
                  rcases Nat.lt_or_ge j k with h4 | h4
                  · exact HK.out j h4
                  · obtain rfl : j = k := by omega
                    exact ⟨hlt, h1, h2, fun _ => h3⟩
                generalize l[k] = s at hc h1 h2 h3
                generalize l[k - 1] = p at hc' h3
                have d1 : decide ((s.size : Int) < 1) = false := decide_eq_false (by omega)
                have d2 : decide ((250 : Int) < (s.size : Int)) = false := decide_eq_false (by omega)
                go_wp2
                go_quiet (fail)
                go_wp2
                go_roundw
                case rel => exact ⟨k + 1, _, by omega, by go_num, rfl, HK2⟩
                case measure => simp [intOf]; omega
            · have HK2 : Hid (∀ j, j < k + 1 → OkAt l j) := fun j hj => by
                rcases Nat.lt_or_ge j k with h4 | h4
                · exact HK.out j h4
                · obtain rfl : j = k := by omega
                  exact ⟨hlt, h1, h2, fun h => absurd h h0⟩
              have hd : decide ((0 : Int) < (k : Int)) = false := decide_eq_false (by omega)
              generalize l[k] = s at hc h1 h2
              have d1 : decide ((s.size : Int) < 1) = false := decide_eq_false (by omega)
              have d2 : decide ((250 : Int) < (s.size : Int)) = false := decide_eq_false (by omega)
              go_wp2
              go_quiet (fail)
              go_wp2
              go_roundw
              case rel => exact ⟨k + 1, _, by omega, by go_num, rfl, HK2⟩
              case measure => simp [intOf]; omega
          · generalize l[k] = s at hc h1 h2
            have d1 : decide ((s.size : Int) < 1) = false := decide_eq_false (by omega)
            have d2 : decide ((250 : Int) < (s.size : Int)) = true := decide_eq_true (by omega)
            go_wp2
            go_quiet (fail)
            go_wp2
            go_ret
            exact ⟨rfl, _, World.drewN_drewN ..⟩
        · generalize l[k] = s at hc h1
          have d1 : decide ((s.size : Int) < 1) = true := decide_eq_true (by omega)
          go_wp2
          go_quiet (fail)
          go_wp2
          go_ret
          exact ⟨rfl, _, World.drewN_drewN ..⟩
      · exact absurd (fun i hi => HK.out i (by omega)) HM.out

/-! ### the document's Extract and Locate -/
theorem refExt_calls (A : Option Addr) (c : Nat) (l : List ByteArray) (id : Int) (w : World) (h : Seg w A l.length (sts l)) (hbig : l.length ≤ 100000) :
    Calls Try.prog 32 #[.slice A l.length c, .int .i64 id] w fun e w' => e = .returned (.string (extZ l id)) ∧ w = w' := by
  by_cases h0 : 1 ≤ id
  · by_cases h1 : id ≤ l.length
    · obtain ⟨m, rfl⟩ : ∃ m : Nat, id = (m : Int) := ⟨id.toNat, by omega⟩
      obtain ⟨ad, rfl, hc⟩ := h.str (k := m - 1) (by omega)
      have he : extZ l (m : Int) = l[m - 1]'(by omega) := by unfold extZ; rw [dif_pos ⟨h0, h1⟩]; congr 1; omega
      rw [← he] at hc
      generalize extZ l (m : Int) = s at hc ⊢
      clear h he
      go_enter Try.func32, Try.ntmps32
      go_wp2
      go_ret
      exact ⟨rfl, rfl⟩
    · have he : extZ l id = ByteArray.empty := by unfold extZ; rw [dif_neg (by omega)]
      rw [he]
      clear h he
      go_enter Try.func32, Try.ntmps32
      go_wp2
      go_ret
      exact ⟨rfl, rfl⟩
  · have he : extZ l id = ByteArray.empty := by unfold extZ; rw [dif_neg (by omega)]
    rw [he]
    clear h he
    go_enter Try.func32, Try.ntmps32
    go_wp2
    go_ret
    exact ⟨rfl, rfl⟩
theorem str_beq (s p : ByteArray) : (s.toList == p.toList) = true ↔ s.data.toList = p.data.toList := by
  rw [Lib.toList_data, Lib.toList_data]; simp
theorem refLoc_calls (A : Option Addr) (c : Nat) (l : List ByteArray) (s : ByteArray) (w : World) (h : Seg w A l.length (sts l)) (hbig : l.length ≤ 100000) :
    Calls Try.prog 23 #[.slice A l.length c, .string s] w fun e w' => e = .returned (.int .i64 (loc (tx l) s.data.toList : Nat)) ∧ w = w' := by
  have HS := Lib.hid h
  clear h
  go_enter Try.func23, Try.ntmps23
  go_wp2
  go_loop [5] (fun i => ∃ k : Nat, k ≤ l.length ∧ i = .int .i64 k ∧ Hid (∀ j, j < k → (hj : j < (tx l).length) → (tx l)[j] ≠ s.data.toList)) (fun i => l.length - (intOf i).toNat)
  case atStart => exact ⟨0, Nat.zero_le _, rfl, fun j hj => by omega⟩
  case round =>
    obtain ⟨k, hk, rfl, HK⟩ := hrel
    by_cases hlt : k < l.length
    · obtain ⟨ad, rfl, hc⟩ := HS.out.str hlt
      have hkx : k < (tx l).length := by rw [tx_len]; exact hlt
      have hget := tx_get l k hlt
      cases hb : (l[k].toList == s.toList)
      · have HK2 : Hid (∀ j, j < k + 1 → (hj : j < (tx l).length) → (tx l)[j] ≠ s.data.toList) := fun j hj hx => by
          rcases Nat.lt_or_ge j k with h4 | h4
          · exact HK.out j h4 hx
          · obtain rfl : j = k := by omega
            rw [hget]
            intro e
            rw [(str_beq _ _).2 e] at hb
            cases hb
        clear hget
        generalize l[k] = t at hc hb
        go_wp2
        go_round
        case rel => exact ⟨k + 1, by omega, by go_num, HK2⟩
        case measure => simp [intOf]; omega
      · have HR : Hid (loc (tx l) s.data.toList = k + 1) := by
          have e : (tx l)[k] = s.data.toList := by rw [hget]; exact (str_beq _ _).1 hb
          show loc (tx l) s.data.toList = k + 1
          rw [← e]
          exact loc_first hkx (fun j hj hx => by rw [e]; exact HK.out j hj hx)
        clear hget
        generalize l[k] = t at hc hb
        go_wp2
        go_ret
        exact ⟨by rw [HR.out]; rfl, rfl⟩
    · have HR : Hid (loc (tx l) s.data.toList = 0) := loc_none fun i hi => HK.out i (by rw [tx_len] at hi; omega) hi
      go_wp2
      go_ret
      exact ⟨by rw [HR.out]; rfl, rfl⟩
end Go.Proofs.Ytjnamiiiceggmaa
