/- What Len, Extract, Locate of a Dict answer; bytes.Equal. -/
import Derived.Test.YtjnamiiiceggmaaBytes
namespace Go.Proofs.Ytjnamiiiceggmaa
open Go.RowKit Go.Lib Fp

theorem tx_lt (l : List ByteArray) {i j : Nat} (hi : i < l.length) (hj : j < l.length) : (tx l)[i]'(by rw [tx_len]; exact hi) < (tx l)[j]'(by rw [tx_len]; exact hj) ↔ Op.bytesLess l[i].toList l[j].toList = true := by
  rw [tx_get l i hi, tx_get l j hj, bytesLess_eq, Lib.toList_data, Lib.toList_data]; simp
theorem May.srt {l : List ByteArray} (h : May l) : Srt (tx l) := by
  intro i hi
  rw [tx_len] at hi
  rw [tx_lt l (by omega) hi]
  obtain ⟨_, _, _, h3⟩ := h.2 (i + 1) hi
  exact h3 (by omega)
theorem May.small {l : List ByteArray} (h : May l) : ∀ s ∈ tx l, s.length ≤ 250 := by
  intro s hs
  obtain ⟨b, hb, rfl⟩ := List.mem_map.1 hs
  obtain ⟨i, hi, rfl⟩ := List.getElem_of_mem hb
  obtain ⟨_, _, h2, _⟩ := h.2 i hi
  rw [Array.length_toList]; exact h2
theorem ba_eq {a b : ByteArray} : a = b ↔ a.data.toList = b.data.toList := ⟨fun h => by rw [h], fun h => WideShapes.bytes_inj h⟩

theorem all_calls (g : Nat) (A : Option Addr) (n c : Nat) (w : World) (hb : w.heap[g]? = some (.cells #[.slice A n c] 51 (0, 0))) :
    Calls Try.prog 29 #[.pointer (some ⟨g, 0, none⟩)] w fun e w' => e = .returned (.slice A n c) ∧ w = w' := by
  have k0 : w.cell? ⟨g, 0, none⟩ = some (.slice A n c) := by rw [cell_of_row w g 0 _ 51 (0, 0) hb]; rfl
  clear hb
  go_enter Try.func29, Try.ntmps29
  go_wp2
  go_ret
  exact ⟨rfl, rfl⟩
theorem all_nil (w : World) : Calls Try.prog 29 #[.pointer none] w fun e w' => e = .returned (.slice none 0 0) ∧ w = w' := by
  go_enter Try.func29, Try.ntmps29
  go_wp2
  go_ret
  exact ⟨rfl, rfl⟩
theorem len_calls (g : Nat) (l : List ByteArray) (w : World) (h : Dic w g l) :
    Calls Try.prog 15 #[.pointer (some ⟨g, 0, none⟩)] w fun e w' => e = .returned (.int .i64 l.length) ∧ w = w' := by
  obtain ⟨A, c, hb, _⟩ := h.ex
  have hal := all_calls g A l.length c w hb
  clear h hb
  go_enter Try.func15, Try.ntmps15
  go_wp2_with (go_at_call 29; refine hal.mono ?_; rintro e w' ⟨rfl, rfl⟩)
  go_ret
  exact ⟨rfl, rfl⟩
theorem len_nil (w : World) : Calls Try.prog 15 #[.pointer none] w fun e w' => e = .returned (.int .i64 0) ∧ w = w' := by
  go_enter Try.func15, Try.ntmps15
  go_wp2_with (go_at_call 29; refine (all_nil _).mono ?_; rintro e w' ⟨rfl, rfl⟩)
  go_ret
  exact ⟨rfl, rfl⟩

/-- a number's text; empty where there is none -/
def extZ (l : List ByteArray) (id : Int) : ByteArray := if h : 1 ≤ id ∧ id ≤ l.length then l[(id - 1).toNat]'(by omega) else ByteArray.empty
theorem ext_calls (g : Nat) (l : List ByteArray) (id : Int) (w : World) (h : Dic w g l) :
    Calls Try.prog 19 #[.pointer (some ⟨g, 0, none⟩), .int .i64 id] w fun e w' => e = .returned (.string (extZ l id)) ∧ w = w' := by
  have hL := len_calls g l w h
  obtain ⟨A, c, hb, hs⟩ := h.ex
  have hlen := h.may.1
  have k0 : w.cell? ⟨g, 0, none⟩ = some (.slice A l.length c) := by rw [cell_of_row w g 0 _ 51 (0, 0) hb]; rfl
  by_cases h0 : 1 ≤ id
  · by_cases h1 : id ≤ l.length
    · obtain ⟨m, rfl⟩ : ∃ m : Nat, id = (m : Int) := ⟨id.toNat, by omega⟩
      obtain ⟨ad, rfl, hc⟩ := hs.str (k := m - 1) (by omega)
      have he : extZ l (m : Int) = l[m - 1]'(by omega) := by unfold extZ; rw [dif_pos ⟨h0, h1⟩]; congr 1; omega
      rw [← he] at hc
      generalize extZ l (m : Int) = s at hc ⊢
      clear hs hb h he
      go_enter Try.func19, Try.ntmps19
      go_wp2_with (go_at_call 15; refine hL.mono ?_; rintro e w' ⟨rfl, rfl⟩)
      go_ret
      exact ⟨rfl, rfl⟩
    · have he : extZ l id = ByteArray.empty := by unfold extZ; rw [dif_neg (by omega)]
      rw [he]
      clear hs hb h he
      go_enter Try.func19, Try.ntmps19
      go_wp2_with (go_at_call 15; refine hL.mono ?_; rintro e w' ⟨rfl, rfl⟩)
      go_ret
      exact ⟨rfl, rfl⟩
  · have he : extZ l id = ByteArray.empty := by unfold extZ; rw [dif_neg (by omega)]
    rw [he]
    clear hs hb h he
    go_enter Try.func19, Try.ntmps19
    go_wp2_with (go_at_call 15; refine hL.mono ?_; rintro e w' ⟨rfl, rfl⟩)
    go_ret
    exact ⟨rfl, rfl⟩

/-- the search among texts that rise -/
theorem bs_calls (A : Option Addr) (c : Nat) (l : List ByteArray) (x : ByteArray) (w : World) (h : Seg w A l.length (sts l)) (hm : May l) :
    ∃ k, k ≤ l.length ∧ (∀ t, t < k → (ht : t < (tx l).length) → (tx l)[t] < x.data.toList) ∧ (∀ t, k ≤ t → (ht : t < (tx l).length) → ¬ (tx l)[t] < x.data.toList) ∧
      ∃ b : Bool, (b = true ↔ ∃ hk : k < l.length, l[k] = x) ∧
      Calls Try.prog 30 #[.slice A l.length c, .string x] w fun e w' => e = .returned (.tuple #[.int .i64 (k : Nat), .bool b]) ∧ ∃ q, w' = w.drewN q := by
  obtain ⟨k, hk, h1, h2⟩ := cut_at hm.srt x.data.toList
  rw [tx_len] at hk
  refine ⟨k, hk, h1, h2, ?_⟩
  have hlen := hm.1
  rcases Nat.eq_zero_or_pos l.length with h0 | h0
  · refine ⟨false, ⟨fun h => (by cases h), fun ⟨hk', _⟩ => (by omega)⟩, ?_⟩
    have hb := Any2.slices_BinarySearch_string_empty Try.bsearch A c x w
    obtain rfl : k = 0 := by omega
    rw [h0]
    exact hb.mono fun _ _ ⟨he, hw⟩ => ⟨he, 0, hw⟩
  · obtain ⟨⟨b, off, sp⟩, e, hc⟩ := h.cell h0
    obtain rfl : sp = none := by
      have := hc 0 _ (List.getElem?_eq_getElem (by rw [sts_len]; exact h0))
      simpa [Addr.add] using World.cell?_spot this
    subst e
    have hS := Any2.slices_BinarySearch_string Try.bsearch b off l.length c (fun t => l.getD t x) x w (by omega) (fun j hj => by
      have := hc j (.string l[j]) (by simp [sts, hj])
      rw [WideShapes.add_plain] at this
      rw [this, ← List.getElem_eq_getD])
    have hgo : Lib.bsGo (fun t => Op.bytesLess (l.getD t x).toList x.toList) l.length 0 l.length = k := by
      refine Lib.bsGo_spec _ k (fun t ht => ?_) (fun t ht => ?_) _ _ _ (by omega) (Nat.zero_le _) hk
      · have ht' : t < l.length := by omega
        have := h1 t ht (by rw [tx_len]; exact ht')
        rw [tx_get l t ht'] at this
        rw [← List.getElem_eq_getD (h := ht'), bytesLess_eq, Lib.toList_data, Lib.toList_data]
        simpa using this
      · by_cases ht' : t < l.length
        · have := h2 t ht (by rw [tx_len]; exact ht')
          rw [tx_get l t ht'] at this
          rw [← List.getElem_eq_getD (h := ht'), bytesLess_eq, Lib.toList_data, Lib.toList_data]
          simpa using this
        · rw [show l.getD t x = x by simp [List.getD, List.getElem?_eq_none (show l.length ≤ t by omega)], bytesLess_eq]
          simp
    rw [hgo] at hS
    refine ⟨_, ?_, hS⟩
    rw [decide_eq_true_iff]
    refine ⟨fun ⟨a, b⟩ => ⟨a, ?_⟩, fun ⟨a, b⟩ => ⟨a, ?_⟩⟩
    · rw [← List.getElem_eq_getD (h := a)] at b; exact b
    · rw [← List.getElem_eq_getD (h := a)]; exact b

theorem locate_calls (g : Nat) (l : List ByteArray) (s : ByteArray) (w : World) (h : Dic w g l) :
    Calls Try.prog 16 #[.pointer (some ⟨g, 0, none⟩), .string s] w fun e w' => e = .returned (.int .i64 (loc (tx l) s.data.toList : Nat)) ∧ ∃ q, w' = w.drewN q := by
  obtain ⟨A, c, hb, hs⟩ := h.ex
  have hal := all_calls g A l.length c w hb
  have hlen := h.may.1
  obtain ⟨k, hk, h1, h2, b, hbb, hbs⟩ := bs_calls A c l s w hs h.may
  have hlc := loc_cut h.may.srt h1 h2
  cases b
  · have hl0 : loc (tx l) s.data.toList = 0 := hlc.2 (fun hk' e => by
      rw [tx_len] at hk'
      rw [tx_get l k hk'] at e
      have := hbb.2 ⟨hk', ba_eq.2 e⟩
      cases this)
    rw [hl0]
    clear h hb hs hlc hl0 hbb h1 h2
    go_enter Try.func16, Try.ntmps16
    go_wp2_with (first | (go_at_call 29; refine hal.mono ?_; rintro e w' ⟨rfl, rfl⟩) | (go_at_call 30; refine hbs.mono ?_; rintro e w' ⟨rfl, q, rfl⟩))
    go_ret
    exact ⟨rfl, _, rfl⟩
  · obtain ⟨hk', e⟩ := hbb.1 rfl
    have hl1 : loc (tx l) s.data.toList = k + 1 := hlc.1 (by rw [tx_len]; exact hk') (by rw [tx_get l k hk', e])
    rw [hl1]
    clear h hb hs hlc hl1 hbb h1 h2 e
    go_enter Try.func16, Try.ntmps16
    go_wp2_with (first | (go_at_call 29; refine hal.mono ?_; rintro e w' ⟨rfl, rfl⟩) | (go_at_call 30; refine hbs.mono ?_; rintro e w' ⟨rfl, q, rfl⟩))
    go_ret
    exact ⟨rfl, _, rfl⟩
end Go.Proofs.Ytjnamiiiceggmaa
