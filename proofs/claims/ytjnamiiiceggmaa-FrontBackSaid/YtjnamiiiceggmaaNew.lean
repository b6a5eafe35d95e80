/- front.New makes a Dict of texts that may be one's, and of no others. -/
import Derived.Test.YtjnamiiiceggmaaWords
namespace Go.Proofs.Ytjnamiiiceggmaa
open Go.RowKit Go.Lib Fp

/-- text i may stand where it stands -/
def OkAt (l : List ByteArray) (i : Nat) : Prop := ∃ h : i < l.length, 1 ≤ l[i].size ∧ l[i].size ≤ 250 ∧ (0 < i → Op.bytesLess (l[i - 1]'(by omega)).toList l[i].toList = true)
def May (l : List ByteArray) : Prop := l.length ≤ 300 ∧ ∀ i, i < l.length → OkAt l i

/-- slices.Clone of texts. -/
theorem clone_calls (A : Option Addr) (n c : Nat) (news : List Value) (w : World) (h : Seg w A n news) (h1 : ∀ u ∈ news, u.oneCell' = true) (hn : n ≤ 300) :
    Calls Try.prog 27 #[.slice A n c] w fun e w' => ∃ v', e = .returned v' ∧ w'.ownsRow w.heap.size 9 1 v' n news ∧ Below w.heap.size w w' := by
  have q22 : ∀ (w : World) (a : Option Addr) (n c n' c' : Nat), (binOp .eql 22 (.slice a n c) (.slice none n' c')).run Try.prog w = .ok (.bool a.isNone) w := fun w a n c n' c' => Lib.run_eql_slice_nil w _ _ a n c n' c' Try.underlying22
  obtain ⟨i0, hi, hz0, hz1, hz2⟩ := info_parts info9
  cases A with
  | none =>
    have hn0 : n = 0 := by
      rcases Nat.eq_zero_or_pos n with h0 | h0
      · exact h0
      · obtain ⟨ad, e, _⟩ := h.cell h0; cases e
    subst hn0
    obtain rfl : news = [] := List.eq_nil_of_length_eq_zero h.len
    clear h1 h
    go_enter Try.func27, Try.ntmps27
    go_wp2
    go_ret
    exact ⟨_, rfl, World.ownsRow_nil _ _ _ _, Below.refl _ _⟩
  | some ad =>
    have HS := Lib.hid h
    have H1 := Lib.hid h1
    clear h h1
    go_enter Try.func27, Try.ntmps27
    go_wp2_with (at_builtin; refine wpList_append_seg _ rfl _ _ 22 rfl w.heap.size 9 i0 (.string ByteArray.empty) 16 Try.underlying22 hi hz0 hz1 hz2 rfl _ _ _ rfl (World.ownsRow_made w #[] 0 (Nat.le_refl _) (Nat.zero_le _) (by simp)) (some ad) n c news rfl ?qc1 ?qc2 ?qc3 ?qc4 ?qc5 ?_)
    case qc1 => exact HS.out.below ((Below.refl _ _).alloc (Nat.le_refl _) _)
    case qc2 => exact H1.out
    case qc3 => unfold maxLen; omega
    case qc4 => omega
    case qc5 => simp
    intro v' w1 hown hgrow
    go_wp2
    go_ret
    refine ⟨v', rfl, by simpa using hown, ?_⟩
    exact ((Below.refl _ w).alloc (Nat.le_refl _) _).grown hgrow (by simp) (by intro k hk; simp [Value.ownBlock] at hk; omega)

/-- block g is a Dict of the texts l -/
structure Dic (w : World) (g : Nat) (l : List ByteArray) : Prop where
  ex : ∃ A c, w.heap[g]? = some (.cells #[.slice A l.length c] 51 (0, 0)) ∧ Seg w A l.length (sts l)
  may : May l
theorem Dic.lt {w : World} {g : Nat} {l : List ByteArray} (h : Dic w g l) : g < w.heap.size := by
  obtain ⟨A, c, hb, _⟩ := h.ex
  exact (Array.getElem?_eq_some_iff.1 hb).1
theorem Dic.below {w w' : World} {g : Nat} {l : List ByteArray} (h : Dic w g l) (hb : Below w.heap.size w w') : Dic w' g l := by
  have hlt := h.lt
  refine ⟨?_, h.may⟩
  obtain ⟨A, c, hg, h1⟩ := h.ex
  exact ⟨A, c, (hb.block g hlt).trans hg, h1.below hb⟩
theorem Dic.drewN {w : World} {g : Nat} {l : List ByteArray} (h : Dic w g l) (n : Nat) : Dic (w.drewN n) g l := h.below ⟨rfl, rfl, rfl, Nat.le_refl _, fun _ _ => rfl⟩
theorem new_dic (w1 w : World) (A1 : Option Addr) (c1 : Nat) (l : List ByteArray) (hm : May l) (hrow : w1.ownsRow w.heap.size 9 1 (.slice A1 l.length c1) l.length (sts l)) :
    Dic (w1.alloc (.cells #[.slice A1 l.length c1] 51)) w1.heap.size l := by
  refine ⟨⟨A1, c1, heap_alloc_new w1 _, ?_⟩, hm⟩
  exact (Seg.of_own hrow).below ((Below.refl _ _).alloc (Nat.le_refl _) _)

theorem size_toList (s : ByteArray) : s.toList.length = s.size := by rw [Lib.toList_data, Array.length_toList]; rfl
theorem empty_of {s : ByteArray} (h : s.size = 0) : s.toList = [] := List.eq_nil_of_length_eq_zero (by rw [size_toList, h])
theorem not_empty_of {s : ByteArray} (h : 1 ≤ s.size) : s.toList ≠ [] := by
  intro e
  have := size_toList s
  rw [e] at this
  simp at this; omega

set_option maxHeartbeats 2000000 in
set_option maxRecDepth 100000 in
theorem new_yes (A : Option Addr) (c : Nat) (l : List ByteArray) (w : World) (h : Seg w A l.length (sts l)) (hm : May l) :
    Calls Try.prog 12 #[.slice A l.length c] w fun e w' => ∃ g, e = .returned (.tuple #[.pointer (some ⟨g, 0, none⟩), .int .i64 0]) ∧ w.heap.size ≤ g ∧ Dic w' g l ∧ Below w.heap.size w w' := by
  have hlen := hm.1
  have hcl := Lib.hid (clone_calls A l.length c (sts l) w h (sts_one l) hlen)
  have HS := Lib.hid h
  have HM := Lib.hid hm
  clear h hm
  go_enter Try.func12, Try.ntmps12
  go_wp2
  go_loop [11] (fun i => ∃ k : Nat, k ≤ l.length ∧ i = .int .i64 k) (fun i => l.length - (intOf i).toNat)
  case atStart => exact ⟨0, Nat.zero_le _, rfl⟩
  case round =>
    obtain ⟨k, hk, rfl⟩ := hrel
    by_cases hlt : k < l.length
    · obtain ⟨_, h1, h2, h3⟩ := HM.out.2 k hlt
      obtain ⟨ad, rfl, hc⟩ := HS.out.str hlt
      by_cases h0 : 0 < k
      · obtain ⟨ad', e, hc'⟩ := HS.out.str (k := k - 1) (by omega)
        cases e
        have h3' := h3 h0
        have hne := not_empty_of h1
        clear h3
        generalize l[k] = s at hc h1 h2 h3' hne
        generalize l[k - 1] = p at hc' h3'
        have hsb : s.toList.isEmpty = false := by simpa using hne
        go_wp2
        go_round
        case rel => exact ⟨k + 1, by omega, by go_num⟩
        case measure => simp [intOf]; omega
      · have hne := not_empty_of h1
        clear h3
        generalize l[k] = s at hc h1 h2 hne
        have hsb : s.toList.isEmpty = false := by simpa using hne
        go_wp2
        go_round
        case rel => exact ⟨k + 1, by omega, by go_num⟩
        case measure => simp [intOf]; omega
    · go_wp2_with fail
      refine hcl.out.mono ?_
      rintro e w1 ⟨lv, rfl, hrow, hb1⟩
      obtain ⟨A1, c1, rfl⟩ := own_form hrow
      have hd := new_dic w1 w A1 c1 l HM.out hrow
      have HD := Lib.hid hd
      have hs1 := hb1.size
      clear hd hrow
      go_wp2
      go_ret2
      exact ⟨w1.heap.size, rfl, hs1, HD.out, hb1.alloc hs1 _⟩

set_option maxHeartbeats 2000000 in
set_option maxRecDepth 100000 in
theorem new_no (A : Option Addr) (c : Nat) (l : List ByteArray) (w : World) (h : Seg w A l.length (sts l)) (hm : ¬ May l) :
    Calls Try.prog 12 #[.slice A l.length c] w fun e w' => e = .returned (.tuple #[.pointer none, .int .i64 1]) ∧ w = w' := by
  by_cases hlen : 300 < l.length
  · clear h hm
    go_enter Try.func12, Try.ntmps12
    go_wp2
    go_ret2
    exact ⟨rfl, rfl⟩
  · have HS := Lib.hid h
    have HM : Hid (¬ ∀ i, i < l.length → OkAt l i) := fun h => hm ⟨by omega, h⟩
    clear h hm
    go_enter Try.func12, Try.ntmps12
    go_wp2
    go_loop [11] (fun i => ∃ k : Nat, k ≤ l.length ∧ i = .int .i64 k ∧ Hid (∀ j, j < k → OkAt l j)) (fun i => l.length - (intOf i).toNat)
    case atStart => exact ⟨0, Nat.zero_le _, rfl, fun j hj => by omega⟩
    case round =>
      obtain ⟨k, hk, rfl, HK⟩ := hrel
      by_cases hlt : k < l.length
      · obtain ⟨ad, rfl, hc⟩ := HS.out.str hlt
        by_cases h1 : 1 ≤ l[k].size
        · by_cases h2 : l[k].size ≤ 250
          · by_cases h0 : 0 < k
            · obtain ⟨ad', e, hc'⟩ := HS.out.str (k := k - 1) (by omega)
              cases e
              cases h3 : Op.bytesLess l[k - 1].toList l[k].toList
              · have hne := not_empty_of h1
                generalize l[k] = s at hc h1 h2 h3 hne
                generalize l[k - 1] = p at hc' h3
                have hsb : s.toList.isEmpty = false := by simpa using hne
                go_wp2
                go_ret2
                exact ⟨rfl, rfl⟩
              · have HK2 : Hid (∀ j, j < k + 1 → OkAt l j) := fun j hj => by
                  rcases Nat.lt_or_ge j k with h4 | h4
                  · exact HK.out j h4
                  · obtain rfl : j = k := by omega
                    exact ⟨hlt, h1, h2, fun _ => h3⟩
                have hne := not_empty_of h1
                generalize l[k] = s at hc h1 h2 h3 hne
                generalize l[k - 1] = p at hc' h3
                have hsb : s.toList.isEmpty = false := by simpa using hne
                go_wp2
                go_round
                case rel => exact ⟨k + 1, by omega, by go_num, HK2⟩
                case measure => simp [intOf]; omega
            · have HK2 : Hid (∀ j, j < k + 1 → OkAt l j) := fun j hj => by
                rcases Nat.lt_or_ge j k with h4 | h4
                · exact HK.out j h4
                · obtain rfl : j = k := by omega
                  exact ⟨hlt, h1, h2, fun h => absurd h h0⟩
              have hne := not_empty_of h1
              generalize l[k] = s at hc h1 h2 hne
              have hsb : s.toList.isEmpty = false := by simpa using hne
              go_wp2
              go_round
              case rel => exact ⟨k + 1, by omega, by go_num, HK2⟩
              case measure => simp [intOf]; omega
          · have hne := not_empty_of h1
            generalize l[k] = s at hc h1 h2 hne
            have hsb : s.toList.isEmpty = false := by simpa using hne
            go_wp2
            go_ret2
            exact ⟨rfl, rfl⟩
        · have he := empty_of (s := l[k]) (by omega)
          generalize l[k] = s at hc h1 he
          go_wp2
          go_ret2
          exact ⟨rfl, rfl⟩
      · exact absurd (fun i hi => HK.out i (by omega)) HM.out
end Go.Proofs.Ytjnamiiiceggmaa
