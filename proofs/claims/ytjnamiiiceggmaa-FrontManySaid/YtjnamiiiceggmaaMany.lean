/- The walk of FrontMany. -/
import Derived.Test.YtjnamiiiceggmaaShares
namespace Go.Proofs.Ytjnamiiiceggmaa
open Go.RowKit Go.Lib Fp
attribute [local go_sem ↓] Go.wp_at_zero Go.wp_at_succ

/-- two letters, then zeros -/
def mnT (size i : Nat) : ByteArray := str [UInt8.ofNat (97 + i / 26), UInt8.ofNat (97 + i % 26)] ++ str (List.replicate (size - 2) 0)
def mnL (size n : Nat) : List ByteArray := (List.range n).map (mnT size)
def mnZ (size i : Nat) : List UInt8 := UInt8.ofNat (97 + i / 26) :: UInt8.ofNat (97 + i % 26) :: List.replicate (size - 2) 0
theorem mnT_data (size i : Nat) : (mnT size i).data.toList = mnZ size i := by
  unfold mnT mnZ str
  simp [ByteArray.data_append]
theorem mnZ_len (size i : Nat) (h : 2 ≤ size) : (mnZ size i).length = size := by simp [mnZ]; omega
theorem mn_lt (size i : Nat) (hi : i < 310) : mnZ size i < mnZ size (i + 1) := by
  have hof : ∀ a b : Nat, a < 150 → b < 150 → a < b → UInt8.ofNat a < UInt8.ofNat b := fun a b h1 h2 h3 => by
    rw [UInt8.lt_iff_toNat_lt, UInt8.toNat_ofNat', UInt8.toNat_ofNat']; omega
  unfold mnZ
  by_cases h : i % 26 = 25
  · rw [List.cons_lt_cons_iff]
    exact .inl (hof _ _ (by omega) (by omega) (by omega))
  · rw [show (i + 1) / 26 = i / 26 by omega, show (i + 1) % 26 = i % 26 + 1 by omega, List.cons_lt_cons_iff]
    refine .inr ⟨rfl, ?_⟩
    rw [List.cons_lt_cons_iff]
    exact .inl (hof _ _ (by omega) (by omega) (by omega))
theorem mn_size (size i : Nat) (h : 2 ≤ size) : (mnT size i).size = size := by
  have := congrArg List.length (mnT_data size i)
  rw [Array.length_toList, mnZ_len size i h] at this
  exact this
theorem mnL_len (size n : Nat) : (mnL size n).length = n := by simp [mnL]
theorem mnL_get (size n i : Nat) (h : i < (mnL size n).length) : (mnL size n)[i] = mnT size i := by simp [mnL]
theorem mn_may (size n : Nat) (hs : 2 ≤ size) : May (mnL size n) ↔ (n ≤ 300 ∧ (n = 0 ∨ size ≤ 250)) := by
  constructor
  · intro ⟨h1, h2⟩
    rw [mnL_len] at h1
    refine ⟨h1, ?_⟩
    rcases Nat.eq_zero_or_pos n with h | h
    · exact .inl h
    · obtain ⟨_, _, h3, _⟩ := h2 0 (by rw [mnL_len]; exact h)
      rw [mnL_get, mn_size _ _ hs] at h3
      exact .inr h3
  · intro ⟨h1, h2⟩
    refine ⟨by rw [mnL_len]; exact h1, fun i hi => ⟨hi, ?_, ?_, fun h0 => ?_⟩⟩
    · rw [mnL_get, mn_size _ _ hs]; omega
    · rw [mnL_get, mn_size _ _ hs]
      rw [mnL_len] at hi; omega
    · rw [mnL_len] at hi
      rw [mnL_get, mnL_get, bytesLess_eq, Lib.toList_data, Lib.toList_data, mnT_data, mnT_data]
      have := mn_lt size (i - 1) (by omega)
      rw [show i - 1 + 1 = i by omega] at this
      simpa using this
def zzz : ByteArray := ⟨#[122, 122, 122]⟩
theorem mn_zzz (size n : Nat) (hn : n ≤ 310) : loc (tx (mnL size n)) zzz.data.toList = 0 := by
  refine loc_none fun i hi e => ?_
  rw [tx_len, mnL_len] at hi
  rw [tx_get _ i (by rw [mnL_len]; exact hi), mnL_get, mnT_data] at e
  unfold mnZ zzz at e
  have h1 : UInt8.ofNat (97 + i / 26) = 122 := by
    have := congrArg List.head? e
    simpa using this
  have h2 := congrArg UInt8.toNat h1
  rw [UInt8.toNat_ofNat'] at h2
  have h3 : (122 : UInt8).toNat = 122 := rfl
  omega
theorem conv_two (W : World) (b p q : Nat) (hp : p ≤ 100) (hq : q ≤ 100) (h : W.heap[b]? = some (.cells #[.int .u8 (97 + (p : Int)), .int .u8 (97 + (q : Int))] 5 (0, 0))) :
    (convert 23 9 (.slice (some ⟨b, 0, none⟩) 2 2)).run Try.prog W = .ok (.string (str [UInt8.ofNat (97 + p), UInt8.ofNat (97 + q)])) W := by
  refine conv_seg W _ 2 2 _ ⟨rfl, fun _ => ⟨_, rfl, fun j u hu => ?_⟩⟩
  have e1 : (((UInt8.ofNat (97 + p)).toNat : Nat) : Int) = 97 + (p : Int) := by rw [UInt8.toNat_ofNat']; omega
  have e2 : (((UInt8.ofNat (97 + q)).toNat : Nat) : Int) = 97 + (q : Int) := by rw [UInt8.toNat_ofNat']; omega
  have hj : j < 2 := by have := (List.getElem?_eq_some_iff.1 hu).1; simpa [bys] using this
  rw [add_zero', cell_of_row W b j _ 5 (0, 0) h, ← hu]
  match j, hj with
  | 0, _ => show some (Value.int .u8 (97 + (p : Int))) = some (Value.int .u8 (((UInt8.ofNat (97 + p)).toNat : Nat) : Int)); rw [e1]
  | 1, _ => show some (Value.int .u8 (97 + (q : Int))) = some (Value.int .u8 (((UInt8.ofNat (97 + q)).toNat : Nat) : Int)); rw [e2]

set_option maxHeartbeats 4000000 in
set_option maxRecDepth 100000 in
theorem many_in (n size : Nat) (w : World) (hn2 : n ≤ 310) (hs1 : 2 ≤ size) (hs2 : size ≤ 255) :
    Calls Try.prog 4 #[.int .i64 n, .int .i64 size] w fun e w' => e = .returned (.bool true) ∧ Below w.heap.size w w' := by
  obtain ⟨i0, hi, hz0, hz1, hz2⟩ := info_parts info9
  have hmk : ∀ W : World, (Instr.makeSlice 23 (.int .i64 ((size : Int) - 2)) (.int .i64 ((size : Int) - 2))).run Try.prog W = .ok (.slice (some ⟨W.heap.size, 0, none⟩) (size - 2) (size - 2)) (W.alloc (.cells (madeCells #[.int .u8 0] (size - 2)) 5)) := by
    intro W
    have := run_make_row' (P := Try.prog) 23 5 (.int .u8 0) 1 Try.underlying23 info5 rfl .i64 .i64 (size - 2) (by omega) (by omega) W
    rwa [show ((size - 2 : Nat) : Int) = (size : Int) - 2 by omega] at this
  go_enter Try.func4, Try.ntmps4
  go_wp2_with fail
  go_loopw [5, 6] (fun v i wr => ∃ k : Nat, k ≤ n ∧ i = .int .i64 k ∧ wr.ownsRow w.heap.size 9 1 v k (sts (mnL size k)) ∧ Below w.heap.size w wr) (fun _ i _ => n - (intOf i).toNat)
  case atStart => exact ⟨0, Nat.zero_le _, rfl, World.ownsRow_nil _ _ _ _, Below.refl _ _⟩
  case round =>
    obtain ⟨k, hk, rfl, hown, hB⟩ := hrel
    by_cases hlt : k < n
    · obtain ⟨p, hp⟩ : ∃ p, p = k / 26 := ⟨_, rfl⟩
      obtain ⟨q, hq⟩ : ∃ q, q = k % 26 := ⟨_, rfl⟩
      have hp1 : p ≤ 20 := by omega
      have hq1 : q ≤ 25 := by omega
      have e1 : (k : Int) / 26 = (p : Int) := by omega
      have e2 : (k : Int) % 26 = (q : Int) := by omega
      have e3 : (k : Int).tmod 26 = (q : Int) := by rw [Int.tmod_eq_emod_of_nonneg (by omega)]; exact e2
      have hT : Hid (mnT size k = str [UInt8.ofNat (97 + p), UInt8.ofNat (97 + q)] ++ str (List.replicate (size - 2) 0)) := by show mnT size k = _; rw [hp, hq]; rfl
      have HNEXT : Hid (sts (mnL size (k + 1)) = sts (mnL size k) ++ [.string (str [UInt8.ofNat (97 + p), UInt8.ofNat (97 + q)] ++ str (List.replicate (size - 2) 0))]) := by
        show sts (mnL size (k + 1)) = _
        rw [← hT.out]
        unfold mnL sts
        rw [List.range_succ, List.map_append, List.map_append]; rfl
      clear hp hq hT
      have w0 : IntKind.i64.wrap (p : Int) = (p : Int) := by rw [IntKind.wrap_i64]; omega
      have w1 : IntKind.i64.wrap (97 + (p : Int)) = 97 + (p : Int) := by rw [IntKind.wrap_i64]; omega
      have w2 : IntKind.u8.wrap (97 + (p : Int)) = 97 + (p : Int) := by rw [IntKind.wrap_u8]; omega
      have w3 : IntKind.i64.wrap (97 + (q : Int)) = 97 + (q : Int) := by rw [IntKind.wrap_i64]; omega
      have w4 : IntKind.u8.wrap (97 + (q : Int)) = 97 + (q : Int) := by rw [IntKind.wrap_u8]; omega
      have w5 : IntKind.i64.wrap ((size : Int) - 2) = (size : Int) - 2 := by rw [IntKind.wrap_i64]; omega
      have c1 := conv_zeros ((wr.alloc (.cells (madeCells #[.int .u8 0] (size - 2)) 5)).drew) wr.heap.size (size - 2) (heap_alloc_new wr _)
      have c2 := conv_zeros (((wr.alloc (.cells (madeCells #[.int .u8 0] (size - 2)) 5)).alloc (.cells #[.int .u8 (97 + (p : Int)), .int .u8 (97 + (q : Int))] 5)).drew) wr.heap.size (size - 2) ((Below.heap_alloc _ _ _ (by simp)).trans (heap_alloc_new wr _))
      have c3 := conv_zeros (((wr.alloc (.cells #[.int .u8 (97 + (p : Int)), .int .u8 (97 + (q : Int))] 5)).alloc (.cells (madeCells #[.int .u8 0] (size - 2)) 5)).drew) (wr.heap.size + 1) (size - 2) (heap_new1 wr _ _)
      have d1 := conv_two ((wr.alloc (.cells #[.int .u8 (97 + (p : Int)), .int .u8 (97 + (q : Int))] 5)).drew) wr.heap.size p q (by omega) (by omega) (heap_alloc_new wr _)
      have d2 := conv_two (((wr.alloc (.cells #[.int .u8 (97 + (p : Int)), .int .u8 (97 + (q : Int))] 5)).alloc (.cells (madeCells #[.int .u8 0] (size - 2)) 5)).drew) wr.heap.size p q (by omega) (by omega) ((Below.heap_alloc _ _ _ (by simp)).trans (heap_alloc_new wr _))
      have d3 := conv_two (((wr.alloc (.cells (madeCells #[.int .u8 0] (size - 2)) 5)).alloc (.cells #[.int .u8 (97 + (p : Int)), .int .u8 (97 + (q : Int))] 5)).drew) (wr.heap.size + 1) p q (by omega) (by omega) (heap_new1 wr _ _)
      have hz : (str (List.replicate (size - 2) 0)).size ≤ 300 := by rw [str_size, List.length_replicate]; omega
      have hl : (str [UInt8.ofNat (97 + p), UInt8.ofNat (97 + q)]).size ≤ 300 := by rw [str_size]; simp
      have HOWN := Lib.hid hown
      clear hown
      generalize str (List.replicate (size - 2) 0) = zs at c1 c2 c3 hz HNEXT
      generalize str [UInt8.ofNat (97 + p), UInt8.ofNat (97 + q)] = ls at d1 d2 d3 hl HNEXT
      have hcat : (9223372036854775807 < ls.size + zs.size) = False := eq_false (by omega)
      go_wp2_with fail
      go_region_law (first | ((refine step_append_lies _ (by rfl) _ _ _ (by rfl) w.heap.size 9 i0 _ 1 16 Try.underlying22 hi hz0 hz1 hz2 rfl (by omega) _ k (sts (mnL size k)) (by rfl) ((((HOWN.out.alloc _).alloc _).alloc _).drew) ⟨wr.heap.size + 1 + 1, 0, none⟩ 1 1 [.string (ls ++ zs)] (by rfl) (by rfl) (World.news_of_block (cs := #[.string (ls ++ zs)]) (t := 9) (fr := (0, 0)) (heap_new2 wr _ _ _)) (by simp [Value.oneCell']) (by omega) (by unfold maxLen; omega) (by omega) (by have := hB.size; simp; omega) (wr.heap.size + 3) (by simp) ?_; intro gg cap w1 hown1 hgrow hat hlt1)) | fail)
      all_goals
        have hb1 : Below w.heap.size w w1 := ((((hB.alloc hB.size _).alloc (by have := hB.size; simp; omega) _).alloc (by have := hB.size; simp; omega) _).drew).grown hgrow (by have := hB.size; simp; omega) (fun j hj => (HOWN.out.lt j hj).1)
        have hown2 : w1.ownsRow w.heap.size 9 1 (.slice (some ⟨gg, 0, none⟩) (k + 1) cap) (k + 1) (sts (mnL size (k + 1))) := by rw [HNEXT.out]; exact hown1
        clear hown1 hgrow hat hlt1 c1 c2 c3 d1 d2 d3
        go_wp2_with fail
        go_roundw
        case rel => exact ⟨k + 1, by omega, by go_num, hown2, hb1⟩
        case measure => simp [intOf]; omega
    · obtain rfl : k = n := by omega
      obtain ⟨A, c, rfl⟩ := own_form hown
      have hl := mnL_len size k
      have hseg := Seg.of_own hown
      clear hown
      by_cases hm : May (mnL size k)
      · have hmm := (mn_may size k hs1).1 hm
        have hnew := new_yes A c (mnL size k) wr (by rw [hl]; exact hseg) hm
        rw [hl] at hnew
        have HN := Lib.hid hnew
        have HL := Lib.hid hl
        have hz := mn_zzz size k hn2
        have HZ := Lib.hid hz
        have b1 : decide ((k : Int) ≤ 300) = true := decide_eq_true (by omega)
        clear hnew hl hseg hm hz
        by_cases hk0 : k = 0
        · have b2 : ((k : Int) == 0) = true := beq_iff_eq.2 (by omega)
          clear hk0 hmm
          go_wp2_with fail
          refine HN.out.mono ?_
          rintro e w2 ⟨g, rfl, _, hd2, hb2⟩
          have hL := len_calls g _ _ hd2
          rw [HL.out] at hL
          have hLo := locate_calls g _ zzz _ hd2
          rw [HZ.out] at hLo
          go_wp2_with fail
          refine hL.mono ?_
          rintro e w3 ⟨rfl, rfl⟩
          go_wp2_with fail
          refine hLo.mono ?_
          rintro e w3 ⟨rfl, qn, rfl⟩
          go_wp2_with fail
          refine (known_calls _).mono ?_
          rintro e w4 ⟨rfl, hb4⟩
          go_wp2_with fail
          go_ret
          exact ⟨rfl, thn (below_drewN' (thn hB hb2) qn) hb4⟩
        · have b2 : ((k : Int) == 0) = false := beq_eq_false_iff_ne.2 (by omega)
          have b3 : decide ((size : Int) ≤ 250) = true := decide_eq_true (by omega)
          clear hk0 hmm
          go_wp2_with fail
          refine HN.out.mono ?_
          rintro e w2 ⟨g, rfl, _, hd2, hb2⟩
          have hL := len_calls g _ _ hd2
          rw [HL.out] at hL
          have hLo := locate_calls g _ zzz _ hd2
          rw [HZ.out] at hLo
          go_wp2_with fail
          refine hL.mono ?_
          rintro e w3 ⟨rfl, rfl⟩
          go_wp2_with fail
          refine hLo.mono ?_
          rintro e w3 ⟨rfl, qn, rfl⟩
          go_wp2_with fail
          refine (known_calls _).mono ?_
          rintro e w4 ⟨rfl, hb4⟩
          go_wp2_with fail
          go_ret
          exact ⟨rfl, thn (below_drewN' (thn hB hb2) qn) hb4⟩
      · have hmm : ¬ (k ≤ 300 ∧ (k = 0 ∨ size ≤ 250)) := fun h => hm ((mn_may size k hs1).2 h)
        have hnew := new_no A c (mnL size k) wr (by rw [hl]; exact hseg) hm
        rw [hl] at hnew
        have HN := Lib.hid hnew
        clear hnew hl hseg hm
        by_cases hk : k ≤ 300
        · have b1 : decide ((k : Int) ≤ 300) = true := decide_eq_true (by omega)
          have b2 : ((k : Int) == 0) = false := beq_eq_false_iff_ne.2 (by omega)
          have b3 : decide ((size : Int) ≤ 250) = false := decide_eq_false (by omega)
          clear hmm
          go_wp2_with fail
          refine HN.out.mono ?_
          rintro e w2 ⟨rfl, rfl⟩
          go_wp2_with fail
          refine (known_calls _).mono ?_
          rintro e w4 ⟨rfl, hb4⟩
          go_wp2_with fail
          go_ret
          exact ⟨rfl, thn hB hb4⟩
        · have b1 : decide ((k : Int) ≤ 300) = false := decide_eq_false (by omega)
          clear hmm
          go_wp2_with fail
          refine HN.out.mono ?_
          rintro e w2 ⟨rfl, rfl⟩
          go_wp2_with fail
          refine (known_calls _).mono ?_
          rintro e w4 ⟨rfl, hb4⟩
          go_wp2_with fail
          go_ret
          exact ⟨rfl, thn hB hb4⟩

set_option maxHeartbeats 1000000 in
theorem many_walk (n size : Int) (w : World) (_ : (Lit.int .i64 n).wf = true) (_ : (Lit.int .i64 size).wf = true) :
    Calls Try.prog 4 #[.int .i64 n, .int .i64 size] w fun e w' => e = .returned (.bool true) ∧ Below w.heap.size w w' := by
  by_cases h1 : n < 0
  · go_enter Try.func4, Try.ntmps4
    go_wp2_with fail
    go_ret
    exact ⟨rfl, Below.refl _ _⟩
  · by_cases h2 : 310 < n
    · go_enter Try.func4, Try.ntmps4
      go_wp2_with fail
      go_ret
      exact ⟨rfl, Below.refl _ _⟩
    · by_cases h3 : size < 2
      · go_enter Try.func4, Try.ntmps4
        go_wp2_with fail
        go_ret
        exact ⟨rfl, Below.refl _ _⟩
      · by_cases h4 : 255 < size
        · go_enter Try.func4, Try.ntmps4
          go_wp2_with fail
          go_ret
          exact ⟨rfl, Below.refl _ _⟩
        · have h := many_in n.toNat size.toNat w (by omega) (by omega) (by omega)
          rwa [Int.toNat_of_nonneg (by omega), Int.toNat_of_nonneg (by omega)] at h
end Go.Proofs.Ytjnamiiiceggmaa
