/- The walk of FrontShares. -/
import Derived.Test.YtjnamiiiceggmaaKnown
import Derived.Deep.OwnRows
import Derived.Deep.RegionLaw
import Derived.Deep.AppendLies
import Derived.Deep.DrawnRows
namespace Go.Proofs.Ytjnamiiiceggmaa
open Go.RowKit Go.Lib Fp
attribute [local go_sem ↓] Go.wp_at_zero Go.wp_at_succ

/-- size zeros, then a letter -/
def shT (size i : Nat) : ByteArray := str (List.replicate size 0) ++ str [UInt8.ofNat (97 + i)]
def shL (size n : Nat) : List ByteArray := (List.range n).map (shT size)
def shZ (size i : Nat) : List UInt8 := List.replicate size 0 ++ [UInt8.ofNat (97 + i)]
theorem shT_data (size i : Nat) : (shT size i).data.toList = shZ size i := by
  unfold shT shZ str
  simp [ByteArray.data_append]
theorem shZ_len (size i : Nat) : (shZ size i).length = size + 1 := by simp [shZ]
theorem let_ne {i j : Nat} (hi : i < 100) (hj : j < 100) (h : i ≠ j) : UInt8.ofNat (97 + i) ≠ UInt8.ofNat (97 + j) := by
  intro e
  have := congrArg UInt8.toNat e
  rw [UInt8.toNat_ofNat', UInt8.toNat_ofNat'] at this
  omega
theorem shZ_shr (size i j : Nat) (hi : i < 100) (hj : j < 100) (h : i ≠ j) : shr (shZ size i) (shZ size j) = size := by
  refine shr_stop _ _ size (by rw [shZ_len]; omega) (by rw [shZ_len]; omega) ?_ (.inr (.inr ⟨by rw [shZ_len]; omega, by rw [shZ_len]; omega, ?_⟩))
  · unfold shZ
    rw [List.take_append_of_le_length (by simp), List.take_append_of_le_length (by simp)]
  · unfold shZ
    simp only [List.getElem_append_right (show (List.replicate size (0 : UInt8)).length ≤ size by simp)]
    simpa using let_ne hi hj h
def shF (size k : Nat) : Nat := 3 * k + ((k + 3) / 4) * size
theorem shF_succ (size k : Nat) : shF size (k + 1) = shF size k + 3 + (if k % 4 = 0 then size else 0) := by
  unfold shF
  split
  · rw [show (k + 1 + 3) / 4 = (k + 3) / 4 + 1 by omega, Nat.add_mul]; omega
  · rw [show (k + 1 + 3) / 4 = (k + 3) / 4 by omega]; omega
theorem sh_encF (size : Nat) : ∀ (m k : Nat) (p : List UInt8), k + m ≤ 100 → (k % 4 ≠ 0 → p = shZ size (k - 1)) → (encF k p ((List.range' k m).map (shZ size))).length + shF size k = shF size (k + m)
  | 0, k, p, _, _ => by simp [encF]
  | m + 1, k, p, hk, hp => by
    rw [List.range'_succ, List.map_cons]
    show (ent k p (shZ size k) ++ encF (k + 1) (shZ size k) ((List.range' (k + 1) m).map (shZ size))).length + shF size k = _
    have ih := sh_encF size m (k + 1) (shZ size k) (by omega) (fun _ => rfl)
    rw [shF_succ] at ih
    rw [List.length_append, ent_len, shZ_len, show k + (m + 1) = k + 1 + m by omega, ← ih]
    have hc : com k p (shZ size k) = if k % 4 = 0 then 0 else size := by
      unfold com
      split
      · rfl
      · rename_i h
        rw [hp h, shZ_shr size (k - 1) k (by omega) (by omega) (by omega)]
    rw [hc]
    split <;> omega
theorem sh_enc (size n : Nat) (hn : n ≤ 100) : (enc (tx (shL size n))).length = 2 + shF size n := by
  have e : tx (shL size n) = (List.range' 0 n).map (shZ size) := by
    unfold tx shL
    rw [List.map_map, List.range_eq_range']
    apply List.map_congr_left
    intro i _
    exact shT_data size i
  unfold enc
  rw [e]
  have := sh_encF size n 0 [] (by omega) (fun h => absurd rfl h)
  simp only [List.length_cons]
  have h0 : shF size 0 = 0 := by simp [shF]
  rw [h0] at this
  simp at this ⊢
  omega
theorem sh_sum (size k : Nat) (hk : k ≤ 26) (hs : size ≤ 200) : ∃ Q : Nat, ((k : Int) + 3) / 4 * (size : Int) = (Q : Int) ∧ Q ≤ 1400 ∧ 2 + shF size k = 2 + (3 * k + Q) := by
  refine ⟨(k + 3) / 4 * size, ?_, Nat.mul_le_mul (show (k + 3) / 4 ≤ 7 by omega) hs, rfl⟩
  rw [Int.natCast_mul]; rfl
theorem sh_lt (size i : Nat) (hi : i + 1 < 100) : shZ size i < shZ size (i + 1) := by
  unfold shZ
  induction size with
  | zero =>
    simp only [List.replicate_zero, List.nil_append]
    rw [List.cons_lt_cons_iff]
    left
    rw [UInt8.lt_iff_toNat_lt, UInt8.toNat_ofNat', UInt8.toNat_ofNat']
    omega
  | succ n ih =>
    simp only [List.replicate_succ, List.cons_append]
    rw [List.cons_lt_cons_iff]
    exact .inr ⟨rfl, ih⟩
theorem sh_size (size i : Nat) : (shT size i).size = size + 1 := by
  have := congrArg List.length (shT_data size i)
  rw [Array.length_toList, shZ_len] at this
  exact this
theorem sh_may (size n : Nat) (hn : n ≤ 26) (hs : size ≤ 200) : May (shL size n) := by
  have hl : (shL size n).length = n := by simp [shL]
  refine ⟨by omega, fun i hi => ⟨hi, ?_, ?_, fun h0 => ?_⟩⟩
  · have : (shL size n)[i] = shT size i := by simp [shL]
    rw [this, sh_size]; omega
  · have : (shL size n)[i] = shT size i := by simp [shL]
    rw [this, sh_size]; omega
  · have e1 : (shL size n)[i] = shT size i := by simp [shL]
    have e2 : (shL size n)[i - 1]'(by omega) = shT size (i - 1) := by simp [shL]
    rw [e1, e2, bytesLess_eq, Lib.toList_data, Lib.toList_data, shT_data, shT_data]
    have := sh_lt size (i - 1) (by omega)
    rw [show i - 1 + 1 = i by omega] at this
    simpa using this
theorem heap_new1 (w : World) (A B : Obj) : ((w.alloc A).alloc B).heap[w.heap.size + 1]? = some B := by
  have := heap_alloc_new (w.alloc A) B
  rwa [World.size_alloc] at this
theorem heap_new2 (w : World) (A B C : Obj) : (((w.alloc A).alloc B).alloc C).heap[w.heap.size + 1 + 1]? = some C := by
  have := heap_alloc_new ((w.alloc A).alloc B) C
  rwa [World.size_alloc, World.size_alloc] at this
theorem str_size (l : List UInt8) : (str l).size = l.length := rfl
theorem conv_zeros (W : World) (b size : Nat) (h : W.heap[b]? = some (.cells (madeCells #[.int .u8 0] size) 5 (0, 0))) :
    (convert 23 9 (.slice (some ⟨b, 0, none⟩) size size)).run Try.prog W = .ok (.string (str (List.replicate size 0))) W := by
  refine conv_seg W _ size size _ ⟨by simp [bys], fun _ => ⟨_, rfl, fun j u hu => ?_⟩⟩
  have hj : j < size := by have := (List.getElem?_eq_some_iff.1 hu).1; simpa [bys] using this
  rw [add_zero', cell_of_row W b j _ 5 (0, 0) h, ← hu]
  simp [bys, madeCells, hj, Nat.mod_one]
theorem conv_one (W : World) (b k : Nat) (hk : k ≤ 100) (h : W.heap[b]? = some (.cells #[.int .u8 (97 + (k : Int))] 5 (0, 0))) :
    (convert 23 9 (.slice (some ⟨b, 0, none⟩) 1 1)).run Try.prog W = .ok (.string (str [UInt8.ofNat (97 + k)])) W := by
  refine conv_seg W _ 1 1 _ ⟨rfl, fun _ => ⟨_, rfl, fun j u hu => ?_⟩⟩
  have hj : j < 1 := by have := (List.getElem?_eq_some_iff.1 hu).1; simpa [bys] using this
  obtain rfl : j = 0 := by omega
  rw [add_zero', cell_of_row W b 0 _ 5 (0, 0) h, ← hu]
  have e : (((UInt8.ofNat (97 + k)).toNat : Nat) : Int) = 97 + (k : Int) := by rw [UInt8.toNat_ofNat']; omega
  show some (Value.int .u8 (97 + (k : Int))) = some (Value.int .u8 (((UInt8.ofNat (97 + k)).toNat : Nat) : Int))
  rw [e]

set_option maxHeartbeats 4000000 in
set_option maxRecDepth 100000 in
theorem shares_in (n size : Nat) (w : World) (hn1 : 1 ≤ n) (hn2 : n ≤ 26) (hs1 : 1 ≤ size) (hs2 : size ≤ 200) :
    Calls Try.prog 3 #[.int .i64 n, .int .i64 size] w fun e w' => e = .returned (.bool true) ∧ Below w.heap.size w w' := by
  obtain ⟨i0, hi, hz0, hz1, hz2⟩ := info_parts info9
  have hmk : ∀ W : World, (Instr.makeSlice 23 (.int .i64 (size : Int)) (.int .i64 (size : Int))).run Try.prog W = .ok (.slice (some ⟨W.heap.size, 0, none⟩) size size) (W.alloc (.cells (madeCells #[.int .u8 0] size) 5)) :=
    fun W => run_make_row' (P := Try.prog) 23 5 (.int .u8 0) 1 Try.underlying23 info5 rfl .i64 .i64 size (by omega) (by omega) W
  go_enter Try.func3, Try.ntmps3
  go_wp2_with fail
  go_loopw [5, 6] (fun v i wr => ∃ k : Nat, k ≤ n ∧ i = .int .i64 k ∧ wr.ownsRow w.heap.size 9 1 v k (sts (shL size k)) ∧ Below w.heap.size w wr) (fun _ i _ => n - (intOf i).toNat)
  case atStart => exact ⟨0, Nat.zero_le _, rfl, World.ownsRow_nil _ _ _ _, Below.refl _ _⟩
  case round =>
    obtain ⟨k, hk, rfl, hown, hB⟩ := hrel
    by_cases hlt : k < n
    · have h97 : IntKind.i64.wrap (97 + (k : Int)) = 97 + (k : Int) := by rw [IntKind.wrap_i64]; omega
      have h98 : IntKind.u8.wrap (97 + (k : Int)) = 97 + (k : Int) := by rw [IntKind.wrap_u8]; omega
      have c1 := conv_zeros ((wr.alloc (.cells (madeCells #[.int .u8 0] size) 5)).drew) wr.heap.size size (heap_alloc_new wr _)
      have c2 := conv_zeros (((wr.alloc (.cells (madeCells #[.int .u8 0] size) 5)).alloc (.cells #[.int .u8 (97 + (k : Int))] 5)).drew) wr.heap.size size ((Below.heap_alloc _ _ _ (by simp)).trans (heap_alloc_new wr _))
      have c3 := conv_zeros (((wr.alloc (.cells #[.int .u8 (97 + (k : Int))] 5)).alloc (.cells (madeCells #[.int .u8 0] size) 5)).drew) (wr.heap.size + 1) size (heap_new1 wr _ _)
      have d1 := conv_one ((wr.alloc (.cells #[.int .u8 (97 + (k : Int))] 5)).drew) wr.heap.size k (by omega) (heap_alloc_new wr _)
      have d2 := conv_one (((wr.alloc (.cells #[.int .u8 (97 + (k : Int))] 5)).alloc (.cells (madeCells #[.int .u8 0] size) 5)).drew) wr.heap.size k (by omega) ((Below.heap_alloc _ _ _ (by simp)).trans (heap_alloc_new wr _))
      have d3 := conv_one (((wr.alloc (.cells (madeCells #[.int .u8 0] size) 5)).alloc (.cells #[.int .u8 (97 + (k : Int))] 5)).drew) (wr.heap.size + 1) k (by omega) (heap_new1 wr _ _)
      have hz : (str (List.replicate size 0)).size ≤ 300 := by rw [str_size, List.length_replicate]; omega
      have hl : (str [UInt8.ofNat (97 + k)]).size ≤ 300 := by rw [str_size]; simp
      have HNEXT : Hid (sts (shL size (k + 1)) = sts (shL size k) ++ [.string (str (List.replicate size 0) ++ str [UInt8.ofNat (97 + k)])]) := by
        show sts (shL size (k + 1)) = _
        unfold shL sts
        rw [List.range_succ, List.map_append, List.map_append]; rfl
      have HOWN := Lib.hid hown
      clear hown
      generalize str (List.replicate size 0) = zs at c1 c2 c3 hz HNEXT
      generalize str [UInt8.ofNat (97 + k)] = ls at d1 d2 d3 hl HNEXT
      have hcat : (9223372036854775807 < zs.size + ls.size) = False := eq_false (by omega)
      go_wp2_with fail
      go_region_law (first | ((refine step_append_lies _ (by rfl) _ _ _ (by rfl) w.heap.size 9 i0 _ 1 16 Try.underlying22 hi hz0 hz1 hz2 rfl (by omega) _ k (sts (shL size k)) (by rfl) ((((HOWN.out.alloc _).alloc _).alloc _).drew) ⟨wr.heap.size + 1 + 1, 0, none⟩ 1 1 [.string (zs ++ ls)] (by rfl) (by rfl) (World.news_of_block (cs := #[.string (zs ++ ls)]) (t := 9) (fr := (0, 0)) (heap_new2 wr _ _ _)) (by simp [Value.oneCell']) (by omega) (by unfold maxLen; omega) (by omega) (by have := hB.size; simp; omega) (wr.heap.size + 3) (by simp) ?_; intro gg cap w1 hown1 hgrow hat hlt1)) | fail)
      all_goals
        have hb1 : Below w.heap.size w w1 := ((((hB.alloc hB.size _).alloc (by have := hB.size; simp; omega) _).alloc (by have := hB.size; simp; omega) _).drew).grown hgrow (by have := hB.size; simp; omega) (fun j hj => (HOWN.out.lt j hj).1)
        have hown2 : w1.ownsRow w.heap.size 9 1 (.slice (some ⟨gg, 0, none⟩) (k + 1) cap) (k + 1) (sts (shL size (k + 1))) := by rw [HNEXT.out]; exact hown1
        clear hown1 hgrow hat hlt1 c1 c2 c3 d1 d2 d3
        go_wp2_with fail
        go_roundw
        case rel => exact ⟨k + 1, by omega, by go_num, hown2, hb1⟩
        case measure => simp [intOf]; omega
    · obtain rfl : k = n := by omega
      obtain ⟨A, c, rfl⟩ := own_form hown
      have hl : (shL size k).length = k := by simp [shL]
      have hnew := new_yes A c (shL size k) wr (by rw [hl]; exact Seg.of_own hown) (sh_may size k hn2 hs2)
      rw [hl] at hnew
      have HN := Lib.hid hnew
      obtain ⟨Q, hQ, hQ2, hF⟩ := sh_sum size k hn2 hs2
      have HLEN := Lib.hid ((sh_enc size k (by omega)).trans hF)
      clear hF
      clear hnew hown hl
      go_wp2_with fail
      refine HN.out.mono ?_
      rintro e w2 ⟨g, rfl, _, hd2, hb2⟩
      go_wp2_with fail
      refine (bytes_calls g _ _ hd2).mono ?_
      rintro e w3 ⟨v, rfl, hown3, hb3⟩
      rw [HLEN.out] at hown3
      obtain ⟨A3, c3, rfl⟩ := own_form hown3
      clear hown3
      go_wp2_with fail
      refine (known_calls _).mono ?_
      rintro e w4 ⟨rfl, hb4⟩
      go_wp2_with fail
      go_ret
      exact ⟨rfl, thn (thn (thn hB hb2) hb3) hb4⟩

set_option maxHeartbeats 1000000 in
theorem shares_walk (n size : Int) (w : World) (_ : (Lit.int .i64 n).wf = true) (_ : (Lit.int .i64 size).wf = true) :
    Calls Try.prog 3 #[.int .i64 n, .int .i64 size] w fun e w' => e = .returned (.bool true) ∧ Below w.heap.size w w' := by
  by_cases h1 : n < 1
  · go_enter Try.func3, Try.ntmps3
    go_wp2_with fail
    go_ret
    exact ⟨rfl, Below.refl _ _⟩
  · by_cases h2 : 26 < n
    · go_enter Try.func3, Try.ntmps3
      go_wp2_with fail
      go_ret
      exact ⟨rfl, Below.refl _ _⟩
    · by_cases h3 : size < 1
      · go_enter Try.func3, Try.ntmps3
        go_wp2_with fail
        go_ret
        exact ⟨rfl, Below.refl _ _⟩
      · by_cases h4 : 200 < size
        · go_enter Try.func3, Try.ntmps3
          go_wp2_with fail
          go_ret
          exact ⟨rfl, Below.refl _ _⟩
        · have h := shares_in n.toNat size.toNat w (by omega) (by omega) (by omega) (by omega)
          rwa [Int.toNat_of_nonneg (by omega), Int.toNat_of_nonneg (by omega)] at h
end Go.Proofs.Ytjnamiiiceggmaa
