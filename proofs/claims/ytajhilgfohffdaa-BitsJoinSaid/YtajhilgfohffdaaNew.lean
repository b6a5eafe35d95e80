/- bits.New makes a Vec of the bits, for up to 4096 bits. -/
import Derived.Test.YtajhilgfohffdaaVec
namespace Go.Proofs.Ytajhilgfohffdaa
open Go.RowKit Go.Lib Bp

theorem new_start (w w1 : World) (A1 : Option Addr) (c1 : Nat) (l : List Bool) (hrow : w1.ownsRow w.heap.size 4 1 (.slice A1 l.length c1) l.length (bls l)) (hb : Below w.heap.size w w1) :
    NewSt w ((w1.alloc (.cells #[.int .i64 0] 3)).alloc (.cells #[.slice A1 l.length c1, .slice (some ⟨w1.heap.size, 0, none⟩) 1 1] 38)) (w1.heap.size + 1) A1 c1 l w1.heap.size 1 0 := by
  refine ⟨by have := hb.size; omega, ?_, ?_, (hrow.alloc _).alloc _, (hb.alloc hb.size _).alloc (by have := hb.size; simp; omega) _⟩
  · have := heap_alloc_new (w1.alloc (.cells #[.int .i64 0] 3)) (.cells #[.slice A1 l.length c1, .slice (some ⟨w1.heap.size, 0, none⟩) 1 1] 38)
    simpa using this
  · refine World.ownsRow.alloc ?_ _
    refine ⟨by simp [rks], .inr ⟨w1.heap.size, 1, #[.int .i64 0], rfl, hb.size, heap_alloc_new w1 _, Nat.le_refl _, by decide, rfl, ?_⟩⟩
    simp [rks, cnt_zero]

set_option maxHeartbeats 2000000 in
set_option maxRecDepth 100000 in
theorem new_st (A : Option Addr) (c : Nat) (l : List Bool) (w : World) (h : Seg w A l.length (bls l)) (hn : l.length ≤ 4096) :
    Calls Try.prog 10 #[.slice A l.length c] w fun e w' => ∃ g A1 c1 r c', e = .returned (.pointer (some ⟨g, 0, none⟩)) ∧ NewSt w w' g A1 c1 l r c' l.length := by
  obtain ⟨i0, hi, hz0, hz1, hz2⟩ := info_parts info3
  have hcl := clone_calls A l.length c (bls l) w h (bls_one l) hn
  have HS := Lib.hid h
  have HC := Lib.hid hcl
  clear h hcl
  go_enter Try.func10, Try.ntmps10
  go_wp2_with fail
  refine HC.out.mono ?_
  rintro e w1 ⟨lv, rfl, hrow, hb1⟩
  obtain ⟨A1, c1, rfl⟩ := own_form hrow
  go_wp2
  have HN := Lib.hid (new_start w w1 A1 c1 l hrow hb1)
  clear hrow hb1 HC
  obtain ⟨W0, hW0⟩ : ∃ W0, W0 = (w1.alloc (.cells #[.int .i64 0] 3)).alloc (.cells #[.slice A1 l.length c1, .slice (some ⟨w1.heap.size, 0, none⟩) 1 1] 38) := ⟨_, rfl⟩
  rw [← hW0] at HN ⊢
  clear hW0
  generalize w1.heap.size + 1 = g at HN ⊢
  generalize w1.heap.size = r0 at HN ⊢
  go_loopw [17, 4] (fun i n wr => ∃ k : Nat, k ≤ l.length ∧ i = .int .i64 k ∧ n = .int .i64 (cnt l k : Nat) ∧ ∃ r c', NewSt w wr g A1 c1 l r c' k) (fun i _ _ => l.length - (intOf i).toNat)
  case atStart => exact ⟨0, Nat.zero_le _, rfl, by simp [cnt_zero], r0, 1, HN.out⟩
  case round =>
    obtain ⟨k, hk, rfl, rfl, r, c', hst⟩ := hrel
    by_cases hlt : k < l.length
    · obtain ⟨ad, rfl, hc⟩ := (HS.out.below hst.below).bit hlt
      have k0 := hst.cell0
      have k1 := hst.cell1
      have kf := blk_frozen (i := 1) hst.blk
      have hle := cnt_le l k
      have Hst := Lib.hid hst
      clear hst
      have hcs := cnt_succ l k hlt
      cases hbit : l[k] <;> rw [hbit] at hc hcs
      · have HCS : Hid (cnt l (k + 1) = cnt l k) := by show cnt l (k + 1) = cnt l k; rw [hcs]; simp
        clear hcs hbit
        go_wp2_with (at_builtin; refine wpList_append_own _ rfl (.tmp 28) (.tmp 30) 36 rfl w.heap.size 3 i0 (.int .i64 0) 1 8 Try.underlying36 hi hz0 hz1 hz2 rfl (by decide) _ _ _ rfl (Hst.out.own.alloc _) ⟨wr.heap.size, 0, none⟩ 1 1 [.int .i64 (cnt l k : Nat)] rfl rfl ?c1 ?c2 ?c3 ?c4 ?c5 ?_)
        case c1 => intro j u hj; match j, hj with | 0, hj => simp at hj; subst hj; simp [Addr.add]
        case c2 => intro u hu; simp at hu; subst hu; rfl
        case c3 => unfold maxLen; omega
        case c4 => omega
        case c5 => have := Hst.out.below.size; simp; omega
        intro v' w2 hown hgrow _
        obtain ⟨r', c'', rfl, hc1, hf1, hnew⟩ := Hst.out.step _ (by rw [HCS.out]; exact hown) hgrow
        clear hown hgrow
        have HNEW := Lib.hid hnew
        clear hnew
        go_wp2
        go_roundw
        case rel => exact ⟨k + 1, by omega, by go_num, by rw [HCS.out], r', c'', HNEW.out⟩
        case measure => simp [intOf]; omega
      · have HCS : Hid (cnt l (k + 1) = cnt l k + 1) := by show cnt l (k + 1) = cnt l k + 1; rw [hcs]; simp
        clear hcs hbit
        go_wp2_with (at_builtin; refine wpList_append_own _ rfl (.tmp 28) (.tmp 30) 36 rfl w.heap.size 3 i0 (.int .i64 0) 1 8 Try.underlying36 hi hz0 hz1 hz2 rfl (by decide) _ _ _ rfl (Hst.out.own.alloc _) ⟨wr.heap.size, 0, none⟩ 1 1 [.int .i64 ((cnt l k : Nat) + 1)] rfl rfl ?c1 ?c2 ?c3 ?c4 ?c5 ?_)
        case c1 => intro j u hj; match j, hj with | 0, hj => simp at hj; subst hj; simp [Addr.add]
        case c2 => intro u hu; simp at hu; subst hu; rfl
        case c3 => unfold maxLen; omega
        case c4 => omega
        case c5 => have := Hst.out.below.size; simp; omega
        intro v' w2 hown hgrow _
        obtain ⟨r', c'', rfl, hc1, hf1, hnew⟩ := Hst.out.step _ (by rw [HCS.out]; exact hown) hgrow
        clear hown hgrow
        have HNEW := Lib.hid hnew
        clear hnew
        go_wp2
        go_roundw
        case rel => exact ⟨k + 1, by omega, by go_num, by rw [HCS.out]; rfl, r', c'', HNEW.out⟩
        case measure => simp [intOf]; omega
    · obtain rfl : k = l.length := by omega
      have Hst := Lib.hid hst
      clear hst
      go_wp2
      go_ret
      exact ⟨g, _, _, _, _, rfl, Hst.out⟩
theorem new_calls (A : Option Addr) (c : Nat) (l : List Bool) (w : World) (h : Seg w A l.length (bls l)) (hn : l.length ≤ 4096) :
    Calls Try.prog 10 #[.slice A l.length c] w fun e w' => ∃ g, e = .returned (.pointer (some ⟨g, 0, none⟩)) ∧ w.heap.size ≤ g ∧ Vec w' g l ∧ Below w.heap.size w w' :=
  (new_st A c l w h hn).mono fun _ _ ⟨g, _, _, _, _, he, hst⟩ => ⟨g, he, hst.hB, hst.vec hn, hst.below⟩
/-- Too many bits: nil. -/
theorem new_nil (A : Option Addr) (n c : Nat) (w : World) (hn : 4096 < n) :
    Calls Try.prog 10 #[.slice A n c] w fun e w' => e = .returned (.pointer none) ∧ w = w' := by
  go_enter Try.func10, Try.ntmps10
  go_wp2_with fail
  go_ret
  exact ⟨rfl, rfl⟩
end Go.Proofs.Ytajhilgfohffdaa
