/- The walk of BitsNext. -/
import Derived.Test.YtajhilgfohffdaaIs
namespace Go.Proofs.Ytajhilgfohffdaa
open Go.RowKit Go.Lib Bp

theorem refRank_is (A : Option Addr) (c : Nat) (l : List Bool) (i r : Int) (w : World) (h : Seg w A l.length (bls l)) (hl : l.length ≤ 4096) (hr : rankZ l i = r) :
    Calls Try.prog 17 #[.slice A l.length c, .int .i64 i] w fun e w' => e = .returned (.int .i64 r) ∧ Below w.heap.size w w' :=
  (refRank_calls A c l i w h hl).mono fun _ _ ⟨he, hw⟩ => ⟨hr ▸ he, hw ▸ Below.refl _ _⟩
theorem refSelect_is (A : Option Addr) (c : Nat) (l : List Bool) (q r : Int) (w : World) (h : Seg w A l.length (bls l)) (hl : l.length ≤ 4096) (hr : selZ l q = r) :
    Calls Try.prog 16 #[.slice A l.length c, .int .i64 q] w fun e w' => e = .returned (.int .i64 r) ∧ Below w.heap.size w w' :=
  (refSelect_calls A c l q w h hl).mono fun _ _ ⟨he, hw⟩ => ⟨hr ▸ he, hw ▸ Below.refl _ _⟩
theorem refNext_is (A : Option Addr) (c : Nat) (l : List Bool) (i r : Int) (w : World) (h : Seg w A l.length (bls l)) (hl : l.length ≤ 4096) (hi : i ≤ 9223372036854775807) (hr : nextZ l i = r) :
    Calls Try.prog 19 #[.slice A l.length c, .int .i64 i] w fun e w' => e = .returned (.int .i64 r) ∧ Below w.heap.size w w' :=
  (refNext_calls A c l i w h hl hi).mono fun _ _ ⟨he, hw⟩ => ⟨hr ▸ he, hw ▸ Below.refl _ _⟩

set_option maxHeartbeats 2000000 in
set_option maxRecDepth 100000 in
theorem next_walk (A : Option Addr) (c : Nat) (l : List Bool) (w : World) (h : Seg w A l.length (bls l)) :
    Calls Try.prog 6 #[.slice A l.length c] w fun e w' => e = .returned (.bool true) ∧ Below w.heap.size w w' := by
  by_cases hbig : 400 < l.length
  · go_enter Try.func6, Try.ntmps6
    go_wp2_with fail
    go_ret
    exact ⟨rfl, Below.refl _ _⟩
  · have hN := Lib.hid (new_calls A c l w h (by omega))
    have HS := Lib.hid h
    clear h
    have hcl := cnt_le l l.length
    go_enter Try.func6, Try.ntmps6
    go_wp2_with fail
    refine hN.out.mono ?_
    rintro e w1 ⟨g, rfl, _, hv1, hb1⟩
    go_wp2_with fail
    refine (next_is g l _ (selZ l (0 : Nat)) _ hv1 (by unfold nextZ rankZ; simp [cnt_zero])).mono ?_
    rintro e w2 ⟨rfl, hb2⟩
    have hv2 := hv1.below hb2
    have hB2 := thn hb1 hb2
    clear hb1 hb2 hv1
    have hn0 : cnt l l.length ≤ 400 := by omega
    go_wp2_with fail
    go_loopw [4, 5] (fun n i wr => ∃ k : Nat, k ≤ cnt l l.length ∧ n = .int .i64 k ∧ i = .int .i64 (selZ l k) ∧ Vec wr g l ∧ Below w.heap.size w wr) (fun n _ _ => cnt l l.length - (intOf n).toNat)
    case atStart => exact ⟨0, Nat.zero_le _, rfl, rfl, hv2, hB2⟩
    case round =>
      obtain ⟨k, hk, rfl, rfl, hv, hB⟩ := hrel
      by_cases hlt : k < cnt l l.length
      · obtain ⟨i, hi⟩ := at_ex l k hlt
        rw [selZ_at hi]
        have hil := hi.lt
        have HI := Lib.hid hi
        have HSw := Lib.hid (HS.out.below hB)
        clear hi
        go_wp2_with fail
        refine (refSelect_is A c l _ i _ HSw.out (by omega) (selZ_at HI.out)).mono ?_
        rintro e w3 ⟨rfl, hb3⟩
        have hv3 := hv.below hb3
        go_wp2_with fail
        refine (next_is g l _ (selZ l (k + 1 : Nat)) _ hv3 (by unfold nextZ rankZ; rw [show ((i : Int) + 1).toNat = i + 1 by omega, HI.out.succ])).mono ?_
        rintro e w4 ⟨rfl, hb4⟩
        have hv4 := hv3.below hb4
        have hB4 := thn hB (thn hb3 hb4)
        clear hB hb3 hb4 hv hv3
        go_wp2_with fail
        go_roundw
        case rel => exact ⟨k + 1, by omega, by go_num, rfl, hv4, hB4⟩
        case measure => simp [intOf]; omega
      · obtain rfl : k = cnt l l.length := by omega
        rw [selZ_none (.inr (Int.le_refl _))]
        have HSw := Lib.hid (HS.out.below hB)
        go_wp2_with fail
        refine (refRank_is A c l _ (cnt l l.length : Nat) _ HSw.out (by omega) (by simp [rankZ])).mono ?_
        rintro e w3 ⟨rfl, hb3⟩
        go_wp2_with fail
        refine (known_calls _).mono ?_
        rintro e w4 ⟨rfl, hb4⟩
        go_wp2_with fail
        go_ret
        exact ⟨rfl, thn (thn hB hb3) hb4⟩
end Go.Proofs.Ytajhilgfohffdaa
