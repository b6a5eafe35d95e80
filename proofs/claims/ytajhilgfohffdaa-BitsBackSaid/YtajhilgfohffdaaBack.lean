/- The walk of BitsBack. -/
import Derived.Test.YtajhilgfohffdaaIs
namespace Go.Proofs.Ytajhilgfohffdaa
open Go.RowKit Go.Lib Bp

set_option maxHeartbeats 2000000 in
set_option maxRecDepth 100000 in
theorem back_walk (A : Option Addr) (c : Nat) (l : List Bool) (w : World) (h : Seg w A l.length (bls l)) :
    Calls Try.prog 3 #[.slice A l.length c] w fun e w' => e = .returned (.bool true) ∧ Below w.heap.size w w' := by
  by_cases hbig : 400 < l.length
  · go_enter Try.func3, Try.ntmps3
    go_wp2_with fail
    go_ret
    exact ⟨rfl, Below.refl _ _⟩
  · have hN := Lib.hid (new_calls A c l w h (by omega))
    have HS := Lib.hid h
    clear h
    have hcl := cnt_le l l.length
    go_enter Try.func3, Try.ntmps3
    go_wp2_with fail
    refine hN.out.mono ?_
    rintro e w1 ⟨g, rfl, _, hv1, hb1⟩
    go_wp2_with fail
    refine (rank_is g l _ (cnt l l.length : Nat) _ hv1 (by simp [rankZ])).mono ?_
    rintro e w2 ⟨rfl, hb2⟩
    have hv2 := hv1.below hb2
    have hB2 := thn hb1 hb2
    clear hb1 hb2 hv1
    have hn0 : cnt l l.length ≤ 400 := by omega
    go_wp2_with fail
    go_loopw [5] (fun i wr => ∃ k : Nat, k ≤ cnt l l.length ∧ i = .int .i64 k ∧ Vec wr g l ∧ Below w.heap.size w wr) (fun i _ => cnt l l.length - (intOf i).toNat)
    case atStart => exact ⟨0, Nat.zero_le _, rfl, hv2, hB2⟩
    case round =>
      obtain ⟨k, hk, rfl, hv, hB⟩ := hrel
      by_cases hlt : k < cnt l l.length
      · obtain ⟨i, hi⟩ := at_ex l k hlt
        obtain ⟨ad, rfl, hc⟩ := (HS.out.below hB).bit hi.lt
        rw [hi.2.1] at hc
        have hil := hi.lt
        have HI := Lib.hid hi
        clear hi
        go_wp2_with fail
        refine (select_is g l _ i _ hv (selZ_at HI.out)).mono ?_
        rintro e w3 ⟨rfl, hb3⟩
        have hv3 := hv.below hb3
        have hc3 : w3.cell? (ad.add i) = some (.bool true) := (hb3.cell (World.block_lt_of_cell? _ _ hc)).trans hc
        clear hc
        go_wp2_with fail
        refine (rank_is g l _ k _ hv3 (by unfold rankZ; rw [Int.toNat_natCast, HI.out.2.2])).mono ?_
        rintro e w4 ⟨rfl, hb4⟩
        have hv4 := hv3.below hb4
        go_wp2_with fail
        refine (rank_is g l _ ((k : Int) + 1) _ hv4 (by unfold rankZ; rw [show ((i : Int) + 1).toNat = i + 1 by omega, HI.out.succ]; rfl)).mono ?_
        rintro e w5 ⟨rfl, hb5⟩
        have hv5 := hv4.below hb5
        go_wp2_with fail
        refine (next_is g l _ i _ hv5 (by unfold nextZ rankZ; rw [Int.toNat_natCast, HI.out.2.2]; exact selZ_at HI.out)).mono ?_
        rintro e w6 ⟨rfl, hb6⟩
        have hv6 := hv5.below hb6
        have hB6 := thn hB (thn (thn (thn hb3 hb4) hb5) hb6)
        clear hB hb3 hb4 hb5 hb6 hv hv3 hv4 hv5
        go_wp2_with fail
        go_roundw
        case rel => exact ⟨k + 1, by omega, by go_num, hv6, hB6⟩
        case measure => simp [intOf]; omega
      · obtain rfl : k = cnt l l.length := by omega
        go_wp2_with fail
        refine (select_is g l _ (-1) _ hv (selZ_none (by omega))).mono ?_
        rintro e w3 ⟨rfl, hb3⟩
        go_wp2_with fail
        refine (known_calls _).mono ?_
        rintro e w4 ⟨rfl, hb4⟩
        go_wp2_with fail
        go_ret
        exact ⟨rfl, thn (thn hB hb3) hb4⟩
end Go.Proofs.Ytajhilgfohffdaa
