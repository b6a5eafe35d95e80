/- The walk of BitsTell. -/
import Derived.Test.YtajhilgfohffdaaSum
namespace Go.Proofs.Ytajhilgfohffdaa
open Go.RowKit Go.Lib Bp

set_option maxHeartbeats 4000000 in
set_option maxRecDepth 100000 in
theorem tell_walk (A : Option Addr) (c : Nat) (l : List Bool) (at0 : Int) (w : World) (h : Seg w A l.length (bls l)) (hw : (Lit.int .i64 at0).wf = true) :
    Calls Try.prog 7 #[.slice A l.length c, .int .i64 at0] w fun e w' => e = .returned (.bool true) ∧ Below w.heap.size w w' := by
  have hat : at0 ≤ 9223372036854775807 := by simp [Lit.wf] at hw; omega
  clear hw
  by_cases hbig : 400 < l.length
  · go_enter Try.func7, Try.ntmps7
    go_wp2_with fail
    go_ret
    exact ⟨rfl, Below.refl _ _⟩
  · have hN := Lib.hid (new_calls A c l w h (by omega))
    have HS := Lib.hid h
    clear h
    go_enter Try.func7, Try.ntmps7
    go_wp2_with fail
    refine hN.out.mono ?_
    rintro e w1 ⟨g, rfl, _, hv1, hb1⟩
    go_wp2_with fail
    refine (len_is g l _ hv1).mono ?_
    rintro e w2 ⟨rfl, hb2⟩
    have hv2 := hv1.below hb2
    have hB2 := thn hb1 hb2
    clear hb1 hb2 hv1
    go_wp2_with fail
    go_loopw [6] (fun i wr => ∃ m : Int, -1 ≤ m ∧ m ≤ l.length + 2 ∧ i = .int .i64 m ∧ Vec wr g l ∧ Below w.heap.size w wr) (fun i _ => (l.length + 2 - intOf i).toNat)
    case atStart => exact ⟨-1, by omega, by omega, rfl, hv2, hB2⟩
    case round =>
      obtain ⟨m, hm1, hm2, rfl, hv, hB⟩ := hrel
      by_cases hlt : m < l.length + 2
      · have HSw := Lib.hid (HS.out.below hB)
        have hmax : m ≤ 9223372036854775807 := by omega
        obtain ⟨b, hcase⟩ : ∃ b, getZ l m = b ∧ ((0 ≤ m ∧ m < l.length ∧ ∃ ad, A = some ad ∧ Hid (∀ W, Below wr.heap.size wr W → W.cell? (ad.add m.toNat) = some (.bool b))) ∨ (b = false ∧ m < 0) ∨ (b = false ∧ 0 ≤ m ∧ l.length ≤ m)) := by
          refine ⟨_, rfl, ?_⟩
          by_cases h0 : m < 0
          · exact .inr (.inl ⟨by unfold getZ; rw [dif_neg (by omega)], h0⟩)
          · by_cases h1 : m < l.length
            · obtain ⟨ad, e, hc⟩ := HSw.out.bit (k := m.toNat) (by omega)
              refine .inl ⟨by omega, h1, ad, e, fun W hW => (hW.cell (World.block_lt_of_cell? _ _ hc)).trans ?_⟩
              rw [hc]; simp [getZ, h1, show 0 ≤ m by omega]
            · exact .inr (.inr ⟨by unfold getZ; rw [dif_neg (by omega)], by omega, by omega⟩)
        obtain ⟨hgb, hcase⟩ := hcase
        have HG := Lib.hid hgb
        clear hgb
        rcases hcase with ⟨c1, c2, ad, rfl, HC⟩ | ⟨rfl, c1⟩ | ⟨rfl, c1, c2⟩
        all_goals
          go_wp2_with fail
          refine (get_is g l _ _ _ hv HG.out).mono ?_
          rintro e w3 ⟨rfl, hb3⟩
          have hv3 := hv.below hb3
          have hB3 := thn hB hb3
          first | (have hc3 := HC.out _ hb3) | skip
          clear hb3 hB
          go_wp2_with fail
          refine (rank_is g l _ _ _ hv3 rfl).mono ?_
          rintro e w4 ⟨rfl, hb4⟩
          have hv4 := hv3.below hb4
          have hB4 := thn hB3 hb4
          clear hb4 hB3
          go_wp2_with fail
          refine (refRank_is _ c l _ _ _ (HS.out.below hB4) (by omega) rfl).mono ?_
          rintro e w5 ⟨rfl, hb5⟩
          have hv5 := hv4.below hb5
          have hB5 := thn hB4 hb5
          clear hb5 hB4
          go_wp2_with fail
          refine (select_is g l _ _ _ hv5 rfl).mono ?_
          rintro e w6 ⟨rfl, hb6⟩
          have hv6 := hv5.below hb6
          have hB6 := thn hB5 hb6
          clear hb6 hB5
          go_wp2_with fail
          refine (refSelect_is _ c l _ _ _ (HS.out.below hB6) (by omega) rfl).mono ?_
          rintro e w7 ⟨rfl, hb7⟩
          have hv7 := hv6.below hb7
          have hB7 := thn hB6 hb7
          clear hb7 hB6
          go_wp2_with fail
          refine (next_is g l _ _ _ hv7 rfl).mono ?_
          rintro e w8 ⟨rfl, hb8⟩
          have hv8 := hv7.below hb8
          have hB8 := thn hB7 hb8
          clear hb8 hB7
          go_wp2_with fail
          refine (refNext_is _ c l _ _ _ (HS.out.below hB8) (by omega) (by omega) rfl).mono ?_
          rintro e w9 ⟨rfl, hb9⟩
          have hv9 := hv8.below hb9
          have hB9 := thn hB8 hb9
          clear hb9 hB8
          go_wp2_with fail
          go_roundw
          case rel => exact ⟨m + 1, by omega, by omega, rfl, hv9, hB9⟩
          case measure => simp [intOf]; omega
      · obtain rfl : m = l.length + 2 := by omega
        have HSw := Lib.hid (HS.out.below hB)
        go_wp2_with fail
        refine (rank_is g l _ _ _ hv rfl).mono ?_
        rintro e w4 ⟨rfl, hb4⟩
        have hv4 := hv.below hb4
        have hB4 := thn hB hb4
        clear hb4 hB
        go_wp2_with fail
        refine (refRank_is _ c l _ _ _ (HS.out.below hB4) (by omega) rfl).mono ?_
        rintro e w5 ⟨rfl, hb5⟩
        have hv5 := hv4.below hb5
        have hB5 := thn hB4 hb5
        clear hb5 hB4
        go_wp2_with fail
        refine (select_is g l _ _ _ hv5 rfl).mono ?_
        rintro e w6 ⟨rfl, hb6⟩
        have hv6 := hv5.below hb6
        have hB6 := thn hB5 hb6
        clear hb6 hB5
        go_wp2_with fail
        refine (refSelect_is _ c l _ _ _ (HS.out.below hB6) (by omega) rfl).mono ?_
        rintro e w7 ⟨rfl, hb7⟩
        have hv7 := hv6.below hb7
        have hB7 := thn hB6 hb7
        clear hb7 hB6
        go_wp2_with fail
        refine (next_is g l _ _ _ hv7 rfl).mono ?_
        rintro e w8 ⟨rfl, hb8⟩
        have hv8 := hv7.below hb8
        have hB8 := thn hB7 hb8
        clear hb8 hB7
        go_wp2_with fail
        refine (refNext_is _ c l _ _ _ (HS.out.below hB8) (by omega) (by omega) rfl).mono ?_
        rintro e w9 ⟨rfl, hb9⟩
        have hv9 := hv8.below hb9
        have hB9 := thn hB8 hb9
        clear hb9 hB8
        go_wp2_with fail
        refine (get_is g l _ false _ hv9 (by simp [getZ])).mono ?_
        rintro e w10 ⟨rfl, hb10⟩
        go_wp2_with fail
        refine (known_calls _).mono ?_
        rintro e w11 ⟨rfl, hb11⟩
        go_wp2_with fail
        go_ret
        exact ⟨rfl, thn (thn hB9 hb10) hb11⟩
end Go.Proofs.Ytajhilgfohffdaa
