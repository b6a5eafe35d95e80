/- The walk of BitsSum. -/
import Derived.Test.YtajhilgfohffdaaNext
namespace Go.Proofs.Ytajhilgfohffdaa
open Go.RowKit Go.Lib Bp

theorem getZ_nat (l : List Bool) (m : Nat) (h : m < l.length) : getZ l (m : Int) = l[m] := by
  simp [getZ, h]

set_option maxHeartbeats 2000000 in
set_option maxRecDepth 100000 in
theorem sum_walk (A : Option Addr) (c : Nat) (l : List Bool) (at0 : Int) (w : World) (h : Seg w A l.length (bls l)) (hw : (Lit.int .i64 at0).wf = true) :
    Calls Try.prog 9 #[.slice A l.length c, .int .i64 at0] w fun e w' => e = .returned (.bool true) ∧ Below w.heap.size w w' := by
  have hat : at0 ≤ 9223372036854775807 := by simp [Lit.wf] at hw; omega
  clear hw
  by_cases hbig : 400 < l.length
  · go_enter Try.func9, Try.ntmps9
    go_wp2_with fail
    go_ret
    exact ⟨rfl, Below.refl _ _⟩
  · have hN := Lib.hid (new_calls A c l w h (by omega))
    clear h
    have hcl := cnt_le l l.length
    obtain ⟨m0, e1, hm0⟩ : ∃ m : Nat, max at0 0 = (m : Int) ∧ m ≤ 9223372036854775807 := ⟨at0.toNat, by omega, by omega⟩
    have E1 := Lib.hid e1
    clear e1
    go_enter Try.func9, Try.ntmps9
    go_wp2_with fail
    refine hN.out.mono ?_
    rintro e w1 ⟨g, rfl, _, hv1, hb1⟩
    go_wp2_with fail
    refine (rank_is g l _ (cnt l l.length : Nat) _ hv1 (by simp [rankZ])).mono ?_
    rintro e w2 ⟨rfl, hb2⟩
    have hv2 := hv1.below hb2
    have hB2 := thn hb1 hb2
    clear hb1 hb2 hv1
    have hn0 : cnt l l.length ≤ 400 := by omega
    go_wp2_with fail
    rw [E1.out]
    go_loopw [7, 8] (fun t i wr => ∃ m k : Nat, m0 ≤ m ∧ (m ≤ l.length ∨ m = m0) ∧ cnt l m = cnt l m0 + k ∧ i = .int .i64 m ∧ t = .int .i64 k ∧ Vec wr g l ∧ Below w.heap.size w wr) (fun _ i _ => l.length - (intOf i).toNat)
    case atStart => exact ⟨m0, 0, Nat.le_refl _, .inr rfl, rfl, rfl, rfl, hv2, hB2⟩
    case round =>
      obtain ⟨m, k, hm, hml, hck, rfl, rfl, hv, hB⟩ := hrel
      have hle := cnt_le_len l m
      by_cases hlt : m < l.length
      · have hcs := cnt_succ l m hlt
        have hgz := getZ_nat l m hlt
        cases hbit : l[m] <;> rw [hbit] at hcs hgz
        · have HCK : Hid (cnt l (m + 1) = cnt l m0 + k) := by show cnt l (m + 1) = cnt l m0 + k; rw [hcs, hck]; simp
          have HG := Lib.hid hgz
          clear hcs hbit hck hgz
          go_wp2_with fail
          refine (get_is g l _ false _ hv HG.out).mono ?_
          rintro e w3 ⟨rfl, hb3⟩
          have hv3 := hv.below hb3
          have hB3 := thn hB hb3
          clear hB hb3 hv
          go_wp2_with fail
          go_roundw
          case rel => exact ⟨m + 1, k, by omega, .inl (by omega), HCK.out, by go_num, rfl, hv3, hB3⟩
          case measure => simp [intOf]; omega
        · have HCK : Hid (cnt l (m + 1) = cnt l m0 + (k + 1)) := by show cnt l (m + 1) = cnt l m0 + (k + 1); rw [hcs, hck]; simp; omega
          have HG := Lib.hid hgz
          have hk0 : k ≤ 400 := by omega
          clear hcs hbit hck hgz
          go_wp2_with fail
          refine (get_is g l _ true _ hv HG.out).mono ?_
          rintro e w3 ⟨rfl, hb3⟩
          have hv3 := hv.below hb3
          have hB3 := thn hB hb3
          clear hB hb3 hv
          go_wp2_with fail
          go_roundw
          case rel => exact ⟨m + 1, k + 1, by omega, .inl (by omega), HCK.out, by go_num, by go_num, hv3, hB3⟩
          case measure => simp [intOf]; omega
      · have hlast : cnt l l.length = cnt l m0 + k := (cnt_past l (by omega)).symm.trans hck
        have heq : ((((cnt l m0 : Nat) : Int) + (k : Int)) == ((cnt l l.length : Nat) : Int)) = true := beq_iff_eq.2 (by omega)
        have hR : Hid (rankZ l (min (max at0 0) (l.length : Int)) = (cnt l m0 : Nat)) := by
          show rankZ l (min (max at0 0) (l.length : Int)) = (cnt l m0 : Nat)
          unfold rankZ
          have e1 := E1.out
          rw [show (min (max at0 0) (l.length : Int)).toNat = min m0 l.length by omega, cnt_min]
        have hk0 : k ≤ 400 := by omega
        have hk1 : cnt l m0 ≤ 400 := by omega
        clear hlast hck
        go_wp2_with fail
        refine (rank_is g l _ (cnt l m0 : Nat) _ hv hR.out).mono ?_
        rintro e w3 ⟨rfl, hb3⟩
        go_wp2_with fail
        refine (known_calls _).mono ?_
        rintro e w4 ⟨rfl, hb4⟩
        go_wp2_with fail
        go_ret
        exact ⟨rfl, thn (thn hB hb3) hb4⟩
end Go.Proofs.Ytajhilgfohffdaa
