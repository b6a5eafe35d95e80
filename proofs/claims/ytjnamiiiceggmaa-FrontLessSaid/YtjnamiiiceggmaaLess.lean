/- The walk of FrontLess. -/
import Derived.Test.YtjnamiiiceggmaaRef
namespace Go.Proofs.Ytjnamiiiceggmaa
open Go.RowKit Go.Lib Fp

theorem May.take {l : List ByteArray} (h : May l) (n : Nat) : May (l.take n) := by
  refine ⟨by have := h.1; rw [List.length_take]; omega, fun i hi => ?_⟩
  have hi' : i < l.length := by rw [List.length_take] at hi; omega
  obtain ⟨_, h1, h2, h3⟩ := h.2 i hi'
  refine ⟨hi, ?_, ?_, fun h0 => ?_⟩
  · rw [List.getElem_take]; exact h1
  · rw [List.getElem_take]; exact h2
  · rw [List.getElem_take, List.getElem_take]; exact h3 h0
theorem Seg.take {w : World} {A : Option Addr} {l : List ByteArray} (h : Seg w A l.length (sts l)) (n : Nat) (hn : n ≤ l.length) : Seg w A (l.take n).length (sts (l.take n)) := by
  refine ⟨sts_len _, fun h0 => ?_⟩
  have hlen : (l.take n).length = n := by rw [List.length_take]; omega
  obtain ⟨ad, e, hc⟩ := h.cell (by omega)
  refine ⟨ad, e, fun j u hu => hc j u ?_⟩
  have hj : j < n := by have := (List.getElem?_eq_some_iff.1 hu).1; rwa [sts_len, hlen] at this
  rw [← hu]
  unfold sts
  rw [List.getElem?_map, List.getElem?_map, List.getElem?_take_of_lt hj]
theorem ext_is (g : Nat) (l : List ByteArray) (id : Int) (r : ByteArray) (w : World) (h : Dic w g l) (hr : extZ l id = r) :
    Calls Try.prog 19 #[.pointer (some ⟨g, 0, none⟩), .int .i64 id] w fun e w' => e = .returned (.string r) ∧ Below w.heap.size w w' :=
  (ext_calls g l id w h).mono fun _ _ ⟨he, hw⟩ => ⟨hr ▸ he, hw ▸ Below.refl _ _⟩
theorem loc_is (g : Nat) (l : List ByteArray) (s : ByteArray) (r : Int) (w : World) (h : Dic w g l) (hr : (loc (tx l) s.data.toList : Int) = r) :
    Calls Try.prog 16 #[.pointer (some ⟨g, 0, none⟩), .string s] w fun e w' => e = .returned (.int .i64 r) ∧ Below w.heap.size w w' :=
  (locate_calls g l s w h).mono fun _ _ ⟨he, n, hw⟩ => ⟨hr ▸ he, hw ▸ below_drewN' (Below.refl _ _) n⟩
theorem loc_self {l : List ByteArray} (h : May l) {i : Nat} (hi : i < l.length) : loc (tx l) l[i].data.toList = i + 1 := by
  rw [← tx_get l i hi]
  exact loc_at h.srt (by rw [tx_len]; exact hi)

set_option maxHeartbeats 4000000 in
set_option maxRecDepth 100000 in
theorem less_walk (A : Option Addr) (c : Nat) (l : List ByteArray) (w : World) (h : Txs w A c l) :
    Calls Try.prog 5 #[.slice A l.length c] w fun e w' => e = .returned (.bool true) ∧ Below w.heap.size w w' := by
  obtain ⟨bl, hbl, hlong⟩ := long_calls A c l w h
  cases bl
  · have htot := hbl rfl
    have hlen := tot_ge l l.length
    obtain ⟨bm, hbm, hmay⟩ := may_calls A c l w h.seg (by omega)
    cases bm
    · clear hbl hbm h htot
      go_enter Try.func5, Try.ntmps5
      go_wp2_with fail
      refine hlong.mono ?_
      rintro e w' ⟨rfl, rfl⟩
      go_wp2_with fail
      refine hmay.mono ?_
      rintro e w' ⟨rfl, q, rfl⟩
      go_wp2_with fail
      go_ret
      exact ⟨rfl, below_drewN' (Below.refl _ _) q⟩
    · have hm := hbm.1 rfl
      have hcap := h.cap
      by_cases h0 : l.length < 1
      · clear hbl hbm h htot hm
        go_enter Try.func5, Try.ntmps5
        go_wp2_with fail
        refine hlong.mono ?_
        rintro e w' ⟨rfl, rfl⟩
        go_wp2_with fail
        refine hmay.mono ?_
        rintro e w' ⟨rfl, q, rfl⟩
        go_wp2_with fail
        go_ret
        exact ⟨rfl, below_drewN' (Below.refl _ _) q⟩
      · have HS := Lib.hid h.seg
        have HM := Lib.hid hm
        have hl20 : l.length ≤ 20000 := by omega
        have hl1 : 1 ≤ l.length := by omega
        have hL := List.length_take (i := l.length - 1) (l := l)
        rw [Nat.min_eq_left (by omega)] at hL
        have HL := Lib.hid hL
        clear hbl hbm h htot hm hL h0 hlen
        go_enter Try.func5, Try.ntmps5
        go_wp2_with fail
        refine hlong.mono ?_
        rintro e w' ⟨rfl, rfl⟩
        go_wp2_with fail
        refine hmay.mono ?_
        rintro e w' ⟨rfl, q, rfl⟩
        go_wp2_with fail
        refine (new_yes A c l _ (HS.out.drewN q) HM.out).mono ?_
        rintro e w1 ⟨g, rfl, _, hd1, hb1⟩
        have hB1 := thn (below_drewN' (Below.refl _ _) q) hb1
        clear hb1
        go_wp2_with fail
        have hnew := new_yes A c (l.take (l.length - 1)) w1 ((HS.out.below hB1).take (l.length - 1) (by omega)) (HM.out.take _)
        rw [HL.out] at hnew
        refine hnew.mono ?_
        clear hnew
        rintro e w2 ⟨gx, rfl, _, hx2, hb2⟩
        have hd2 := hd1.below hb2
        have hB2 := thn hB1 hb2
        clear hd1 hb2 hB1
        go_wp2_with fail
        go_loopw [7] (fun i wr => ∃ k : Nat, 1 ≤ k ∧ k ≤ l.length ∧ i = .int .i64 k ∧ Dic wr g l ∧ Dic wr gx (l.take (l.length - 1)) ∧ Below w.heap.size w wr) (fun i _ => l.length - (intOf i).toNat)
        case atStart => exact ⟨1, Nat.le_refl _, hl1, rfl, hd2, hx2, hB2⟩
        case round =>
          obtain ⟨k, hk1, hk2, rfl, hd, hx, hB⟩ := hrel
          by_cases hlt : k < l.length
          · have e1 : extZ l (k : Int) = l[k - 1] := by unfold extZ; rw [dif_pos ⟨by omega, by omega⟩]; congr 1; omega
            have e2 : extZ (l.take (l.length - 1)) (k : Int) = l[k - 1] := by
              unfold extZ
              rw [dif_pos ⟨by omega, by rw [HL.out]; omega⟩, List.getElem_take]
              congr 1; omega
            have e3 : ((loc (tx (l.take (l.length - 1))) l[k - 1].data.toList : Nat) : Int) = (k : Int) := by
              have := loc_self (HM.out.take (l.length - 1)) (i := k - 1) (by rw [HL.out]; omega)
              rw [List.getElem_take] at this
              rw [this]; omega
            have E1 := Lib.hid e1
            have E2 := Lib.hid e2
            have E3 := Lib.hid e3
            clear e1 e2 e3
            generalize l[k - 1] = s at E1 E2 E3
            go_wp2_with fail
            refine (ext_is g l _ s _ hd E1.out).mono ?_
            rintro e w3 ⟨rfl, hb3⟩
            have hd3 := hd.below hb3
            have hx3 := hx.below hb3
            have hB3 := thn hB hb3
            clear hb3 hd hx hB
            go_wp2_with fail
            refine (ext_is gx _ _ s _ hx3 E2.out).mono ?_
            rintro e w4 ⟨rfl, hb4⟩
            have hd4 := hd3.below hb4
            have hx4 := hx3.below hb4
            have hB4 := thn hB3 hb4
            clear hb4 hd3 hx3 hB3
            go_wp2_with fail
            refine (ext_is g l _ s _ hd4 E1.out).mono ?_
            rintro e w5 ⟨rfl, hb5⟩
            have hd5 := hd4.below hb5
            have hx5 := hx4.below hb5
            have hB5 := thn hB4 hb5
            clear hb5 hd4 hx4 hB4
            go_wp2_with fail
            refine (loc_is gx _ s k _ hx5 E3.out).mono ?_
            rintro e w6 ⟨rfl, hb6⟩
            have hd6 := hd5.below hb6
            have hx6 := hx5.below hb6
            have hB6 := thn hB5 hb6
            clear hb6 hd5 hx5 hB5
            go_wp2_with fail
            go_roundw
            case rel => exact ⟨k + 1, by omega, by omega, by go_num, hd6, hx6, hB6⟩
            case measure => simp [intOf]; omega
          · obtain ⟨ad, rfl, hc⟩ := (HS.out.below hB).str (k := l.length - 1) (by omega)
            have e1 : ((loc (tx (l.take (l.length - 1))) l[l.length - 1].data.toList : Nat) : Int) = 0 := by
              rw [loc_none fun i hi e => ?_]
              · rfl
              · rw [tx_len, HL.out] at hi
                rw [tx_get _ i (by rw [HL.out]; exact hi), List.getElem_take, ← tx_get l i (by omega), ← tx_get l (l.length - 1) (by omega)] at e
                have := HM.out.srt.inj (by rw [tx_len]; omega) (by rw [tx_len]; omega) e
                omega
            have e2 : ((loc (tx l) l[l.length - 1].data.toList : Nat) : Int) = (l.length : Int) := by
              rw [loc_self HM.out (i := l.length - 1) (by omega)]; omega
            have E1 := Lib.hid e1
            have E2 := Lib.hid e2
            clear e1 e2
            generalize l[l.length - 1] = s at hc E1 E2
            go_wp2_with fail
            refine (loc_is gx _ s 0 _ hx E1.out).mono ?_
            rintro e w3 ⟨rfl, hb3⟩
            have hc3 : w3.cell? (ad.add (l.length - 1)) = some (.string s) := (hb3.cell (World.block_lt_of_cell? _ _ hc)).trans hc
            have hd3 := hd.below hb3
            have hB3 := thn hB hb3
            clear hb3 hd hx hB hc
            go_wp2_with fail
            refine (loc_is g _ s l.length _ hd3 E2.out).mono ?_
            rintro e w4 ⟨rfl, hb4⟩
            have hB4 := thn hB3 hb4
            go_wp2_with fail
            refine (known_calls _).mono ?_
            rintro e w5 ⟨rfl, hb5⟩
            go_wp2_with fail
            go_ret
            exact ⟨rfl, thn hB4 hb5⟩
  · clear hbl h
    go_enter Try.func5, Try.ntmps5
    go_wp2_with fail
    refine hlong.mono ?_
    rintro e w' ⟨rfl, rfl⟩
    go_wp2_with fail
    go_ret
    exact ⟨rfl, Below.refl _ _⟩
end Go.Proofs.Ytjnamiiiceggmaa
