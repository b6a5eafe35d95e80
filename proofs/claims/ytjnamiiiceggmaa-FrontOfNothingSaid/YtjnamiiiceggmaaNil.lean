/- The walk of FrontOfNothing. -/
import Derived.Test.YtjnamiiiceggmaaPre
import Derived.Deep.OwnRows
namespace Go.Proofs.Ytjnamiiiceggmaa
open Go.RowKit Go.Lib Fp

/-- The Dict in block g, all of whose memory lies from block B on. -/
structure FarD (B : Nat) (wr : World) (g : Nat) (l : List ByteArray) : Prop where
  ex : ∃ A c, B ≤ g ∧ wr.heap[g]? = some (.cells #[.slice A l.length c] 51 (0, 0)) ∧ wr.ownsRow B 9 1 (.slice A l.length c) l.length (sts l)
  may : May l
theorem FarD.dic {B : Nat} {wr : World} {g : Nat} {l : List ByteArray} (h : FarD B wr g l) : Dic wr g l := by
  obtain ⟨A, c, _, h1, h2⟩ := h.ex
  exact ⟨⟨A, c, h1, Seg.of_own h2⟩, h.may⟩
theorem FarD.set {B : Nat} {wr : World} {g : Nat} {l : List ByteArray} (h : FarD B wr g l) {p : Addr} (hp : p.block < B) (u : Value) : FarD B (wr.setCell p u) g l := by
  obtain ⟨A, c, h0, h1, h2⟩ := h.ex
  exact ⟨⟨A, c, h0, by rw [Below.heap_setCell _ _ _ _ (by omega)]; exact h1, ownsRow_setCell_below h2 hp u⟩, h.may⟩

def sa : ByteArray := ⟨#[97]⟩
def sb : ByteArray := ⟨#[98]⟩
def ab : List ByteArray := [sa, sb]
theorem ab_may : May ab := by
  refine ⟨by decide, fun i hi => ?_⟩
  match i, hi with
  | 0, _ => exact ⟨by decide, by decide, by decide, fun h => absurd h (by decide)⟩
  | 1, _ => exact ⟨by decide, by decide, by decide, fun _ => by
      show Op.bytesLess sa.toList sb.toList = true
      rw [Lib.toList_data, Lib.toList_data]; decide⟩
def abf (i : Nat) : Value := if i = 0 then .string sa else .string sb
theorem ab_row (w : World) : (w.alloc (.cells #[.string sa, .string sb] 9)).rowIs w.heap.size 9 2 abf :=
  World.rowIs_alloc w #[.string sa, .string sb] 9 abf (fun i hi => by
    match i, hi with
    | 0, _ => rfl
    | 1, _ => rfl)
theorem ab_seg (w : World) : Seg (w.alloc (.cells #[.string sa, .string sb] 9)) (some ⟨w.heap.size, 0, none⟩) ab.length (sts ab) := by
  refine ⟨rfl, fun _ => ⟨_, rfl, fun j u hu => ?_⟩⟩
  rw [add_zero']
  exact cells_new w _ 9 j u hu

set_option maxHeartbeats 2000000 in
set_option maxRecDepth 100000 in
theorem new_far (A : Option Addr) (c : Nat) (l : List ByteArray) (w : World) (h : Seg w A l.length (sts l)) (hm : May l) :
    Calls Try.prog 12 #[.slice A l.length c] w fun e w' => ∃ g, e = .returned (.tuple #[.pointer (some ⟨g, 0, none⟩), .int .i64 0]) ∧ FarD w.heap.size w' g l ∧ Below w.heap.size w w' := by
  have hlen := hm.1
  have hcl := Lib.hid (clone_calls A l.length c (sts l) w h (sts_one l) hlen)
  have HS := Lib.hid h
  have HM := Lib.hid hm
  clear h hm
  go_enter Try.func12, Try.ntmps12
  go_wp2
  go_loop [11] (fun i => ∃ k : Nat, k ≤ l.length ∧ i = .int .i64 k) (fun i => l.length - (intOf i).toNat)
  case atStart => exact ⟨0, Nat.zero_le _, rfl⟩
  case round =>
    obtain ⟨k, hk, rfl⟩ := hrel
    by_cases hlt : k < l.length
    · obtain ⟨_, h1, h2, h3⟩ := HM.out.2 k hlt
      obtain ⟨ad, rfl, hc⟩ := HS.out.str hlt
      by_cases h0 : 0 < k
      · obtain ⟨ad', e, hc'⟩ := HS.out.str (k := k - 1) (by omega)
        cases e
        have h3' := h3 h0
        have hne := not_empty_of h1
        clear h3
        generalize l[k] = s at hc h1 h2 h3' hne
        generalize l[k - 1] = p at hc' h3'
        have hsb : s.toList.isEmpty = false := by simpa using hne
        go_wp2
        go_round
        case rel => exact ⟨k + 1, by omega, by go_num⟩
        case measure => simp [intOf]; omega
      · have hne := not_empty_of h1
        clear h3
        generalize l[k] = s at hc h1 h2 hne
        have hsb : s.toList.isEmpty = false := by simpa using hne
        go_wp2
        go_round
        case rel => exact ⟨k + 1, by omega, by go_num⟩
        case measure => simp [intOf]; omega
    · go_wp2_with fail
      refine hcl.out.mono ?_
      rintro e w1 ⟨lv, rfl, hrow, hb1⟩
      obtain ⟨A1, c1, rfl⟩ := own_form hrow
      have hs1 := hb1.size
      have hd : FarD w.heap.size (w1.alloc (.cells #[.slice A1 l.length c1] 51)) w1.heap.size l := ⟨⟨A1, c1, hs1, heap_alloc_new w1 _, hrow.alloc _⟩, HM.out⟩
      have HD := Lib.hid hd
      clear hd hrow
      go_wp2
      go_ret2
      exact ⟨w1.heap.size, rfl, HD.out, hb1.alloc hs1 _⟩

theorem seg_nil (w : World) : Seg w none ([] : List ByteArray).length (sts []) := ⟨rfl, fun h => absurd h (by decide)⟩
theorem may_nil : May [] := ⟨by decide, fun i hi => absurd hi (by simp)⟩
theorem bs_nil (x : ByteArray) (w : World) : Calls Try.prog 30 #[.slice none 0 0, .string x] w fun e w' => e = .returned (.tuple #[.int .i64 0, .bool false]) ∧ ∃ q, w' = w.drewN q := by
  obtain ⟨k, hk, _, _, b, hb, hc⟩ := bs_calls none 0 [] x w (seg_nil w) may_nil
  obtain rfl : k = 0 := by simpa using hk
  cases b
  · exact hc
  · obtain ⟨h, _⟩ := hb.1 rfl
    exact absurd h (by decide)
theorem loc_nil (s : ByteArray) (w : World) :
    Calls Try.prog 16 #[.pointer none, .string s] w fun e w' => e = .returned (.int .i64 0) ∧ Below w.heap.size w w' := by
  go_enter Try.func16, Try.ntmps16
  go_wp2_with (first | (go_at_call 29; refine (all_nil _).mono ?_; rintro e w' ⟨rfl, rfl⟩) | (go_at_call 30; refine (bs_nil _ _).mono ?_; rintro e w' ⟨rfl, q, rfl⟩))
  go_ret
  exact ⟨rfl, below_drewN' (Below.refl _ _) _⟩
theorem bytes_nil (w : World) :
    Calls Try.prog 13 #[.pointer none] w fun e w' => e = .returned (.slice none 0 0) ∧ Below w.heap.size w w' := by
  go_enter Try.func13, Try.ntmps13
  go_wp2
  go_ret
  exact ⟨rfl, Below.refl _ _⟩
theorem ext_nil (id : Int) (w : World) :
    Calls Try.prog 19 #[.pointer none, .int .i64 id] w fun e w' => e = .returned (.string ByteArray.empty) ∧ Below w.heap.size w w' := by
  by_cases h0 : 1 ≤ id
  · go_enter Try.func19, Try.ntmps19
    go_wp2_with (go_at_call 15; refine (len_nil _).mono ?_; rintro e w' ⟨rfl, rfl⟩)
    go_ret
    exact ⟨rfl, Below.refl _ _⟩
  · go_enter Try.func19, Try.ntmps19
    go_wp2_with (go_at_call 15; refine (len_nil _).mono ?_; rintro e w' ⟨rfl, rfl⟩)
    go_ret
    exact ⟨rfl, Below.refl _ _⟩
theorem len_nil' (w : World) : Calls Try.prog 15 #[.pointer none] w fun e w' => e = .returned (.int .i64 0) ∧ Below w.heap.size w w' :=
  (len_nil w).mono fun _ _ ⟨he, hw⟩ => ⟨he, hw ▸ Below.refl _ _⟩

set_option maxHeartbeats 4000000 in
set_option maxRecDepth 100000 in
theorem prefix_nil (p : ByteArray) (w : World) :
    Calls Try.prog 24 #[.pointer none, .string p] w fun e w' => e = .returned (.tuple #[.int .i64 0, .int .i64 0]) ∧ RowKit.Below w.heap.size w w' := by
  go_enter Try.func24, Try.ntmps24
  go_wp2_with fail
  refine (all_nil _).mono ?_
  rintro e w' ⟨rfl, rfl⟩
  go_wp2_with fail
  refine (bs_nil _ _).mono ?_
  rintro e w' ⟨rfl, q, rfl⟩
  have hbl : RowKit.Below w.heap.size w ((((w.alloc (.cells #[.string p] 9)).alloc (.cells #[.slice none 0 0] 22)).drewN q).alloc (.cells #[.int .i64 0] 3)) :=
    (below_drewN' (((RowKit.Below.refl _ w).alloc (Nat.le_refl _) _).alloc (by simp) _) q).alloc (by simp; omega) _
  have hb0 : ((((w.alloc (.cells #[.string p] 9)).alloc (.cells #[.slice none 0 0] 22)).drewN q).alloc (.cells #[.int .i64 0] 3)).heap[w.heap.size]? = some (.cells #[.string p] 9 (0, 0)) :=
    (Below.heap_alloc _ _ _ (by simp; omega)).trans ((Below.heap_alloc _ _ _ (by simp)).trans (heap_alloc_new w _))
  have hb1 : ((((w.alloc (.cells #[.string p] 9)).alloc (.cells #[.slice none 0 0] 22)).drewN q).alloc (.cells #[.int .i64 0] 3)).heap[w.heap.size + 1]? = some (.cells #[.slice none 0 0] 22 (0, 0)) :=
    (Below.heap_alloc _ _ _ (by simp)).trans (hn1 w _ _)
  have hb2 : ((((w.alloc (.cells #[.string p] 9)).alloc (.cells #[.slice none 0 0] 22)).drewN q).alloc (.cells #[.int .i64 0] 3)).heap[w.heap.size + 1 + 1]? = some (.cells #[.int .i64 0] 3 (0, 0)) :=
    hn2 w _ _ _
  have HBL := Lib.hid hbl
  have HB0 := Lib.hid hb0
  have HB1 := Lib.hid hb1
  have HB2 := Lib.hid hb2
  clear hbl hb0 hb1 hb2
  go_wp2_with fail
  generalize (((w.alloc (.cells #[.string p] 9)).alloc (.cells #[.slice none 0 0] 22)).drewN q).alloc (.cells #[.int .i64 0] 3) = W at HBL HB0 HB1 HB2 ⊢
  refine (pre_search (w.heap.size + 1) (w.heap.size + 1 + 1) w.heap.size none 0 0 0 [] p W (by decide) (by decide) (seg_nil W) (by rw [cell_of_row W _ 0 _ 22 (0, 0) HB1.out]; rfl) (by rw [cell_of_row W _ 0 _ 3 (0, 0) HB2.out]; rfl) (by rw [cell_of_row W _ 0 _ 9 (0, 0) HB0.out]; rfl) (fun t ht => by omega) (fun t _ ht => absurd ht (by simp)) (fun a b _ hb => absurd hb (by simp))).mono ?_
  rintro e w3 ⟨rfl, hb3⟩
  have hB3 := thn HBL.out hb3
  go_wp2
  go_ret2
  exact ⟨rfl, hB3⟩

set_option maxHeartbeats 4000000 in
set_option maxRecDepth 100000 in
theorem nothing_walk (s : ByteArray) (i : Int) (w : World) (_ : s.size ≤ 140737488351232) (_ : (Lit.int .i64 i).wf = true) :
    Calls Try.prog 11 #[.string s, .int .i64 i] w fun e w' => e = .returned (.bool true) ∧ Below w.heap.size w w' := by
  by_cases h300 : s.size ≤ 300
  · go_enter Try.func11, Try.ntmps11
    go_wp2_with fail
    refine (prefix_nil _ _).mono ?_
    rintro e w1 ⟨rfl, hB1⟩
    have hs1 := hB1.size
    go_wp2_with fail
    have hnew := new_far (some ⟨w1.heap.size, 0, none⟩) 2 ab (w1.alloc (.cells #[.string sa, .string sb] 9)) (ab_seg w1) ab_may
    rw [show ab.length = 2 from rfl] at hnew
    have hrow := ab_row w1
    have hB2 := hB1.alloc hs1 (.cells #[.string sa, .string sb] 9)
    have hlt : w1.heap.size < (w1.alloc (.cells #[.string sa, .string sb] 9)).heap.size := by simp
    change Calls Try.prog 12 _ (w1.alloc (.cells #[.string sa, .string sb] 9)) _
    generalize w1.alloc (.cells #[.string sa, .string sb] 9) = W at hnew hrow hB2 hlt ⊢
    refine hnew.mono ?_
    rintro e w2 ⟨g, rfl, hf, hb2⟩
    have hrow2 : w2.rowIs w1.heap.size 9 2 abf := hrow.of_block (hb2.block _ hlt)
    have hB3 := thn' hB2 hB2.size hb2
    have hcell := hrow2.cell (i := 0) (by decide)
    have hfro := hrow2.frozen 0
    have hd := (hf.set (p := ⟨w1.heap.size, 0, none⟩) hlt (.string ⟨#[122]⟩)).dic
    have hB4 : Below w.heap.size w (w2.setCell ⟨w1.heap.size, 0, none⟩ (.string ⟨#[122]⟩)) := hB3.setCell hs1 _
    clear hrow hrow2 hB1 hB2 hB3 hb2 hnew hf
    have HD := Lib.hid hd
    have HB := Lib.hid hB4
    clear hd hB4
    have ea : extZ ab 1 = sa := rfl
    have EA := Lib.hid ea
    clear ea
    have hsa : sa.toList = [97] := by rw [Lib.toList_data]; rfl
    go_wp2_with fail
    generalize w2.setCell ⟨w1.heap.size, 0, none⟩ (.string ⟨#[122]⟩) = W3 at HD HB ⊢
    have hd := HD.out
    have hB := HB.out
    clear HD HB
    refine (len_nil' _).mono ?_
    rintro e w3 ⟨rfl, hb3⟩
    have hd3 := hd.below hb3
    have hB3 := thn hB hb3
    clear hb3 hd hB
    go_wp2_with fail
    refine (loc_nil _ _).mono ?_
    rintro e w4 ⟨rfl, hb4⟩
    have hd4 := hd3.below hb4
    have hB4 := thn hB3 hb4
    clear hb4 hd3 hB3
    go_wp2_with fail
    refine (bytes_nil _).mono ?_
    rintro e w5 ⟨rfl, hb5⟩
    have hd5 := hd4.below hb5
    have hB5 := thn hB4 hb5
    clear hb5 hd4 hB4
    go_wp2_with fail
    refine (ext_nil _ _).mono ?_
    rintro e w6 ⟨rfl, hb6⟩
    have hd6 := hd5.below hb6
    have hB6 := thn hB5 hb6
    clear hb6 hd5 hB5
    go_wp2_with fail
    refine (ext_calls g ab 1 _ hd6).mono ?_
    rw [EA.out]
    rintro e w7 ⟨rfl, rfl⟩
    go_wp2_with fail
    refine (known_calls _).mono ?_
    rintro e w8 ⟨rfl, hb8⟩
    go_wp2
    go_ret
    exact ⟨rfl, thn hB6 hb8⟩
  · go_enter Try.func11, Try.ntmps11
    go_wp2
    go_ret
    exact ⟨rfl, Below.refl _ _⟩
end Go.Proofs.Ytjnamiiiceggmaa
