/- The known Dict of two texts answers as it should; bytes as a string. -/
import Derived.Test.YtjnamiiiceggmaaAsk
namespace Go.Proofs.Ytjnamiiiceggmaa
open Go.RowKit Go.Lib Fp

/-- bytes as a string -/
def str (l : List UInt8) : ByteArray := ⟨l.toArray⟩
theorem str_data (l : List UInt8) : (str l).data.toList = l := by simp [str]
theorem str_of (s : ByteArray) : str s.data.toList = s := rfl
theorem nums_str (l : List UInt8) : strOfNums (l.map fun b => (b.toNat : Int)) = str l := by
  unfold strOfNums str
  congr 1
  rw [List.map_map]
  congr 1
  conv => rhs; rw [← List.map_id l]
  apply List.map_congr_left
  intro b _
  simp
theorem conv_seg (w : World) (A : Option Addr) (n c : Nat) (l : List UInt8) (h : Seg w A n (bys l)) : (convert 23 9 (.slice A n c)).run Try.prog w = .ok (.string (str l)) w := by
  rcases Nat.eq_zero_or_pos n with h0 | h0
  · subst h0
    obtain rfl : l = [] := by
      have := h.len
      rw [bys_len] at this
      exact List.eq_nil_of_length_eq_zero this
    cases A with
    | none => exact run_convert_bytes_nil (P := Try.prog) w 23 5 Try.underlying23 Try.underlying5 0 c 9 Try.underlying9
    | some ad =>
      rw [run_convert_bytes_string w 23 9 5 _ 0 c Try.underlying23 Try.underlying5 Try.underlying9]
      simp [Conv.bytesToString, loadCells]
      rfl
  · obtain ⟨⟨b, off, sp⟩, e, hc⟩ := h.cell h0
    have hlen : l.length = n := by rw [← bys_len]; exact h.len
    obtain rfl : sp = none := by
      have := hc 0 _ (List.getElem?_eq_getElem (by rw [bys_len]; omega))
      simpa [Addr.add] using World.cell?_spot this
    subst e
    rw [← nums_str]
    refine run_convert_bytes_arg (P := Try.prog) w 23 5 Try.underlying23 Try.underlying5 b off n c (l.map fun b => (b.toNat : Int)) (by simpa using hlen) ?_ 9 Try.underlying9
    intro j hj
    have := hc j (.int .u8 ((l[j]'(by omega)).toNat : Int)) (by simp [bys, hlen, hj])
    rw [WideShapes.add_plain] at this
    rw [this]
    simp [List.getD, hlen, hj]

def sab : ByteArray := ⟨#[97, 98]⟩
def sac : ByteArray := ⟨#[97, 99]⟩
def kn : List ByteArray := [sab, sac]
theorem kn_may : May kn := by
  refine ⟨by decide, fun i hi => ?_⟩
  match i, hi with
  | 0, _ => exact ⟨by decide, by decide, by decide, fun h => absurd h (by decide)⟩
  | 1, _ => exact ⟨by decide, by decide, by decide, fun _ => by
      show Op.bytesLess sab.toList sac.toList = true
      rw [Lib.toList_data, Lib.toList_data]; decide⟩
theorem kn_enc : enc (tx kn) = [0, 2, 0, 2, 97, 98, 1, 1, 99] := by decide
theorem kn_loc : loc (tx kn) sac.data.toList = 2 := by decide
theorem kn_seg (w : World) : Seg (w.alloc (.cells #[.string sab, .string sac] 9)) (some ⟨w.heap.size, 0, none⟩) kn.length (sts kn) := by
  refine ⟨rfl, fun _ => ⟨_, rfl, fun j u hu => ?_⟩⟩
  rw [add_zero']
  exact cells_new w _ 9 j u hu

set_option maxHeartbeats 1000000 in
theorem known_calls (w : World) : Calls Try.prog 14 #[] w fun e w' => e = .returned (.bool true) ∧ Below w.heap.size w w' := by
  have hnew := new_yes (some ⟨w.heap.size, 0, none⟩) 2 kn (w.alloc (.cells #[.string sab, .string sac] 9)) (kn_seg w) kn_may
  rw [show kn.length = 2 from rfl] at hnew
  have HN := Lib.hid hnew
  clear hnew
  go_enter Try.func14, Try.ntmps14
  go_wp2_with fail
  refine HN.out.mono ?_
  rintro e w1 ⟨g, rfl, _, hd1, hb1⟩
  go_wp2_with fail
  refine (bytes_calls g kn _ hd1).mono ?_
  rintro e w2 ⟨v, rfl, hown, hb2⟩
  have hown' : w2.ownsRow w1.heap.size 5 1 v 9 (bys [0, 2, 0, 2, 97, 98, 1, 1, 99]) := by rw [kn_enc] at hown; exact hown
  obtain ⟨A, c, rfl⟩ := own_form hown'
  have hcv := conv_seg w2 A 9 c _ (Seg.of_own hown')
  rw [show str [0, 2, 0, 2, 97, 98, 1, 1, 99] = ⟨#[0, 2, 0, 2, 97, 98, 1, 1, 99]⟩ from rfl] at hcv
  have hd2 := hd1.below hb2
  clear hown hown'
  go_wp2_with fail
  refine (locate_calls g kn sac _ hd2).mono ?_
  rw [kn_loc]
  rintro e w3 ⟨rfl, q, rfl⟩
  go_wp2
  go_ret
  exact ⟨rfl, below_drewN' (thn (thn ((Below.refl _ w).alloc (Nat.le_refl _) _) hb1) hb2) q⟩
end Go.Proofs.Ytjnamiiiceggmaa
