/- What the document's Bytes answers. -/
import Derived.Test.YtjnamiiiceggmaaTexts
import Derived.Lib.ConvBytes
namespace Go.Proofs.Ytjnamiiiceggmaa
open Go.RowKit Go.Lib Fp

theorem bytesWorld_below (w : World) (s : ByteArray) : RowKit.Below w.heap.size w (Lib.bytesWorld w 5 s) :=
  ⟨rfl, rfl, rfl, by rw [Lib.bytesWorld_size]; omega, fun i hi => Lib.bytesWorld_at_old w 5 s i hi⟩
theorem bytesWorld_seg (w : World) (s : ByteArray) : Seg (Lib.bytesWorld w 5 s) (some ⟨w.heap.size, 0, none⟩) s.size (bys s.data.toList) := by
  refine ⟨bys_len _, fun _ => ⟨_, rfl, fun j u hu => ?_⟩⟩
  have hj : j < s.size := by have := (List.getElem?_eq_some_iff.1 hu).1; rw [bys_len, Array.length_toList] at this; exact this
  rw [add_zero', Lib.bytesWorld_cell w 5 s j hj, ← hu]
  unfold bys
  rw [List.getElem?_map, List.getElem?_eq_getElem (by rw [Array.length_toList]; exact hj), List.getD_eq_getElem?_getD, List.getElem?_eq_getElem (by rw [Array.length_toList]; exact hj)]
  rfl
theorem run_conv (w : World) (s : ByteArray) : (convert 9 23 (.string s)).run Try.prog w = .ok (.slice (some ⟨w.heap.size, 0, none⟩) s.size (grownCap w s.size 0 5)) (Lib.bytesWorld w 5 s) :=
  Lib.run_convert_string_bytes w 9 23 5 s Try.underlying9 Try.underlying23 Try.underlying5

theorem hd3 {n : Nat} (h : n ≤ 300) : ((UInt8.ofNat (n / 256)).toNat : Int) = (n : Int) / 256 := by
  rw [UInt8.toNat_ofNat']; omega
theorem hd4 (n : Nat) : ((UInt8.ofNat n).toNat : Int) = (n : Int) % 256 := by
  rw [UInt8.toNat_ofNat']; omega
theorem ext_all (s : ByteArray) : s.extract 0 s.size = s := by
  rw [ba_eq, ByteArray.data_extract, Array.toList_extract]
  simp only [List.extract_eq_take_drop, List.drop_zero, Nat.sub_zero]
  rw [List.take_of_length_le]
  rw [Array.length_toList]
  exact Nat.le_refl _

set_option maxHeartbeats 2000000 in
set_option maxRecDepth 100000 in
theorem refBytes_calls (A : Option Addr) (c : Nat) (l : List ByteArray) (w : World) (h : Seg w A l.length (sts l)) (hm : May l) :
    Calls Try.prog 25 #[.slice A l.length c] w fun e w' => ∃ v, e = .returned v ∧ w'.ownsRow w.heap.size 5 1 v (enc (tx l)).length (bys (enc (tx l))) ∧ Below w.heap.size w w' := by
  have hlen := hm.1
  have HS := Lib.hid h
  have HM := Lib.hid hm
  have hst := BSt.start w w l (Below.refl _ _) (Nat.le_refl _)
  rw [hd3 hlen, hd4] at hst
  have HST := Lib.hid hst
  clear h hm hst
  obtain ⟨i0, hi, hz0, hz1, hz2⟩ := info_parts info5
  have hcv : ∀ (w : World) (s : ByteArray), (convert 9 23 (.string s)).run Try.prog w = .ok (.slice (some ⟨w.heap.size, 0, none⟩) s.size (grownCap w s.size 0 5)) (Lib.bytesWorld w 5 s) := run_conv
  go_enter Try.func25, Try.ntmps25
  go_wp2
  generalize w.alloc (.cells #[.int .u8 ((l.length : Int) / 256), .int .u8 ((l.length : Int) % 256)] 5) = W0 at HST ⊢
  go_loopw [3, 4] (fun v i wr => ∃ (k : Nat) (acc : List UInt8), k ≤ l.length ∧ i = .int .i64 k ∧ BSt w wr l k v acc) (fun _ i _ => l.length - (intOf i).toNat)
  case atStart => exact ⟨0, _, Nat.zero_le _, rfl, HST.out⟩
  case round =>
    obtain ⟨k, acc, hk, rfl, hst⟩ := hrel
    by_cases hlt : k < l.length
    · obtain ⟨ad, rfl, hc⟩ := (HS.out.below hst.below).str hlt
      obtain ⟨_, hs1, hs2, _⟩ := HM.out.2 k hlt
      have hal := hst.len
      have hrs := hst.below.size
      have HST1 := Lib.hid hst
      by_cases hm : k % 4 = 0
      · have hmb : (((k : Int) % 4) != 0) = false := bne_eq_false_iff_eq.2 (by omega)
        have HE : Hid (bys (ent k (prv l k) l[k].data.toList) = [.int .u8 0, .int .u8 (l[k].size : Int)] ++ bys l[k].data.toList) := by
          have h := bys_ent k 0 (prv l k) l[k] (by unfold com; rw [if_pos hm]) hs2
          show bys (ent k (prv l k) l[k].data.toList) = [.int .u8 0, .int .u8 (l[k].size : Int)] ++ bys l[k].data.toList
          simpa [strCells, bys] using h
        have HSTEP : Hid (∀ w2 v', w2.ownsRow w.heap.size 5 1 v' (acc ++ ent k (prv l k) l[k].data.toList).length (bys (acc ++ ent k (prv l k) l[k].data.toList)) → Below w.heap.size w w2 → BSt w w2 l (k + 1) v' (acc ++ ent k (prv l k) l[k].data.toList)) := fun w2 v' h1 h2 => hst.step hlt hs2 h1 h2
        have HL : Hid ((ent k (prv l k) l[k].data.toList).length = 2 + l[k].size) := by
          show (ent k (prv l k) l[k].data.toList).length = 2 + l[k].size
          rw [ent_len]; unfold com; rw [if_pos hm]; rfl
        have HCC : Hid (∀ W, Below w.heap.size w W → W.cell? (ad.add k) = some (.string l[k])) := fun W hW => by
          obtain ⟨ad', e, h⟩ := (HS.out.below hW).str hlt
          cases e; exact h
        clear hst hm
        generalize ent k (prv l k) l[k].data.toList = E at HE HSTEP HL
        generalize l[k] = s at hc hs1 hs2 HE HL HCC
        have hr0 := ext_all s
        go_wp2_with (at_builtin; refine wpList_append_own _ rfl (.tmp 33) (.tmp 44) 23 rfl w.heap.size 5 i0 (.int .u8 0) 1 1 Try.underlying23 hi hz0 hz1 hz2 rfl (by decide) _ acc.length (bys acc) rfl (HST1.out.own.alloc _) ⟨wr.heap.size, 0, none⟩ 2 2 [.int .u8 0, .int .u8 (s.size : Int)] rfl rfl ?c1 ?c2 ?c3 ?c4 ?c5 ?_)
        case c1 => exact fun j u hj => by rw [add_zero']; exact cells_new wr _ 5 j u hj
        case c2 => intro u hu; simp at hu; rcases hu with rfl | rfl <;> rfl
        case c3 => unfold maxLen; omega
        case c4 => omega
        case c5 => simp; omega
        intro v1 w3 hown1 hg1 _
        have hb3 : Below w.heap.size w w3 := (HST1.out.below.alloc hrs _).grown hg1 (by simp; omega) (fun j hj => (HST1.out.own.lt j hj).1)
        have hrs3 := hb3.size
        have hc3 := HCC.out w3 hb3
        go_wp2_with (at_builtin; refine wpList_append_seg _ rfl (.tmp 46) (.tmp 53) 23 rfl w.heap.size 5 i0 (.int .u8 0) 1 Try.underlying23 hi hz0 hz1 hz2 rfl v1 (acc.length + 2) (bys acc ++ [.int .u8 0, .int .u8 (s.size : Int)]) rfl (own_below hown1 (bytesWorld_below w3 s)) (some ⟨w3.heap.size, 0, none⟩) s.size _ (bys s.data.toList) rfl (bytesWorld_seg w3 s) (bys_one _) ?d1 ?d2 ?d3 ?_)
        case d1 => unfold maxLen; omega
        case d2 => omega
        case d3 => rw [Lib.bytesWorld_size]; omega
        intro v2 w4 hown2 hg2
        have hb4 : Below w.heap.size w w4 := (thn' hb3 hrs3 (bytesWorld_below w3 s)).grown hg2 (by rw [Lib.bytesWorld_size]; omega) (fun j hj => (hown1.lt j hj).1)
        have hnext := HSTEP.out w4 v2 (by
          rw [bys_app, HE.out, List.length_append, HL.out]
          rw [Nat.add_assoc] at hown2
          exact hown2) hb4
        have HNEXT := Lib.hid hnext
        clear hnext hown1 hown2 hg1 hg2 hb3 hb4
        go_wp2
        go_roundw
        case rel => exact ⟨k + 1, _, by omega, by go_num, HNEXT.out⟩
        case measure => simp [intOf]; omega
      · have hmb : (((k : Int) % 4) != 0) = true := by rw [bne_iff_ne]; omega
        have hk0 : 0 < k := by omega
        obtain ⟨ad', e, hc'⟩ := (HS.out.below HST1.out.below).str (k := k - 1) (by omega)
        cases e
        have hcall := fun W => refShared_calls l[k - 1] l[k] W (by
          obtain ⟨_, _, h250, _⟩ := HM.out.2 (k - 1) (by omega)
          omega)
        obtain ⟨n, hn⟩ : ∃ n, com k (prv l k) l[k].data.toList = n := ⟨_, rfl⟩
        have hnc : shr l[k - 1].data.toList l[k].data.toList = n := by
          rw [← hn, prv_at l k (by omega)]; unfold com; rw [if_neg hm]
        rw [hnc] at hcall
        have hnle : n ≤ l[k].size := by
          have := (com_le k (prv l k) l[k].data.toList).2
          rw [hn, Array.length_toList] at this
          exact this
        have HE : Hid (bys (ent k (prv l k) l[k].data.toList) = [.int .u8 (n : Int), .int .u8 ((l[k].size : Int) - (n : Int))] ++ bys (l[k].extract n l[k].size).data.toList) := by
          have h := bys_ent k n (prv l k) l[k] hn hs2
          show bys (ent k (prv l k) l[k].data.toList) = [.int .u8 (n : Int), .int .u8 ((l[k].size : Int) - (n : Int))] ++ bys (l[k].extract n l[k].size).data.toList
          rw [h]; rfl
        have HSTEP : Hid (∀ w2 v', w2.ownsRow w.heap.size 5 1 v' (acc ++ ent k (prv l k) l[k].data.toList).length (bys (acc ++ ent k (prv l k) l[k].data.toList)) → Below w.heap.size w w2 → BSt w w2 l (k + 1) v' (acc ++ ent k (prv l k) l[k].data.toList)) := fun w2 v' h1 h2 => hst.step hlt hs2 h1 h2
        have HL : Hid ((ent k (prv l k) l[k].data.toList).length = 2 + (l[k].size - n)) := by
          show (ent k (prv l k) l[k].data.toList).length = 2 + (l[k].size - n)
          rw [ent_len, hn]; rfl
        have HCALL := Lib.hid hcall
        have HCC : Hid (∀ W, Below w.heap.size w W → W.cell? (ad.add k) = some (.string l[k])) := fun W hW => by
          obtain ⟨ad', e, h⟩ := (HS.out.below hW).str hlt
          cases e; exact h
        have hi1 : (0 : Int) ≤ (k : Int) - 1 := by omega
        have hi2 : (k : Int) - 1 < (l.length : Int) := by omega
        clear hst hm hn hnc hcall
        generalize ent k (prv l k) l[k].data.toList = E at HE HSTEP HL
        generalize l[k] = s at hc hs1 hs2 HE HL HCALL hnle HCC
        generalize l[k - 1] = p0 at hc' HCALL
        obtain ⟨r, hr⟩ : ∃ r, s.extract n s.size = r := ⟨_, rfl⟩
        have hrz : r.size = s.size - n := by rw [← hr]; exact strCells_cut s n
        rw [hr] at HE
        have hr250 : r.size ≤ 250 := by rw [hrz]; omega
        have HRZ := Lib.hid hrz
        clear hrz
        go_wp2
        go_quiet ((go_at_call 36; exact Calls.quiet_of (HCALL.out _)))
        rename_i nq
        go_wp2_with (at_builtin; refine wpList_append_own _ rfl (.tmp 33) (.tmp 44) 23 rfl w.heap.size 5 i0 (.int .u8 0) 1 1 Try.underlying23 hi hz0 hz1 hz2 rfl (by decide) _ acc.length (bys acc) rfl ((HST1.out.own.drewN nq).alloc _) ⟨wr.heap.size, 0, none⟩ 2 2 [.int .u8 (n : Int), .int .u8 ((s.size : Int) - (n : Int))] rfl rfl ?cc1 ?cc2 ?cc3 ?cc4 ?cc5 ?_)
        case cc1 => exact fun j u hj => by rw [add_zero']; exact cells_new (wr.drewN nq) _ 5 j u hj
        case cc2 => intro u hu; simp at hu; rcases hu with rfl | rfl <;> rfl
        case cc3 => unfold maxLen; omega
        case cc4 => omega
        case cc5 => simp; omega
        intro v1 w3 hown1 hg1 _
        have hb3 : Below w.heap.size w w3 := ((below_drewN' HST1.out.below nq).alloc hrs _).grown hg1 (by simp; omega) (fun j hj => (HST1.out.own.lt j hj).1)
        have hrs3 := hb3.size
        have hc3 := HCC.out w3 hb3
        go_wp2_with (at_builtin; refine wpList_append_seg _ rfl (.tmp 46) (.tmp 53) 23 rfl w.heap.size 5 i0 (.int .u8 0) 1 Try.underlying23 hi hz0 hz1 hz2 rfl v1 (acc.length + 2) (bys acc ++ [.int .u8 (n : Int), .int .u8 ((s.size : Int) - (n : Int))]) rfl (own_below hown1 (bytesWorld_below w3 r)) (some ⟨w3.heap.size, 0, none⟩) r.size _ (bys r.data.toList) rfl (bytesWorld_seg w3 r) (bys_one _) ?dd1 ?dd2 ?dd3 ?_)
        case dd1 => unfold maxLen; omega
        case dd2 => omega
        case dd3 => rw [Lib.bytesWorld_size]; omega
        intro v2 w4 hown2 hg2
        have hb4 : Below w.heap.size w w4 := (thn' hb3 hrs3 (bytesWorld_below w3 r)).grown hg2 (by rw [Lib.bytesWorld_size]; omega) (fun j hj => (hown1.lt j hj).1)
        have hnext := HSTEP.out w4 v2 (by
          rw [bys_app, HE.out, List.length_append, HL.out, ← HRZ.out]
          rw [Nat.add_assoc] at hown2
          exact hown2) hb4
        have HNEXT := Lib.hid hnext
        clear hnext hown1 hown2 hg1 hg2 hb3 hb4
        go_wp2
        go_roundw
        case rel => exact ⟨k + 1, _, by omega, by go_num, HNEXT.out⟩
        case measure => simp [intOf]; omega
    · have hkl : k = l.length := by omega
      have HE : Hid (acc = enc (tx l)) := by
        have := hst.eq
        rw [hkl, List.drop_of_length_le (by rw [tx_len]; exact Nat.le_refl _)] at this
        show acc = enc (tx l)
        rw [← this]
        show acc = acc ++ []
        simp
      have HST1 := Lib.hid hst
      clear hst hkl
      go_wp2
      go_ret
      exact ⟨_, rfl, by rw [← HE.out]; exact HST1.out.own, HST1.out.below⟩
end Go.Proofs.Ytjnamiiiceggmaa
