/- What Bytes of a Dict writes. -/
import Derived.Test.YtjnamiiiceggmaaNew
import Derived.StillTailTactics
namespace Go.Proofs.Ytjnamiiiceggmaa
open Go.RowKit Go.Lib Fp

/-- the texts as bytes -/
def tx (l : List ByteArray) : List (List UInt8) := l.map fun s => s.data.toList
theorem tx_len (l : List ByteArray) : (tx l).length = l.length := by simp [tx]

theorem tx_get (l : List ByteArray) (k : Nat) (h : k < l.length) : (tx l)[k]'(by rw [tx_len]; exact h) = l[k].data.toList := by simp [tx]
theorem tx_drop (l : List ByteArray) (k : Nat) (h : k < l.length) : (tx l).drop k = l[k].data.toList :: (tx l).drop (k + 1) := by
  rw [List.drop_eq_getElem_cons (by rw [tx_len]; exact h), tx_get l k h]
/-- the text ahead of text k -/
def prv (l : List ByteArray) (k : Nat) : List UInt8 := (l.getD (k - 1) ByteArray.empty).data.toList
theorem prv_at (l : List ByteArray) (k : Nat) (h : k - 1 < l.length) : prv l k = l[k - 1].data.toList := by
  unfold prv; rw [← List.getElem_eq_getD]
theorem ent_prev (k : Nat) (p q s : List UInt8) (h : k % 4 = 0) : ent k p s = ent k q s := by
  unfold ent com; rw [if_pos h, if_pos h]
theorem hd1 (n : Nat) : IntKind.u8.wrap (IntKind.i64.wrap ((n : Int) / 256)) = ((UInt8.ofNat (n / 256)).toNat : Int) := by
  rw [IntKind.wrap_u8, IntKind.wrap_i64, UInt8.toNat_ofNat']; omega
theorem hd2 (n : Nat) : IntKind.u8.wrap ((n : Int).tmod 256) = ((UInt8.ofNat n).toNat : Int) := by
  rw [IntKind.wrap_u8, Int.tmod_eq_emod_of_nonneg (by omega), UInt8.toNat_ofNat']; omega
theorem bys_ent (k n : Nat) (p : List UInt8) (s : ByteArray) (hn : com k p s.data.toList = n) (hs : s.size ≤ 250) :
    bys (ent k p s.data.toList) = [.int .u8 (n : Int), .int .u8 ((s.size : Int) - (n : Int))] ++ strCells (s.extract n s.size) := by
  have hle := (com_le k p s.data.toList).2
  rw [hn, Array.length_toList] at hle
  have hle' : n ≤ s.size := hle
  have e3 : (s.extract n s.size).data.toList = s.data.toList.drop n := by
    rw [ByteArray.data_extract, Array.toList_extract]
    simp only [List.extract_eq_take_drop]
    rw [List.take_of_length_le]
    rw [List.length_drop, Array.length_toList]
    exact Nat.le_refl _
  unfold ent strCells
  rw [hn, e3]
  have e1 : ((UInt8.ofNat n).toNat : Int) = (n : Int) := by rw [UInt8.toNat_ofNat']; omega
  have e2 : ((UInt8.ofNat (s.data.toList.length - n)).toNat : Int) = (s.size : Int) - (n : Int) := by
    rw [Array.length_toList, UInt8.toNat_ofNat']
    show (((s.size - n) % 2 ^ 8 : Nat) : Int) = _
    omega
  show Value.int .u8 ((UInt8.ofNat n).toNat : Int) :: Value.int .u8 ((UInt8.ofNat (s.data.toList.length - n)).toNat : Int) :: bys (s.data.toList.drop n) = _
  rw [e1, e2]; rfl
theorem _root_.Go.World.ownsRow.drewN {w : World} {base : Nat} {e : TypeId} {size : Nat} {v : Value} {n : Nat} {xs : List Value} (h : w.ownsRow base e size v n xs) (k : Nat) : (w.drewN k).ownsRow base e size v n xs := own_below h ⟨rfl, rfl, rfl, Nat.le_refl _, fun _ _ => rfl⟩
theorem cells_new (W : World) (cs : Array Value) (t : TypeId) (j : Nat) (u : Value) (h : cs.toList[j]? = some u) : (W.alloc (.cells cs t)).cell? ⟨W.heap.size, j, none⟩ = some u := by
  rw [cell_of_row _ W.heap.size j cs t (0, 0) (heap_alloc_new W _)]
  simpa using h
theorem strCells_cut (s : ByteArray) (n : Nat) : (s.extract n s.size).size = s.size - n := by
  simp [ByteArray.size_extract]

/-- What the loop of Bytes holds to behind k texts. -/
structure BSt (w wr : World) (l : List ByteArray) (k : Nat) (v : Value) (acc : List UInt8) : Prop where
  own : wr.ownsRow w.heap.size 5 1 v acc.length (bys acc)
  below : Below w.heap.size w wr
  eq : acc ++ encF k (prv l k) ((tx l).drop k) = enc (tx l)
  len : acc.length ≤ 2 + 252 * k
theorem BSt.start (w w2 : World) (l : List ByteArray) (hb : Below w.heap.size w w2) (hs : w.heap.size ≤ w2.heap.size) :
    BSt w (w2.alloc (.cells #[.int .u8 ((UInt8.ofNat (l.length / 256)).toNat : Int), .int .u8 ((UInt8.ofNat l.length).toNat : Int)] 5)) l 0 (.slice (some ⟨w2.heap.size, 0, none⟩) 2 2) [UInt8.ofNat (l.length / 256), UInt8.ofNat l.length] := by
  refine ⟨⟨rfl, .inr ⟨w2.heap.size, 2, _, rfl, hs, heap_alloc_new w2 _, Nat.le_refl _, by decide, rfl, rfl⟩⟩, hb.alloc hs _, ?_, by simp⟩
  have : ∀ X : List (List UInt8), encF 0 (prv l 0) X = encF 0 [] X := by
    intro X
    cases X with
    | nil => rfl
    | cons s r => show ent 0 _ s ++ _ = ent 0 _ s ++ _; rw [ent_prev 0 (prv l 0) [] s rfl]
  rw [this]
  unfold enc
  rw [tx_len]; rfl
/-- One more text. -/
theorem BSt.step {w wr w2 : World} {l : List ByteArray} {k : Nat} {v v' : Value} {acc : List UInt8} (h : BSt w wr l k v acc) (hk : k < l.length) (hs : l[k].size ≤ 250)
    (hown : w2.ownsRow w.heap.size 5 1 v' (acc ++ ent k (prv l k) l[k].data.toList).length (bys (acc ++ ent k (prv l k) l[k].data.toList))) (hb : Below w.heap.size w w2) :
    BSt w w2 l (k + 1) v' (acc ++ ent k (prv l k) l[k].data.toList) := by
  refine ⟨hown, hb, ?_, ?_⟩
  · rw [← h.eq, tx_drop l k hk, List.append_assoc]
    show acc ++ (ent k (prv l k) l[k].data.toList ++ _) = acc ++ (ent k (prv l k) l[k].data.toList ++ encF (k + 1) l[k].data.toList _)
    rw [prv_at l (k + 1) (by omega)]
    rfl
  · have h1 := h.len
    have h2 := ent_le k (prv l k) l[k].data.toList
    have h3 : l[k].data.toList.length = l[k].size := Array.length_toList
    rw [List.length_append]; omega

set_option maxHeartbeats 2000000 in
set_option maxRecDepth 100000 in
theorem bytes_calls (g : Nat) (l : List ByteArray) (w : World) (h : Dic w g l) :
    Calls Try.prog 13 #[.pointer (some ⟨g, 0, none⟩)] w fun e w' => ∃ v, e = .returned v ∧ w'.ownsRow w.heap.size 5 1 v (enc (tx l)).length (bys (enc (tx l))) ∧ Below w.heap.size w w' := by
  obtain ⟨A, c, hb, hs⟩ := h.ex
  have k0 : w.cell? ⟨g, 0, none⟩ = some (.slice A l.length c) := by rw [cell_of_row w g 0 _ 51 (0, 0) hb]; rfl
  have hlen := h.may.1
  have hlt := h.lt
  have HS := Lib.hid hs
  have HM := Lib.hid h.may
  clear hs h hb
  go_enter Try.func13, Try.ntmps13
  go_wp2
  go_still_tail 14, (by kernel_rfl)
  rw [hd1 l.length, hd2 l.length]
  have hst0 := fun w2 hb hs => BSt.start w w2 l hb hs
  generalize ((UInt8.ofNat (l.length / 256)).toNat : Int) = p at hst0 ⊢
  generalize ((UInt8.ofNat l.length).toNat : Int) = q at hst0 ⊢
  change wpList _ _ _ _ _ w.drew
  have hbel : Below w.heap.size w w.drew := (Below.refl _ _).drew
  have hk2 : w.drew.cell? ⟨g, 0, none⟩ = some (.slice A l.length c) := k0
  generalize w.drew = w2 at hbel hk2 ⊢
  have hs2 := hbel.size
  have hst := hst0 w2 hbel hs2
  clear hst0
  have hka : (w2.alloc (.cells #[.int .u8 p, .int .u8 q] 5)).cell? ⟨g, 0, none⟩ = some (.slice A l.length c) := by
    rw [World.cell?_alloc_past _ _ _ (by show g < w2.heap.size; omega)]; exact hk2
  have HST := Lib.hid hst
  clear hst
  go_wp2
  generalize (w2.alloc (.cells #[.int .u8 p, .int .u8 q] 5)) = W0 at HST hka ⊢
  obtain ⟨i0, hi, hz0, hz1, hz2⟩ := info_parts info5
  clear hka hk2 hbel hs2
  rename g < w.heap.size => hgl
  go_loopw [3, 29] (fun v i wr => ∃ (k : Nat) (acc : List UInt8), k ≤ l.length ∧ i = .int .i64 k ∧ BSt w wr l k v acc) (fun _ i _ => l.length - (intOf i).toNat)
  case atStart => exact ⟨0, _, Nat.zero_le _, rfl, HST.out⟩
  case round =>
    obtain ⟨k, acc, hk, rfl, hst⟩ := hrel
    by_cases hlt : k < l.length
    · obtain ⟨ad, rfl, hc⟩ := (HS.out.below hst.below).str hlt
      have k1 : wr.cell? ⟨g, 0, none⟩ = some (.slice (some ad) l.length c) := (hst.below.cell (p := ⟨g, 0, none⟩) hgl).trans k0
      obtain ⟨_, hs1, hs2, _⟩ := HM.out.2 k hlt
      have hal := hst.len
      have hrs := hst.below.size
      have HST1 := Lib.hid hst
      by_cases hm : k % 4 = 0
      · have hmb : (((k : Int) % 4) != 0) = false := bne_eq_false_iff_eq.2 (by omega)
        have HE : Hid (bys (ent k (prv l k) l[k].data.toList) = [.int .u8 0, .int .u8 (l[k].size : Int)] ++ strCells l[k]) := by
          have h := bys_ent k 0 (prv l k) l[k] (by unfold com; rw [if_pos hm]) hs2
          show bys (ent k (prv l k) l[k].data.toList) = [.int .u8 0, .int .u8 (l[k].size : Int)] ++ strCells l[k]
          simpa using h
        have HSTEP : Hid (∀ w2 v', w2.ownsRow w.heap.size 5 1 v' (acc ++ ent k (prv l k) l[k].data.toList).length (bys (acc ++ ent k (prv l k) l[k].data.toList)) → Below w.heap.size w w2 → BSt w w2 l (k + 1) v' (acc ++ ent k (prv l k) l[k].data.toList)) := fun w2 v' h1 h2 => hst.step hlt hs2 h1 h2
        have HL : Hid ((ent k (prv l k) l[k].data.toList).length = 2 + l[k].size) := by
          show (ent k (prv l k) l[k].data.toList).length = 2 + l[k].size
          rw [ent_len]; unfold com; rw [if_pos hm]; rfl
        clear hst hm
        generalize ent k (prv l k) l[k].data.toList = E at HE HSTEP HL
        generalize l[k] = s at hc hs1 hs2 HE HL
        go_wp2_with (at_builtin; refine wpList_append_own _ rfl (.tmp 47) (.tmp 55) 23 rfl w.heap.size 5 i0 (.int .u8 0) 1 1 Try.underlying23 hi hz0 hz1 hz2 rfl (by decide) _ acc.length (bys acc) rfl (HST1.out.own.alloc _) ⟨wr.heap.size, 0, none⟩ 2 2 [.int .u8 0, .int .u8 (s.size : Int)] rfl rfl ?c1 ?c2 ?c3 ?c4 ?c5 ?_)
        case c1 => intro j u hj; match j, hj with | 0, hj => simp at hj; subst hj; simp [Addr.add] | 1, hj => simp at hj; subst hj; simp [Addr.add]
        case c2 => intro u hu; simp at hu; rcases hu with rfl | rfl <;> rfl
        case c3 => unfold maxLen; omega
        case c4 => omega
        case c5 => simp; omega
        intro v1 w3 hown1 hg1 _
        have hb3 : Below w.heap.size w w3 := (HST1.out.below.alloc hrs _).grown hg1 (by simp; omega) (fun j hj => (HST1.out.own.lt j hj).1)
        have hrs3 := hb3.size
        go_wp2_with (at_builtin; refine wpList_append_own_string _ rfl (.tmp 57) (.tmp 60) 23 9 rfl w.heap.size 5 i0 Try.underlying23 Try.underlying9 hi hz0 hz1 hz2 v1 (acc.length + 2) (bys acc ++ [.int .u8 0, .int .u8 (s.size : Int)]) rfl hown1 s rfl ?d1 ?d2 ?d3 ?_)
        case d1 => unfold maxLen; omega
        case d2 => omega
        case d3 => exact hrs3
        intro v2 w4 hown2 hg2 _
        have hb4 : Below w.heap.size w w4 := hb3.grown hg2 hrs3 (fun j hj => (hown1.lt j hj).1)
        have hnext := HSTEP.out w4 v2 (by
          rw [bys_app, HE.out, List.length_append, HL.out]
          rw [Nat.add_assoc] at hown2
          exact hown2) hb4
        have HNEXT := Lib.hid hnext
        clear hnext hown1 hown2 hg1 hg2 hb3 hb4
        go_wp2
        go_roundw
        case rel => exact ⟨k + 1, _, by omega, by go_num, HNEXT.out⟩
        case measure => simp [intOf]; omega
      · have hmb : (((k : Int) % 4) != 0) = true := by rw [bne_iff_ne]; omega
        have hk0 : 0 < k := by omega
        obtain ⟨ad', e, hc'⟩ := (HS.out.below HST1.out.below).str (k := k - 1) (by omega)
        cases e
        have hcall := fun W => shared_calls l[k - 1] l[k] W (by
          obtain ⟨_, _, h250, _⟩ := HM.out.2 (k - 1) (by omega)
          omega)
        obtain ⟨n, hn⟩ : ∃ n, com k (prv l k) l[k].data.toList = n := ⟨_, rfl⟩
        have hnc : shr l[k - 1].data.toList l[k].data.toList = n := by
          rw [← hn, prv_at l k (by omega)]; unfold com; rw [if_neg hm]
        rw [hnc] at hcall
        have hnle : n ≤ l[k].size := by
          have := (com_le k (prv l k) l[k].data.toList).2
          rw [hn, Array.length_toList] at this
          exact this
        have HE : Hid (bys (ent k (prv l k) l[k].data.toList) = [.int .u8 (n : Int), .int .u8 ((l[k].size : Int) - (n : Int))] ++ strCells (l[k].extract n l[k].size)) := bys_ent k n (prv l k) l[k] hn hs2
        have HSTEP : Hid (∀ w2 v', w2.ownsRow w.heap.size 5 1 v' (acc ++ ent k (prv l k) l[k].data.toList).length (bys (acc ++ ent k (prv l k) l[k].data.toList)) → Below w.heap.size w w2 → BSt w w2 l (k + 1) v' (acc ++ ent k (prv l k) l[k].data.toList)) := fun w2 v' h1 h2 => hst.step hlt hs2 h1 h2
        have HL : Hid ((ent k (prv l k) l[k].data.toList).length = 2 + (l[k].size - n)) := by
          show (ent k (prv l k) l[k].data.toList).length = 2 + (l[k].size - n)
          rw [ent_len, hn]; rfl
        have HCALL := Lib.hid hcall
        clear hst hm hn hnc hcall
        generalize ent k (prv l k) l[k].data.toList = E at HE HSTEP HL
        generalize l[k] = s at hc hs1 hs2 HE HL HCALL hnle
        generalize l[k - 1] = p0 at hc' HCALL
        go_wp2_with fail
        refine (HCALL.out _).mono ?_
        rintro e w' ⟨rfl, nq, rfl⟩
        go_wp2_with (at_builtin; refine wpList_append_own _ rfl (.tmp 47) (.tmp 55) 23 rfl w.heap.size 5 i0 (.int .u8 0) 1 1 Try.underlying23 hi hz0 hz1 hz2 rfl (by decide) _ acc.length (bys acc) rfl ((HST1.out.own.drewN nq).alloc _) ⟨wr.heap.size, 0, none⟩ 2 2 [.int .u8 (n : Int), .int .u8 ((s.size : Int) - (n : Int))] rfl rfl ?cc1 ?cc2 ?cc3 ?cc4 ?cc5 ?_)
        case cc1 => exact fun j u hj => by rw [add_zero']; exact cells_new (wr.drewN nq) _ 5 j u hj
        case cc2 => intro u hu; simp at hu; rcases hu with rfl | rfl <;> rfl
        case cc3 => unfold maxLen; omega
        case cc4 => omega
        case cc5 => simp; omega
        intro v1 w3 hown1 hg1 _
        have hb3 : Below w.heap.size w w3 := ((below_drewN' HST1.out.below nq).alloc hrs _).grown hg1 (by simp; omega) (fun j hj => (HST1.out.own.lt j hj).1)
        have hrs3 := hb3.size
        go_wp2_with (at_builtin; refine wpList_append_own_string _ rfl (.tmp 57) (.tmp 60) 23 9 rfl w.heap.size 5 i0 Try.underlying23 Try.underlying9 hi hz0 hz1 hz2 v1 (acc.length + 2) (bys acc ++ [.int .u8 (n : Int), .int .u8 ((s.size : Int) - (n : Int))]) rfl hown1 (s.extract n s.size) rfl ?dd1 ?dd2 ?dd3 ?_)
        case dd1 => rw [strCells_cut]; unfold maxLen; omega
        case dd2 => rw [strCells_cut]; omega
        case dd3 => exact hrs3
        intro v2 w4 hown2 hg2 _
        have hb4 : Below w.heap.size w w4 := hb3.grown hg2 hrs3 (fun j hj => (hown1.lt j hj).1)
        have hnext := HSTEP.out w4 v2 (by
          rw [bys_app, HE.out, List.length_append, HL.out]
          rw [Nat.add_assoc] at hown2
          exact hown2) hb4
        have HNEXT := Lib.hid hnext
        clear hnext hown1 hown2 hg1 hg2 hb3 hb4
        go_wp2
        go_roundw
        case rel => exact ⟨k + 1, _, by omega, by go_num, HNEXT.out⟩
        case measure => simp [intOf]; omega
    · have hkl : k = l.length := by omega
      have HE : Hid (acc = enc (tx l)) := by
        have := hst.eq
        rw [hkl, List.drop_of_length_le (by rw [tx_len]; exact Nat.le_refl _)] at this
        show acc = enc (tx l)
        rw [← this]
        show acc = acc ++ []
        simp
      have HST1 := Lib.hid hst
      clear hst hkl
      go_wp2
      go_ret
      exact ⟨_, rfl, by rw [← HE.out]; exact HST1.out.own, HST1.out.below⟩
end Go.Proofs.Ytjnamiiiceggmaa
