/- What the document's Read answers. -/
import Derived.Test.YtjnamiiiceggmaaReadP
import Derived.Test.YtjnamiiiceggmaaWLast
namespace Go.Proofs.Ytjnamiiiceggmaa
open Go.RowKit Go.Lib Fp
open Go.Proofs.YtjnamiiiceggmaaW.PrintLast
set_option linter.unusedSimpArgs false

theorem runv_' {m : Sem Value} {P : Program} {v : Value} {w w' : World} (h : m.run P w = .ok v w') : (Next.value <$> m).run P w = .ok (.value v) w' := by
  simp [h, Result.andThen]
theorem byte_le' (x : UInt8) : x.toNat ≤ 255 := by have := x.toNat_lt; omega
/-- what the document's Read answers to the bytes b -/
def RefsAs (w : World) (b : List UInt8) (e : Ending) (w' : World) : Prop :=
  ((∃ l A c, Rd b l ∧ e = .returned (.tuple #[.slice A l.length c, .int .i64 0]) ∧ Seg w' A l.length (sts l)) ∨ ((¬ ∃ l, Rd b l) ∧ e = .returned (.tuple #[.slice none 0 0, .int .i64 2]))) ∧ Below w.heap.size w w'
theorem RefsAs.no {w w' : World} {b : List UInt8} {e : Ending} (h : ¬ ∃ l, Rd b l) (hb : Below w.heap.size w w') (he : e = .returned (.tuple #[.slice none 0 0, .int .i64 2])) : RefsAs w b e w' := ⟨.inr ⟨h, he⟩, hb⟩
theorem refRead_short (A : Option Addr) (c : Nat) (b : List UInt8) (w : World) (h2 : b.length < 2) :
    Calls Try.prog 21 #[.slice A b.length c] w (RefsAs w b) := by
  have HN : Hid (¬ ∃ l, Rd b l) := rd_short h2
  go_enter Try.func21, Try.ntmps21
  go_wp2
  go_ret2
  exact RefsAs.no HN.out (Below.refl _ _) rfl
theorem seg_part' {W : World} {ad : Addr} {b : List UInt8} (h : Seg W (some ad) b.length (bys b)) (o cv : Nat) (ho : o + cv ≤ b.length) :
    Seg W (some (ad.add o)) cv (bys ((b.drop o).take cv)) := by
  have hl : ((b.drop o).take cv).length = cv := by rw [List.length_take, List.length_drop]; omega
  refine ⟨by rw [bys_len, hl], fun _ => ⟨_, rfl, fun j u hu => ?_⟩⟩
  have hj : j < cv := by have := (List.getElem?_eq_some_iff.1 hu).1; rwa [bys_len, hl] at this
  obtain ⟨ad', e, hc⟩ := h.byte (k := o + j) (by omega)
  cases e
  rw [Addr.add_add, hc, ← hu]
  unfold bys
  rw [List.getElem?_map, List.getElem?_take_of_lt hj, List.getElem?_drop, List.getElem?_eq_getElem (by omega)]
  rfl

set_option maxHeartbeats 4000000 in
set_option maxRecDepth 100000 in
theorem refRead_main (ad : Addr) (c : Nat) (b : List UInt8) (w : World) (hs : Seg w (some ad) b.length (bys b)) (h2 : 2 ≤ b.length) (hbig : b.length ≤ 80000) (hc : b.length ≤ c) :
    Calls Try.prog 21 #[.slice (some ad) b.length c] w (RefsAs w b) := by
  have HCC : Hid (∀ W, Below w.heap.size w W → ∀ j (hj : j < b.length), W.cell? (ad.add j) = some (.int .u8 (b[j].toNat : Int))) := fun W hW j hj => by
    obtain ⟨ad, e, h⟩ := (hs.below hW).byte hj
    cases e
    exact h
  obtain ⟨b0, hb0⟩ : ∃ x : Nat, b[0].toNat = x := ⟨_, rfl⟩
  obtain ⟨b1, hb1⟩ : ∃ x : Nat, b[1].toNat = x := ⟨_, rfl⟩
  have l0 : b0 ≤ 255 := hb0 ▸ byte_le' _
  have l1 : b1 ≤ 255 := hb1 ▸ byte_le' _
  have k0 := HCC.out w (Below.refl _ _) 0 (by omega)
  have k1 := HCC.out w (Below.refl _ _) 1 (by omega)
  rw [hb0, Addr.add_zero'] at k0
  rw [hb1] at k1
  have k1' := k1
  rw [show ad.add 1 = { ad with off := ad.off + (0 + 1), spot := none } from Addr.add_succ' ad 0] at k1'
  have k1'' := k1'
  rw [Nat.zero_add] at k1''
  obtain ⟨n, hn⟩ : ∃ n : Nat, b0 * 256 + b1 = n := ⟨_, rfl⟩
  have hnn : n ≤ 65535 := by omega
  have HDEC : Hid (decB b = (decN n [] (b.drop 2)).map (·.1)) := by
    have := decB_at h2
    rw [hb0, hb1, hn] at this
    exact this
  have HS := Lib.hid hs
  have hor : bits .or .i64 ((b0 : Int) * 256) (b1 : Int) = (n : Int) := by
    rw [bits_join .i64 31 (by decide) (fun n h0 h1 => by rw [IntKind.wrap_i64]; omega) 8 _ _ (by omega) (by omega) (by omega) (by omega) (by omega) (by omega)]
    omega
  clear hs hb0 hb1
  go_enter Try.func21, Try.ntmps21
  go_wp2
  go_quiet (fail)
  go_wp2
  clear k0 k1 k1' k1'' hor
  go_loopw [5, 6, 7, 8] (fun v5 v6 v7 v8 wr => ∃ (k off : Nat) (L : List ByteArray) (last : ByteArray), k ≤ n ∧ v8 = .int .i64 k ∧ v7 = .string last ∧ last.size ≤ 510 ∧ v6 = .int .i64 off ∧ off ≤ b.length ∧ Hid (RSt b n k off L last) ∧ wr.ownsRow w.heap.size 9 1 v5 k (sts L) ∧ Below w.heap.size w wr) (fun _ _ _ v8 _ => n - (intOf v8).toNat)
  case atStart => exact ⟨0, 2, [], ⟨#[]⟩, Nat.zero_le _, rfl, rfl, by decide, rfl, h2, RSt.start b n, World.ownsRow_nil _ _ _ _, below_drewN' (Below.refl _ _) _⟩
  case round =>
    obtain ⟨k, off, L, last, hk, rfl, rfl, hl510, rfl, hob, HR, hown, hB⟩ := hrel
    by_cases hlt : k < n
    · by_cases hm2 : off + 2 ≤ b.length
      · have hstep := step_at (last := last.data.toList) (b := b) (off := off) (by omega)
        have k2 := HCC.out wr hB off (by omega)
        have k3 := HCC.out wr hB (off + 1) (by omega)
        have la := byte_le' b[off]
        have lc := byte_le' b[off + 1]
        have hll : last.data.toList.length = last.size := Array.length_toList
        rw [hll] at hstep
        clear hll
        generalize b[off].toNat = av at hstep k2 la
        have k3y := fun W (hW : Below w.heap.size w W) => HCC.out W hW (off + 1) (by omega)
        generalize b[off + 1].toNat = cv at hstep k3 lc k3y
        have K3Y := Lib.hid k3y
        clear k3y
        have k3' := k3
        rw [Addr.add_succ'] at k3'
        by_cases ha : av ≤ last.size
        · by_cases hcv : off + 2 + cv ≤ b.length
          · rw [if_pos ⟨ha, by omega⟩] at hstep
            obtain ⟨s2, hs2⟩ : ∃ s2 : ByteArray, str ((b.drop (off + 2)).take cv) = s2 := ⟨_, rfl⟩
            obtain ⟨s1, hs1⟩ : ∃ s1, last.extract 0 av = s1 := ⟨_, rfl⟩
            have hs1d : s1.data.toList = last.data.toList.take av := by rw [← hs1]; exact extract_take last av
            have hs2d : s2.data.toList = (b.drop (off + 2)).take cv := by rw [← hs2, str_data]
            have HR2 : Hid (RSt b n (k + 1) (off + 2 + cv) (L ++ [s1 ++ s2]) (s1 ++ s2)) := HR.out.next hlt (by rw [hstep, ByteArray.data_append, Array.toList_append, hs1d, hs2d])
            have hz1 : s1.size ≤ 255 := by
              have h := congrArg List.length hs1d
              rw [Array.length_toList, List.length_take] at h
              have h' : s1.size = min av last.data.toList.length := h
              omega
            have hz2 : s2.size ≤ 255 := by
              have h := congrArg List.length hs2d
              rw [Array.length_toList, List.length_take] at h
              have h' : s2.size = min cv (b.drop (off + 2)).length := h
              omega
            have hcat : (9223372036854775807 < s1.size + s2.size) = False := eq_false (by omega)
            have hcv1 : ∀ nq, (convert 23 9 (.slice (some { ad with off := ad.off + (off + 2), spot := none }) cv (c - (off + 2)))).run Try.prog (wr.drewN nq) = .ok (.string s2) (wr.drewN nq) := fun nq => by
              rw [← hs2, ← Addr.add_succ' ad (off + 1)]
              exact conv_seg _ _ _ _ _ (seg_part' (HS.out.below (below_drewN' hB nq)) (off + 2) cv (by omega))
            have hcv0 : cv = 0 → ∀ nq, (convert 23 9 (.slice (some ad) 0 0)).run Try.prog (wr.drewN nq) = .ok (.string s2) (wr.drewN nq) := fun h0 nq => by
              rw [← hs2, h0]
              have := conv_seg _ _ _ 0 _ (seg_part' (HS.out.below (below_drewN' hB nq)) 0 0 (by omega))
              rw [Addr.add_zero'] at this
              simpa using this
            have f1 : (0 : Int) ≤ (off : Int) + 2 := by omega
            have f2 : (off : Int) + 2 ≤ (off : Int) + 2 + (cv : Int) := by omega
            have f3 : (off : Int) + 2 + (cv : Int) ≤ (b.length : Int) := by omega
            have f3' : (off : Int) + 2 + (cv : Int) ≤ (c : Int) := by omega
            have f4 : (0 : Int) ≤ (off : Int) + 1 := by omega
            have f5 : (off : Int) + 1 < (b.length : Int) := by omega
            have f6 : ((off : Int) + 2).toNat = off + 2 := by omega
            have f7 : ((off : Int) + 1).toNat = off + 1 := by omega
            have f8 : ((off : Int) + 2 + (cv : Int)).toNat = off + 2 + cv := by omega
            have E1 : Hid (IntKind.i64.wrap ((off : Int) + 2) = (off : Int) + 2) := by show IntKind.i64.wrap ((off : Int) + 2) = _; rw [IntKind.wrap_i64]; omega
            have E2 : Hid (IntKind.i64.wrap ((off : Int) + 1) = (off : Int) + 1) := by show IntKind.i64.wrap ((off : Int) + 1) = _; rw [IntKind.wrap_i64]; omega
            have E3 : Hid (IntKind.i64.wrap ((off : Int) + 2 + (cv : Int)) = (off : Int) + 2 + (cv : Int)) := by show IntKind.i64.wrap ((off : Int) + 2 + (cv : Int)) = _; rw [IntKind.wrap_i64]; omega
            have HO0 := Lib.hid hown
            have HB0 := Lib.hid hB
            have hrs := hB.size
            clear hstep hs1d hs2d hs2 hown hB
            obtain ⟨i0, hi, hz0, hz1', hz2'⟩ := info_parts info9
            have hcases : (c = off + 2 ∧ cv = 0) ∨ ¬ c = off + 2 := by omega
            rcases hcases with ⟨rfl, rfl⟩ | hc2
            · have hcv := hcv0 rfl
              have e1 := E1.out
              have e2 := E2.out
              have e3 := E3.out
              clear E1 E2 E3 hcv0 hcv1
              go_wp2
              go_quiet (fail)
              clear hcv e1 e2 e3
              rename_i nq
              have HOWN : Hid ((wr.drewN nq).ownsRow w.heap.size 9 1 u5 k (sts L)) := HO0.out.drewN nq
              have HBW : Hid (Below w.heap.size w (wr.drewN nq)) := below_drewN' HB0.out nq
              have hWs : w.heap.size ≤ (wr.drewN nq).heap.size := HBW.out.size
              have k3w : (wr.drewN nq).cell? (ad.add (off + 1)) = some (.int .u8 (0 : Int)) := k3
              generalize wr.drewN nq = W at HOWN HBW hWs k3w ⊢
              go_wp2_with (at_builtin; refine wpList_append_own _ rfl (.tmp 78) (.tmp 80) 22 rfl w.heap.size 9 i0 (.string ByteArray.empty) 1 16 Try.underlying22 hi hz0 hz1' hz2' rfl (by decide) _ k (sts L) rfl (HOWN.out.alloc _) ⟨W.heap.size, 0, none⟩ 1 1 [.string (s1 ++ s2)] rfl rfl ?c1 ?c2 ?c3 ?c4 ?c5 ?_)
              case c1 => exact fun j u hj => by rw [add_zero']; exact cells_new W _ 9 j u hj
              case c2 => intro u hu; simp at hu; rcases hu with rfl; rfl
              case c3 => unfold maxLen; omega
              case c4 => omega
              case c5 => simp; omega
              intro v1 w1 hown1 hg1 _
              have hB1 : Below w.heap.size w w1 := (HBW.out.alloc hWs _).grown hg1 (by simp; omega) (fun j hj => (HOWN.out.lt j hj).1)
              have hown2 : w1.ownsRow w.heap.size 9 1 v1 (k + 1) (sts (L ++ [s1 ++ s2])) := by
                have e : sts (L ++ [s1 ++ s2]) = sts L ++ [.string (s1 ++ s2)] := by unfold sts; rw [List.map_append]; rfl
                rw [e]; exact hown1
              skip
              have HOWN2 := Lib.hid hown2
              have HB1 := Lib.hid hB1
              clear hown1 hg1 hown2 hB1 k3w
              have k3x : w1.cell? (ad.add (off + 1)) = some (.int .u8 (0 : Int)) := K3Y.out w1 HB1.out
              have k3z := k3x
              rw [Addr.add_succ'] at k3z
              clear f1 f2 f3 f3' f6 f8
              go_wp2
              go_roundw
              case rel => exact ⟨k + 1, off + 2 + 0, L ++ [s1 ++ s2], s1 ++ s2, by omega, by go_num, rfl, by rw [ByteArray.size_append]; omega, by go_num, by omega, HR2, HOWN2.out, HB1.out⟩
              case measure => simp [intOf]; omega
            · have hcv := hcv1
              have e1 := E1.out
              have e2 := E2.out
              have e3 := E3.out
              clear E1 E2 E3 hcv0 hcv1
              go_wp2
              go_quiet (fail)
              clear hcv e1 e2 e3
              rename_i nq
              have HOWN : Hid ((wr.drewN nq).ownsRow w.heap.size 9 1 u5 k (sts L)) := HO0.out.drewN nq
              have HBW : Hid (Below w.heap.size w (wr.drewN nq)) := below_drewN' HB0.out nq
              have hWs : w.heap.size ≤ (wr.drewN nq).heap.size := HBW.out.size
              have k3w : (wr.drewN nq).cell? (ad.add (off + 1)) = some (.int .u8 (cv : Int)) := k3
              generalize wr.drewN nq = W at HOWN HBW hWs k3w ⊢
              go_wp2_with (at_builtin; refine wpList_append_own _ rfl (.tmp 78) (.tmp 80) 22 rfl w.heap.size 9 i0 (.string ByteArray.empty) 1 16 Try.underlying22 hi hz0 hz1' hz2' rfl (by decide) _ k (sts L) rfl (HOWN.out.alloc _) ⟨W.heap.size, 0, none⟩ 1 1 [.string (s1 ++ s2)] rfl rfl ?c1 ?c2 ?c3 ?c4 ?c5 ?_)
              case c1 => exact fun j u hj => by rw [add_zero']; exact cells_new W _ 9 j u hj
              case c2 => intro u hu; simp at hu; rcases hu with rfl; rfl
              case c3 => unfold maxLen; omega
              case c4 => omega
              case c5 => simp; omega
              intro v1 w1 hown1 hg1 _
              have hB1 : Below w.heap.size w w1 := (HBW.out.alloc hWs _).grown hg1 (by simp; omega) (fun j hj => (HOWN.out.lt j hj).1)
              have hown2 : w1.ownsRow w.heap.size 9 1 v1 (k + 1) (sts (L ++ [s1 ++ s2])) := by
                have e : sts (L ++ [s1 ++ s2]) = sts L ++ [.string (s1 ++ s2)] := by unfold sts; rw [List.map_append]; rfl
                rw [e]; exact hown1
              skip
              have HOWN2 := Lib.hid hown2
              have HB1 := Lib.hid hB1
              clear hown1 hg1 hown2 hB1 k3w
              have k3x : w1.cell? (ad.add (off + 1)) = some (.int .u8 (cv : Int)) := K3Y.out w1 HB1.out
              have k3z := k3x
              rw [Addr.add_succ'] at k3z
              clear f1 f2 f3 f3' f6 f8
              go_wp2
              go_roundw
              case rel => exact ⟨k + 1, off + 2 + cv, L ++ [s1 ++ s2], s1 ++ s2, by omega, by go_num, rfl, by rw [ByteArray.size_append]; omega, by go_num, by omega, HR2, HOWN2.out, HB1.out⟩
              case measure => simp [intOf]; omega
          · rw [if_neg (by omega)] at hstep
            have HN : Hid (¬ ∃ l, Rd b l) := rd_none (by rw [HDEC.out, HR.out.fail hlt hstep]; rfl)
            have HB := Lib.hid hB
            clear hown hB hstep
            go_wp2
            go_ret2
            exact RefsAs.no HN.out HB.out rfl
        · rw [if_neg (by omega)] at hstep
          have HN : Hid (¬ ∃ l, Rd b l) := rd_none (by rw [HDEC.out, HR.out.fail hlt hstep]; rfl)
          have HB := Lib.hid hB
          clear hown hB hstep
          go_wp2
          go_ret2
          exact RefsAs.no HN.out HB.out rfl
      · have HN : Hid (¬ ∃ l, Rd b l) := rd_none (by rw [HDEC.out, HR.out.fail hlt (step_short (by rw [List.length_drop]; omega))]; rfl)
        have HB := Lib.hid hB
        clear hown hB
        go_wp2
        go_ret2
        exact RefsAs.no HN.out HB.out rfl
    · obtain rfl : k = n := by omega
      obtain ⟨A5, c5, rfl⟩ := own_form hown
      have hLn := HR.out.len
      have HD2 : Hid (decB b = some (tx L)) := by
        show decB b = some (tx L)
        rw [HDEC.out, HR.out.done]; rfl
      have hseg : Seg wr A5 L.length (sts L) := by rw [hLn]; exact Seg.of_own hown
      have hmc := fun W (h : Seg W A5 L.length (sts L)) => may_calls A5 c5 L W h (by omega)
      have HBX := Lib.hid hB
      have HSG := Lib.hid hseg
      have HCB : Hid (∀ W, Below w.heap.size w W → (convert 23 9 (.slice (some ad) b.length c)).run Try.prog W = .ok (.string (str b)) W) := fun W hW => conv_seg _ _ _ _ _ (HS.out.below hW)
      clear hown hB hseg
      by_cases hm : May L
      · have HMAY : Hid (∀ W, Seg W A5 L.length (sts L) → Calls Try.prog 18 #[.slice A5 k c5] W fun e w' => e = .returned (.bool true) ∧ ∃ n, w' = W.drewN n) := fun W h => by
          obtain ⟨bb, h1, h2⟩ := hmc W h
          obtain rfl : bb = true := h1.2 hm
          rw [← hLn]; exact h2
        have HBY : Hid (∀ W, Seg W A5 L.length (sts L) → Calls Try.prog 25 #[.slice A5 k c5] W fun e w' => ∃ A n c, e = .returned (.slice A n c) ∧ Seg w' A n (bys (enc (tx L))) ∧ Below W.heap.size W w' ∧ (convert 23 9 (.slice A n c)).run Try.prog w' = .ok (.string (str (enc (tx L)))) w') := fun W h => by
          rw [← hLn]; exact refBytes_st A5 c5 L W h hm
        by_cases hE : enc (tx L) = b
        · have HRD : Hid (Rd b L) := ⟨hm, hE⟩
          have hEq : ((str (enc (tx L))).toList == (str b).toList) = true := by rw [hE]; exact beq_self_eq_true _
          have HLN := Lib.hid hLn
          clear hE hm hmc hLn
          generalize str (enc (tx L)) = sE at hEq HBY
          generalize str b = sB at hEq HCB
          go_wp2_with fail
          refine start_ (n := 11) (S := fun w' => True) (ds := []) #[false, false, false, false, false, false, false, false, false, false, false] (by kernel_rfl) rfl rfl trivial (fun _ => ?_)
          refine pure_ (i := 0) (N := some 91) (v := ?_) (a' := ?_) #[true, false, false, false, false, false, false, false, false, false, false] rfl rfl (by kernel_rfl) (fun _ _ _ h => h) (Or.inl ⟨by rfl, ?_⟩) ?_ ?_
          rotate_left
          · intro w'
            go_simp
            with_reducible rfl
          rotate_left
          · simp only [Act.put, List.setIfInBounds_toArray, List.set_cons_zero, List.set_cons_succ]
            rfl
          refine one_ (i := 1) (N := some 92) #[true, true, false, false, false, false, false, false, false, false, false] rfl rfl (by kernel_rfl) (by simp) (fun K hK => ?_)
          refine goes_ Try.func18 (by kernel_rfl) rfl #[.slice A5 k c5] (by rfl) rfl rfl (by simp only [List.map_toArray, List.map_cons, List.map_nil]; rfl) ?_
          refine (HMAY.out _ (HSG.out.below (Below.refl _ _).drew)).mono ?_
          rintro e w' ⟨rfl, q1, rfl⟩
          refine ⟨_, rfl, ?_⟩
          refine hK.out _ _ trivial (fun _ => ?_)
          clear hK K
          refine norm_ (by simp only [Act.put, List.setIfInBounds_toArray, List.set_cons_zero, List.set_cons_succ]; rfl) ?_
          refine pure_ (i := 2) (N := some 93) (v := ?_) (a' := ?_) #[true, true, true, false, false, false, false, false, false, false, false] rfl rfl (by kernel_rfl) (fun _ _ _ h => h) (Or.inl ⟨by rfl, ?_⟩) ?_ ?_
          rotate_left
          · intro w'
            go_simp
            with_reducible rfl
          rotate_left
          · simp only [Act.put, List.setIfInBounds_toArray, List.set_cons_zero, List.set_cons_succ]
            rfl
          refine pure_ (i := 3) (N := some 94) (v := ?_) (a' := ?_) #[true, true, true, true, false, false, false, false, false, false, false] rfl rfl (by kernel_rfl) (fun _ _ _ h => h) (Or.inl ⟨by rfl, ?_⟩) ?_ ?_
          rotate_left
          · intro w'
            go_simp
            with_reducible rfl
          rotate_left
          · simp only [Act.put, List.setIfInBounds_toArray, List.set_cons_zero, List.set_cons_succ]
            rfl
          refine pure_ (i := 4) (N := some 95) (v := ?_) (a' := ?_) #[true, true, true, true, true, false, false, false, false, false, false] rfl rfl (by kernel_rfl) (fun _ _ _ h => h) (Or.inl ⟨by rfl, ?_⟩) ?_ ?_
          rotate_left
          · intro w'
            go_simp
            with_reducible rfl
          rotate_left
          · simp only [Act.put, List.setIfInBounds_toArray, List.set_cons_zero, List.set_cons_succ]
            rfl
          refine pure_ (i := 7) (N := some 98) (v := ?_) (a' := ?_) #[true, true, true, true, true, false, false, true, false, false, false] rfl rfl (by kernel_rfl) (fun _ _ _ h => h) (Or.inl ⟨by rfl, ?_⟩) ?_ ?_
          rotate_left
          · intro w'
            go_simp
            with_reducible rfl
          rotate_left
          · simp only [Act.put, List.setIfInBounds_toArray, List.set_cons_zero, List.set_cons_succ]
            rfl
          refine two_ (i := 5) (j := 8) (Ni := some 96) (Nj := some 99) #[true, true, true, true, true, true, false, true, false, false, false] #[true, true, true, true, true, false, false, true, true, false, false] rfl rfl rfl rfl (by kernel_rfl) (by simp) (by simp) (fun K hK => ?_) (fun K hK => ?_)
          · skip
            refine goes_ Try.func25 (by kernel_rfl) rfl #[.slice A5 k c5] (by rfl) rfl rfl (by simp only [List.map_toArray, List.map_cons, List.map_nil]; rfl) ?_
            refine (HBY.out _ ((HSG.out.below (Below.refl _ _).drew).drewN _)).mono ?_
            rintro e w' ⟨A6, n6, c6, rfl, _, hb6, hv6⟩
            refine ⟨_, rfl, ?_⟩
            have HV6 := Lib.hid hv6
            have HB6 := Lib.hid hb6
            clear hb6 hv6
            refine hK.out _ _ trivial (fun _ => ?_)
            clear hK K
            refine norm_ (by simp only [Act.put, List.setIfInBounds_toArray, List.set_cons_zero, List.set_cons_succ]; rfl) ?_
            refine two_ (i := 6) (j := 8) (Ni := some 97) (Nj := some 99) #[true, true, true, true, true, true, true, true, false, false, false] #[true, true, true, true, true, true, false, true, true, false, false] rfl rfl rfl rfl (by kernel_rfl) (by simp) (by simp) (fun K hK => ?_) (fun K hK => ?_)
            · skip
              refine value_ (by rfl) rfl (v := .string sE) (w1 := _) (by unfold execOp; simp only [Act.eval]; exact runv_' (HV6.out)) ?_
              refine hK.out _ _ trivial (fun _ => ?_)
              clear hK K
              refine norm_ (by simp only [Act.put, List.setIfInBounds_toArray, List.set_cons_zero, List.set_cons_succ]; rfl) ?_
              refine one_ (i := 8) (N := some 99) #[true, true, true, true, true, true, true, true, true, false, false] rfl rfl (by kernel_rfl) (by simp) (fun K hK => ?_)
              refine value_ (by rfl) rfl (v := .string sB) (w1 := _) (by unfold execOp; simp only [Act.eval]; exact runv_' (HCB.out _ (thn (below_drewN' HBX.out.drew q1) HB6.out))) ?_
              refine hK.out _ _ trivial (fun _ => ?_)
              clear hK K
              refine norm_ (by simp only [Act.put, List.setIfInBounds_toArray, List.set_cons_zero, List.set_cons_succ]; rfl) ?_
              refine pure_ (i := 9) (N := some 100) (v := ?_) (a' := ?_) #[true, true, true, true, true, true, true, true, true, true, false] rfl rfl (by kernel_rfl) (fun _ _ _ h => h) (Or.inl ⟨by rfl, ?_⟩) ?_ ?_
              rotate_left
              · intro w'
                go_simp
                with_reducible rfl
              rotate_left
              · simp only [Act.put, List.setIfInBounds_toArray, List.set_cons_zero, List.set_cons_succ]
                rfl
              refine pure_ (i := 10) (N := some 101) (v := ?_) (a' := ?_) #[true, true, true, true, true, true, true, true, true, true, true] rfl rfl (by kernel_rfl) (fun _ _ _ h => h) (Or.inl ⟨by rfl, ?_⟩) ?_ ?_
              rotate_left
              · intro w'
                go_simp
                with_reducible rfl
              rotate_left
              · simp only [Act.put, List.setIfInBounds_toArray, List.set_cons_zero, List.set_cons_succ]
                rfl
              refine done_ (by kernel_rfl) ?_
              have HBE := Lib.hid (thn (below_drewN' HBX.out.drew q1) HB6.out)
              have HSE := Lib.hid (((HSG.out.below (Below.refl _ _).drew).drewN q1).below HB6.out)
              go_wp2
              go_ret2
              exact ⟨.inl ⟨L, A5, c5, HRD.out, by rw [HLN.out]; rfl, HSE.out⟩, HBE.out⟩
            · skip
              refine value_ (by rfl) rfl (v := .string sB) (w1 := _) (by unfold execOp; simp only [Act.eval]; exact runv_' (HCB.out _ (thn (below_drewN' HBX.out.drew q1) HB6.out))) ?_
              refine hK.out _ _ trivial (fun _ => ?_)
              clear hK K
              refine norm_ (by simp only [Act.put, List.setIfInBounds_toArray, List.set_cons_zero, List.set_cons_succ]; rfl) ?_
              refine one_ (i := 6) (N := some 97) #[true, true, true, true, true, true, true, true, true, false, false] rfl rfl (by kernel_rfl) (by simp) (fun K hK => ?_)
              refine value_ (by rfl) rfl (v := .string sE) (w1 := _) (by unfold execOp; simp only [Act.eval]; exact runv_' (HV6.out)) ?_
              refine hK.out _ _ trivial (fun _ => ?_)
              clear hK K
              refine norm_ (by simp only [Act.put, List.setIfInBounds_toArray, List.set_cons_zero, List.set_cons_succ]; rfl) ?_
              refine pure_ (i := 9) (N := some 100) (v := ?_) (a' := ?_) #[true, true, true, true, true, true, true, true, true, true, false] rfl rfl (by kernel_rfl) (fun _ _ _ h => h) (Or.inl ⟨by rfl, ?_⟩) ?_ ?_
              rotate_left
              · intro w'
                go_simp
                with_reducible rfl
              rotate_left
              · simp only [Act.put, List.setIfInBounds_toArray, List.set_cons_zero, List.set_cons_succ]
                rfl
              refine pure_ (i := 10) (N := some 101) (v := ?_) (a' := ?_) #[true, true, true, true, true, true, true, true, true, true, true] rfl rfl (by kernel_rfl) (fun _ _ _ h => h) (Or.inl ⟨by rfl, ?_⟩) ?_ ?_
              rotate_left
              · intro w'
                go_simp
                with_reducible rfl
              rotate_left
              · simp only [Act.put, List.setIfInBounds_toArray, List.set_cons_zero, List.set_cons_succ]
                rfl
              refine done_ (by kernel_rfl) ?_
              have HBE := Lib.hid (thn (below_drewN' HBX.out.drew q1) HB6.out)
              have HSE := Lib.hid (((HSG.out.below (Below.refl _ _).drew).drewN q1).below HB6.out)
              go_wp2
              go_ret2
              exact ⟨.inl ⟨L, A5, c5, HRD.out, by rw [HLN.out]; rfl, HSE.out⟩, HBE.out⟩
          · skip
            refine value_ (by rfl) rfl (v := .string sB) (w1 := _) (by unfold execOp; simp only [Act.eval]; exact runv_' (HCB.out _ (below_drewN' HBX.out.drew q1))) ?_
            refine hK.out _ _ trivial (fun _ => ?_)
            clear hK K
            refine norm_ (by simp only [Act.put, List.setIfInBounds_toArray, List.set_cons_zero, List.set_cons_succ]; rfl) ?_
            refine one_ (i := 5) (N := some 96) #[true, true, true, true, true, true, false, true, true, false, false] rfl rfl (by kernel_rfl) (by simp) (fun K hK => ?_)
            refine goes_ Try.func25 (by kernel_rfl) rfl #[.slice A5 k c5] (by rfl) rfl rfl (by simp only [List.map_toArray, List.map_cons, List.map_nil]; rfl) ?_
            refine (HBY.out _ ((HSG.out.below (Below.refl _ _).drew).drewN _)).mono ?_
            rintro e w' ⟨A6, n6, c6, rfl, _, hb6, hv6⟩
            refine ⟨_, rfl, ?_⟩
            have HV6 := Lib.hid hv6
            have HB6 := Lib.hid hb6
            clear hb6 hv6
            refine hK.out _ _ trivial (fun _ => ?_)
            clear hK K
            refine norm_ (by simp only [Act.put, List.setIfInBounds_toArray, List.set_cons_zero, List.set_cons_succ]; rfl) ?_
            refine one_ (i := 6) (N := some 97) #[true, true, true, true, true, true, true, true, true, false, false] rfl rfl (by kernel_rfl) (by simp) (fun K hK => ?_)
            refine value_ (by rfl) rfl (v := .string sE) (w1 := _) (by unfold execOp; simp only [Act.eval]; exact runv_' (HV6.out)) ?_
            refine hK.out _ _ trivial (fun _ => ?_)
            clear hK K
            refine norm_ (by simp only [Act.put, List.setIfInBounds_toArray, List.set_cons_zero, List.set_cons_succ]; rfl) ?_
            refine pure_ (i := 9) (N := some 100) (v := ?_) (a' := ?_) #[true, true, true, true, true, true, true, true, true, true, false] rfl rfl (by kernel_rfl) (fun _ _ _ h => h) (Or.inl ⟨by rfl, ?_⟩) ?_ ?_
            rotate_left
            · intro w'
              go_simp
              with_reducible rfl
            rotate_left
            · simp only [Act.put, List.setIfInBounds_toArray, List.set_cons_zero, List.set_cons_succ]
              rfl
            refine pure_ (i := 10) (N := some 101) (v := ?_) (a' := ?_) #[true, true, true, true, true, true, true, true, true, true, true] rfl rfl (by kernel_rfl) (fun _ _ _ h => h) (Or.inl ⟨by rfl, ?_⟩) ?_ ?_
            rotate_left
            · intro w'
              go_simp
              with_reducible rfl
            rotate_left
            · simp only [Act.put, List.setIfInBounds_toArray, List.set_cons_zero, List.set_cons_succ]
              rfl
            refine done_ (by kernel_rfl) ?_
            have HBE := Lib.hid (thn (below_drewN' HBX.out.drew q1) HB6.out)
            have HSE := Lib.hid (((HSG.out.below (Below.refl _ _).drew).drewN q1).below HB6.out)
            go_wp2
            go_ret2
            exact ⟨.inl ⟨L, A5, c5, HRD.out, by rw [HLN.out]; rfl, HSE.out⟩, HBE.out⟩
        · have HNO : Hid (¬ ∃ l, Rd b l) := rd_some HD2.out (fun h => hE h.2)
          have hEq : ((str (enc (tx L))).toList == (str b).toList) = false := by
            rw [Bool.eq_false_iff]
            intro h
            rw [str_beq, str_data, str_data] at h
            exact hE h
          clear hE hm hmc hLn
          generalize str (enc (tx L)) = sE at hEq HBY
          generalize str b = sB at hEq HCB
          go_wp2_with fail
          refine start_ (n := 11) (S := fun w' => True) (ds := []) #[false, false, false, false, false, false, false, false, false, false, false] (by kernel_rfl) rfl rfl trivial (fun _ => ?_)
          refine pure_ (i := 0) (N := some 91) (v := ?_) (a' := ?_) #[true, false, false, false, false, false, false, false, false, false, false] rfl rfl (by kernel_rfl) (fun _ _ _ h => h) (Or.inl ⟨by rfl, ?_⟩) ?_ ?_
          rotate_left
          · intro w'
            go_simp
            with_reducible rfl
          rotate_left
          · simp only [Act.put, List.setIfInBounds_toArray, List.set_cons_zero, List.set_cons_succ]
            rfl
          refine one_ (i := 1) (N := some 92) #[true, true, false, false, false, false, false, false, false, false, false] rfl rfl (by kernel_rfl) (by simp) (fun K hK => ?_)
          refine goes_ Try.func18 (by kernel_rfl) rfl #[.slice A5 k c5] (by rfl) rfl rfl (by simp only [List.map_toArray, List.map_cons, List.map_nil]; rfl) ?_
          refine (HMAY.out _ (HSG.out.below (Below.refl _ _).drew)).mono ?_
          rintro e w' ⟨rfl, q1, rfl⟩
          refine ⟨_, rfl, ?_⟩
          refine hK.out _ _ trivial (fun _ => ?_)
          clear hK K
          refine norm_ (by simp only [Act.put, List.setIfInBounds_toArray, List.set_cons_zero, List.set_cons_succ]; rfl) ?_
          refine pure_ (i := 2) (N := some 93) (v := ?_) (a' := ?_) #[true, true, true, false, false, false, false, false, false, false, false] rfl rfl (by kernel_rfl) (fun _ _ _ h => h) (Or.inl ⟨by rfl, ?_⟩) ?_ ?_
          rotate_left
          · intro w'
            go_simp
            with_reducible rfl
          rotate_left
          · simp only [Act.put, List.setIfInBounds_toArray, List.set_cons_zero, List.set_cons_succ]
            rfl
          refine pure_ (i := 3) (N := some 94) (v := ?_) (a' := ?_) #[true, true, true, true, false, false, false, false, false, false, false] rfl rfl (by kernel_rfl) (fun _ _ _ h => h) (Or.inl ⟨by rfl, ?_⟩) ?_ ?_
          rotate_left
          · intro w'
            go_simp
            with_reducible rfl
          rotate_left
          · simp only [Act.put, List.setIfInBounds_toArray, List.set_cons_zero, List.set_cons_succ]
            rfl
          refine pure_ (i := 4) (N := some 95) (v := ?_) (a' := ?_) #[true, true, true, true, true, false, false, false, false, false, false] rfl rfl (by kernel_rfl) (fun _ _ _ h => h) (Or.inl ⟨by rfl, ?_⟩) ?_ ?_
          rotate_left
          · intro w'
            go_simp
            with_reducible rfl
          rotate_left
          · simp only [Act.put, List.setIfInBounds_toArray, List.set_cons_zero, List.set_cons_succ]
            rfl
          refine pure_ (i := 7) (N := some 98) (v := ?_) (a' := ?_) #[true, true, true, true, true, false, false, true, false, false, false] rfl rfl (by kernel_rfl) (fun _ _ _ h => h) (Or.inl ⟨by rfl, ?_⟩) ?_ ?_
          rotate_left
          · intro w'
            go_simp
            with_reducible rfl
          rotate_left
          · simp only [Act.put, List.setIfInBounds_toArray, List.set_cons_zero, List.set_cons_succ]
            rfl
          refine two_ (i := 5) (j := 8) (Ni := some 96) (Nj := some 99) #[true, true, true, true, true, true, false, true, false, false, false] #[true, true, true, true, true, false, false, true, true, false, false] rfl rfl rfl rfl (by kernel_rfl) (by simp) (by simp) (fun K hK => ?_) (fun K hK => ?_)
          · skip
            refine goes_ Try.func25 (by kernel_rfl) rfl #[.slice A5 k c5] (by rfl) rfl rfl (by simp only [List.map_toArray, List.map_cons, List.map_nil]; rfl) ?_
            refine (HBY.out _ ((HSG.out.below (Below.refl _ _).drew).drewN _)).mono ?_
            rintro e w' ⟨A6, n6, c6, rfl, _, hb6, hv6⟩
            refine ⟨_, rfl, ?_⟩
            have HV6 := Lib.hid hv6
            have HB6 := Lib.hid hb6
            clear hb6 hv6
            refine hK.out _ _ trivial (fun _ => ?_)
            clear hK K
            refine norm_ (by simp only [Act.put, List.setIfInBounds_toArray, List.set_cons_zero, List.set_cons_succ]; rfl) ?_
            refine two_ (i := 6) (j := 8) (Ni := some 97) (Nj := some 99) #[true, true, true, true, true, true, true, true, false, false, false] #[true, true, true, true, true, true, false, true, true, false, false] rfl rfl rfl rfl (by kernel_rfl) (by simp) (by simp) (fun K hK => ?_) (fun K hK => ?_)
            · skip
              refine value_ (by rfl) rfl (v := .string sE) (w1 := _) (by unfold execOp; simp only [Act.eval]; exact runv_' (HV6.out)) ?_
              refine hK.out _ _ trivial (fun _ => ?_)
              clear hK K
              refine norm_ (by simp only [Act.put, List.setIfInBounds_toArray, List.set_cons_zero, List.set_cons_succ]; rfl) ?_
              refine one_ (i := 8) (N := some 99) #[true, true, true, true, true, true, true, true, true, false, false] rfl rfl (by kernel_rfl) (by simp) (fun K hK => ?_)
              refine value_ (by rfl) rfl (v := .string sB) (w1 := _) (by unfold execOp; simp only [Act.eval]; exact runv_' (HCB.out _ (thn (below_drewN' HBX.out.drew q1) HB6.out))) ?_
              refine hK.out _ _ trivial (fun _ => ?_)
              clear hK K
              refine norm_ (by simp only [Act.put, List.setIfInBounds_toArray, List.set_cons_zero, List.set_cons_succ]; rfl) ?_
              refine pure_ (i := 9) (N := some 100) (v := ?_) (a' := ?_) #[true, true, true, true, true, true, true, true, true, true, false] rfl rfl (by kernel_rfl) (fun _ _ _ h => h) (Or.inl ⟨by rfl, ?_⟩) ?_ ?_
              rotate_left
              · intro w'
                go_simp
                with_reducible rfl
              rotate_left
              · simp only [Act.put, List.setIfInBounds_toArray, List.set_cons_zero, List.set_cons_succ]
                rfl
              refine pure_ (i := 10) (N := some 101) (v := ?_) (a' := ?_) #[true, true, true, true, true, true, true, true, true, true, true] rfl rfl (by kernel_rfl) (fun _ _ _ h => h) (Or.inl ⟨by rfl, ?_⟩) ?_ ?_
              rotate_left
              · intro w'
                go_simp
                with_reducible rfl
              rotate_left
              · simp only [Act.put, List.setIfInBounds_toArray, List.set_cons_zero, List.set_cons_succ]
                rfl
              refine done_ (by kernel_rfl) ?_
              have HBE := Lib.hid (thn (below_drewN' HBX.out.drew q1) HB6.out)
              have HSE := Lib.hid (((HSG.out.below (Below.refl _ _).drew).drewN q1).below HB6.out)
              go_wp2
              go_ret2
              exact RefsAs.no HNO.out HBE.out rfl
            · skip
              refine value_ (by rfl) rfl (v := .string sB) (w1 := _) (by unfold execOp; simp only [Act.eval]; exact runv_' (HCB.out _ (thn (below_drewN' HBX.out.drew q1) HB6.out))) ?_
              refine hK.out _ _ trivial (fun _ => ?_)
              clear hK K
              refine norm_ (by simp only [Act.put, List.setIfInBounds_toArray, List.set_cons_zero, List.set_cons_succ]; rfl) ?_
              refine one_ (i := 6) (N := some 97) #[true, true, true, true, true, true, true, true, true, false, false] rfl rfl (by kernel_rfl) (by simp) (fun K hK => ?_)
              refine value_ (by rfl) rfl (v := .string sE) (w1 := _) (by unfold execOp; simp only [Act.eval]; exact runv_' (HV6.out)) ?_
              refine hK.out _ _ trivial (fun _ => ?_)
              clear hK K
              refine norm_ (by simp only [Act.put, List.setIfInBounds_toArray, List.set_cons_zero, List.set_cons_succ]; rfl) ?_
              refine pure_ (i := 9) (N := some 100) (v := ?_) (a' := ?_) #[true, true, true, true, true, true, true, true, true, true, false] rfl rfl (by kernel_rfl) (fun _ _ _ h => h) (Or.inl ⟨by rfl, ?_⟩) ?_ ?_
              rotate_left
              · intro w'
                go_simp
                with_reducible rfl
              rotate_left
              · simp only [Act.put, List.setIfInBounds_toArray, List.set_cons_zero, List.set_cons_succ]
                rfl
              refine pure_ (i := 10) (N := some 101) (v := ?_) (a' := ?_) #[true, true, true, true, true, true, true, true, true, true, true] rfl rfl (by kernel_rfl) (fun _ _ _ h => h) (Or.inl ⟨by rfl, ?_⟩) ?_ ?_
              rotate_left
              · intro w'
                go_simp
                with_reducible rfl
              rotate_left
              · simp only [Act.put, List.setIfInBounds_toArray, List.set_cons_zero, List.set_cons_succ]
                rfl
              refine done_ (by kernel_rfl) ?_
              have HBE := Lib.hid (thn (below_drewN' HBX.out.drew q1) HB6.out)
              have HSE := Lib.hid (((HSG.out.below (Below.refl _ _).drew).drewN q1).below HB6.out)
              go_wp2
              go_ret2
              exact RefsAs.no HNO.out HBE.out rfl
          · skip
            refine value_ (by rfl) rfl (v := .string sB) (w1 := _) (by unfold execOp; simp only [Act.eval]; exact runv_' (HCB.out _ (below_drewN' HBX.out.drew q1))) ?_
            refine hK.out _ _ trivial (fun _ => ?_)
            clear hK K
            refine norm_ (by simp only [Act.put, List.setIfInBounds_toArray, List.set_cons_zero, List.set_cons_succ]; rfl) ?_
            refine one_ (i := 5) (N := some 96) #[true, true, true, true, true, true, false, true, true, false, false] rfl rfl (by kernel_rfl) (by simp) (fun K hK => ?_)
            refine goes_ Try.func25 (by kernel_rfl) rfl #[.slice A5 k c5] (by rfl) rfl rfl (by simp only [List.map_toArray, List.map_cons, List.map_nil]; rfl) ?_
            refine (HBY.out _ ((HSG.out.below (Below.refl _ _).drew).drewN _)).mono ?_
            rintro e w' ⟨A6, n6, c6, rfl, _, hb6, hv6⟩
            refine ⟨_, rfl, ?_⟩
            have HV6 := Lib.hid hv6
            have HB6 := Lib.hid hb6
            clear hb6 hv6
            refine hK.out _ _ trivial (fun _ => ?_)
            clear hK K
            refine norm_ (by simp only [Act.put, List.setIfInBounds_toArray, List.set_cons_zero, List.set_cons_succ]; rfl) ?_
            refine one_ (i := 6) (N := some 97) #[true, true, true, true, true, true, true, true, true, false, false] rfl rfl (by kernel_rfl) (by simp) (fun K hK => ?_)
            refine value_ (by rfl) rfl (v := .string sE) (w1 := _) (by unfold execOp; simp only [Act.eval]; exact runv_' (HV6.out)) ?_
            refine hK.out _ _ trivial (fun _ => ?_)
            clear hK K
            refine norm_ (by simp only [Act.put, List.setIfInBounds_toArray, List.set_cons_zero, List.set_cons_succ]; rfl) ?_
            refine pure_ (i := 9) (N := some 100) (v := ?_) (a' := ?_) #[true, true, true, true, true, true, true, true, true, true, false] rfl rfl (by kernel_rfl) (fun _ _ _ h => h) (Or.inl ⟨by rfl, ?_⟩) ?_ ?_
            rotate_left
            · intro w'
              go_simp
              with_reducible rfl
            rotate_left
            · simp only [Act.put, List.setIfInBounds_toArray, List.set_cons_zero, List.set_cons_succ]
              rfl
            refine pure_ (i := 10) (N := some 101) (v := ?_) (a' := ?_) #[true, true, true, true, true, true, true, true, true, true, true] rfl rfl (by kernel_rfl) (fun _ _ _ h => h) (Or.inl ⟨by rfl, ?_⟩) ?_ ?_
            rotate_left
            · intro w'
              go_simp
              with_reducible rfl
            rotate_left
            · simp only [Act.put, List.setIfInBounds_toArray, List.set_cons_zero, List.set_cons_succ]
              rfl
            refine done_ (by kernel_rfl) ?_
            have HBE := Lib.hid (thn (below_drewN' HBX.out.drew q1) HB6.out)
            have HSE := Lib.hid (((HSG.out.below (Below.refl _ _).drew).drewN q1).below HB6.out)
            go_wp2
            go_ret2
            exact RefsAs.no HNO.out HBE.out rfl
      · have HMAY : Hid (∀ W, Seg W A5 L.length (sts L) → Calls Try.prog 18 #[.slice A5 k c5] W fun e w' => e = .returned (.bool false) ∧ ∃ n, w' = W.drewN n) := fun W h => by
          obtain ⟨bb, h1, h2⟩ := hmc W h
          obtain rfl : bb = false := by
            cases bb
            · rfl
            · exact absurd (h1.1 rfl) hm
          rw [← hLn]; exact h2
        have HNO : Hid (¬ ∃ l, Rd b l) := rd_some HD2.out (fun h => hm h.1)
        clear hm hmc hLn HCB
        go_wp2_with fail
        refine start_ (n := 11) (S := fun w' => True) (ds := []) #[false, false, false, false, false, false, false, false, false, false, false] (by kernel_rfl) rfl rfl trivial (fun _ => ?_)
        refine pure_ (i := 0) (N := some 91) (v := ?_) (a' := ?_) #[true, false, false, false, false, false, false, false, false, false, false] rfl rfl (by kernel_rfl) (fun _ _ _ h => h) (Or.inl ⟨by rfl, ?_⟩) ?_ ?_
        rotate_left
        · intro w'
          go_simp
          with_reducible rfl
        rotate_left
        · simp only [Act.put, List.setIfInBounds_toArray, List.set_cons_zero, List.set_cons_succ]
          rfl
        refine one_ (i := 1) (N := some 92) #[true, true, false, false, false, false, false, false, false, false, false] rfl rfl (by kernel_rfl) (by simp) (fun K hK => ?_)
        refine goes_ Try.func18 (by kernel_rfl) rfl #[.slice A5 k c5] (by rfl) rfl rfl (by simp only [List.map_toArray, List.map_cons, List.map_nil]; rfl) ?_
        refine (HMAY.out _ (HSG.out.below (Below.refl _ _).drew)).mono ?_
        rintro e w' ⟨rfl, q1, rfl⟩
        refine ⟨_, rfl, ?_⟩
        refine hK.out _ _ trivial (fun _ => ?_)
        clear hK K
        refine norm_ (by simp only [Act.put, List.setIfInBounds_toArray, List.set_cons_zero, List.set_cons_succ]; rfl) ?_
        refine pure_ (i := 2) (N := some 93) (v := ?_) (a' := ?_) #[true, true, true, false, false, false, false, false, false, false, false] rfl rfl (by kernel_rfl) (fun _ _ _ h => h) (Or.inl ⟨by rfl, ?_⟩) ?_ ?_
        rotate_left
        · intro w'
          go_simp
          with_reducible rfl
        rotate_left
        · simp only [Act.put, List.setIfInBounds_toArray, List.set_cons_zero, List.set_cons_succ]
          rfl
        refine pure_ (i := 3) (N := some 94) (v := ?_) (a' := ?_) #[true, true, true, true, false, false, false, false, false, false, false] rfl rfl (by kernel_rfl) (fun _ _ _ h => h) (Or.inl ⟨by rfl, ?_⟩) ?_ ?_
        rotate_left
        · intro w'
          go_simp
          with_reducible rfl
        rotate_left
        · simp only [Act.put, List.setIfInBounds_toArray, List.set_cons_zero, List.set_cons_succ]
          rfl
        refine pure_ (i := 4) (N := some 95) (v := undef) (a' := ?_) #[true, true, true, true, true, false, false, false, false, false, false] rfl rfl (by kernel_rfl) (fun _ _ _ h => h) (Or.inr ⟨by rfl, rfl⟩) ?_ ?_
        rotate_left
        · simp only [Act.put, List.setIfInBounds_toArray, List.set_cons_zero, List.set_cons_succ]
          rfl
        refine pure_ (i := 5) (N := some 96) (v := undef) (a' := ?_) #[true, true, true, true, true, true, false, false, false, false, false] rfl rfl (by kernel_rfl) (fun _ _ _ h => h) (Or.inr ⟨by rfl, rfl⟩) ?_ ?_
        rotate_left
        · simp only [Act.put, List.setIfInBounds_toArray, List.set_cons_zero, List.set_cons_succ]
          rfl
        refine pure_ (i := 6) (N := some 97) (v := undef) (a' := ?_) #[true, true, true, true, true, true, true, false, false, false, false] rfl rfl (by kernel_rfl) (fun _ _ _ h => h) (Or.inr ⟨by rfl, rfl⟩) ?_ ?_
        rotate_left
        · simp only [Act.put, List.setIfInBounds_toArray, List.set_cons_zero, List.set_cons_succ]
          rfl
        refine pure_ (i := 7) (N := some 98) (v := undef) (a' := ?_) #[true, true, true, true, true, true, true, true, false, false, false] rfl rfl (by kernel_rfl) (fun _ _ _ h => h) (Or.inr ⟨by rfl, rfl⟩) ?_ ?_
        rotate_left
        · simp only [Act.put, List.setIfInBounds_toArray, List.set_cons_zero, List.set_cons_succ]
          rfl
        refine pure_ (i := 8) (N := some 99) (v := undef) (a' := ?_) #[true, true, true, true, true, true, true, true, true, false, false] rfl rfl (by kernel_rfl) (fun _ _ _ h => h) (Or.inr ⟨by rfl, rfl⟩) ?_ ?_
        rotate_left
        · simp only [Act.put, List.setIfInBounds_toArray, List.set_cons_zero, List.set_cons_succ]
          rfl
        refine pure_ (i := 9) (N := some 100) (v := undef) (a' := ?_) #[true, true, true, true, true, true, true, true, true, true, false] rfl rfl (by kernel_rfl) (fun _ _ _ h => h) (Or.inr ⟨by rfl, rfl⟩) ?_ ?_
        rotate_left
        · simp only [Act.put, List.setIfInBounds_toArray, List.set_cons_zero, List.set_cons_succ]
          rfl
        refine pure_ (i := 10) (N := some 101) (v := ?_) (a' := ?_) #[true, true, true, true, true, true, true, true, true, true, true] rfl rfl (by kernel_rfl) (fun _ _ _ h => h) (Or.inl ⟨by rfl, ?_⟩) ?_ ?_
        rotate_left
        · intro w'
          go_simp
          with_reducible rfl
        rotate_left
        · simp only [Act.put, List.setIfInBounds_toArray, List.set_cons_zero, List.set_cons_succ]
          rfl
        refine done_ (by kernel_rfl) ?_
        have HBE := Lib.hid (below_drewN' HBX.out.drew q1)
        go_wp2
        go_ret2
        exact RefsAs.no HNO.out HBE.out rfl
end Go.Proofs.Ytjnamiiiceggmaa
