/- The walk of FrontBack. -/
import Derived.Test.YtjnamiiiceggmaaOne
namespace Go.Proofs.Ytjnamiiiceggmaa
open Go.RowKit Go.Lib Fp

theorem loc_own {l : List ByteArray} (h : May l) {i : Nat} (hi : i < l.length) : loc (tx l) l[i].data.toList = i + 1 := by
  rw [← tx_get l i hi]
  exact loc_at h.srt (by rw [tx_len]; exact hi)
theorem quiet_at {f : FuncId} {args : Array Value} {v : Value} {w : World} {n x : Nat} (h : Calls Try.prog f args (w.drewN (n + x)) fun e w' => e = .returned v ∧ ∃ q, w' = (w.drewN (n + x)).drewN q) :
    Calls Try.prog f args (w.drewN (n + x)) fun e w'' => e = .returned v ∧ ∃ m, w'' = w.drewN (n + m) :=
  h.mono fun _ _ ⟨he, q, hw⟩ => ⟨he, x + q, by rw [hw, World.drewN_drewN, Nat.add_assoc]⟩
theorem rd_cut {l : List ByteArray} (hm : May l) {q : Nat} (hq : q < (enc (tx l)).length) : ¬ ∃ l', Rd ((enc (tx l)).take q) l' := fun ⟨l', h⟩ => by
  have := enc_free (tx l') (tx l) h.1.small (by rw [tx_len]; exact h.1.1) hm.small (by rw [tx_len]; exact hm.1) ((enc (tx l)).drop q) (by rw [h.2, List.take_append_drop])
  have h2 := congrArg List.length this.1
  rw [List.length_drop] at h2
  simp at h2
  omega
theorem rd_more {l : List ByteArray} (hm : May l) (x : UInt8) : ¬ ∃ l', Rd (enc (tx l) ++ [x]) l' := fun ⟨l', h⟩ => by
  have := enc_free (tx l) (tx l') hm.small (by rw [tx_len]; exact hm.1) h.1.small (by rw [tx_len]; exact h.1.1) [x] h.2.symm
  exact absurd this.1 (by simp)
theorem read_slice (blk c n : Nat) (b : List UInt8) (w : World) (hn : b.length = n) (h : Seg w (some ⟨blk, 0, none⟩) n (bys b)) (hbig : n ≤ 80000) (hc : n ≤ c) :
    Calls Try.prog 20 #[.slice (some ⟨blk, 0, none⟩) n c] w (ReadsAs w b) := by
  subst hn
  by_cases h2 : b.length < 2
  · exact read_short _ c b w h2
  · exact read_main blk c b w h (by omega) hbig hc
theorem seg_take {w : World} {A : Option Addr} {E : List UInt8} (h : Seg w A E.length (bys E)) (q : Nat) (hq : q ≤ E.length) : Seg w A q (bys (E.take q)) := by
  have hl : (E.take q).length = q := by rw [List.length_take]; omega
  refine ⟨by rw [bys_len, hl], fun h0 => ?_⟩
  obtain ⟨ad, e, hc⟩ := h.cell (by omega)
  refine ⟨ad, e, fun j u hu => hc j u ?_⟩
  have hj : j < q := by have := (List.getElem?_eq_some_iff.1 hu).1; rwa [bys_len, hl] at this
  rw [← hu]
  unfold bys
  rw [List.getElem?_map, List.getElem?_map, List.getElem?_take_of_lt hj]

set_option maxHeartbeats 4000000 in
set_option maxRecDepth 100000 in
theorem back_main (A : Option Addr) (c : Nat) (l : List ByteArray) (a1 : Int) (w : World) (hs : Seg w A l.length (sts l)) (hm : May l) (_ : l.length ≤ c) (_ : (Lit.int .i64 a1).wf = true)
    (hlong : Calls Try.prog 17 #[.slice A l.length c] w fun e w' => e = .returned (.bool false) ∧ w = w')
    (hmay : Calls Try.prog 18 #[.slice A l.length c] w fun e w' => e = .returned (.bool true) ∧ ∃ n, w' = w.drewN n) :
    Calls Try.prog 7 #[.slice A l.length c, .int .i64 a1] w fun e w' => e = .returned (.bool true) ∧ Below w.heap.size w w' := by
  have hlen := hm.1
  obtain ⟨q, hq, hqe⟩ := and_mask a1 65535 (by omega)
  have hqe' : bits .and .i64 a1 65535 = (q : Int) := hqe
  clear hqe
  have HS := Lib.hid hs
  have HM := Lib.hid hm
  clear hs hm
  obtain ⟨E, hE⟩ : ∃ E, E = enc (tx l) := ⟨_, rfl⟩
  have hEE : 2 ≤ E.length ∧ E.length ≤ 75602 := by rw [hE]; exact enc_le HM.out
  obtain ⟨hE2, hEb⟩ := hEE
  have hr : (q : Int).tmod (E.length : Int) = ((q % E.length : Nat) : Int) := by rw [Int.tmod_eq_emod_of_nonneg (by omega)]; rfl
  have hrl : q % E.length < E.length := Nat.mod_lt _ (by omega)
  have HCUT : Hid (∀ r, r < E.length → ¬ ∃ l', Rd (E.take r) l') := by
    subst hE; exact fun r hr => rd_cut HM.out hr
  have HMORE : Hid (¬ ∃ l', Rd (E ++ [0]) l') := by
    subst hE; exact rd_more HM.out 0
  have HRD : Hid (Rd E l) := by
    subst hE; exact ⟨HM.out, rfl⟩
  have HCL : Hid (∀ g W, Dic W g l → Calls Try.prog 13 #[.pointer (some ⟨g, 0, none⟩)] W fun e w' => ∃ v, e = .returned v ∧ w'.ownsRow W.heap.size 5 1 v E.length (bys E) ∧ Below W.heap.size W w') := by
    subst hE; exact fun g W h => bytes_calls g l W h
  clear hE
  obtain ⟨i0, hi, hz0, hz1, hz2⟩ := info_parts info5
  go_enter Try.func7, Try.ntmps7
  go_wp2_with fail
  refine hlong.mono ?_
  rintro e w' ⟨rfl, rfl⟩
  go_wp2_with fail
  refine hmay.mono ?_
  rintro e w' ⟨rfl, nq, rfl⟩
  clear hlong hmay
  go_wp2_with fail
  refine (new_yes A c l _ (HS.out.drewN nq) HM.out).mono ?_
  rintro e w1 ⟨g, rfl, _, hd1, hb1⟩
  have HB1 := Lib.hid (thn (below_drewN' (Below.refl _ _) nq) hb1)
  have HD1 := Lib.hid hd1
  clear hb1 hd1
  go_wp2_with fail
  refine (HCL.out g _ HD1.out).mono ?_
  rintro e w2 ⟨v, rfl, hown, hb2⟩
  have HB2 := Lib.hid (thn HB1.out hb2)
  have HD2 := Lib.hid (HD1.out.below hb2)
  clear hb2
  obtain ⟨gb, cap, rfl⟩ : ∃ gb cap, v = .slice (some ⟨gb, 0, none⟩) E.length cap := by
    rcases hown.2 with ⟨_, h0⟩ | ⟨g, cap, cur, he, _⟩
    · omega
    · exact ⟨g, cap, he⟩
  have hcapl : E.length ≤ cap := by
    rcases hown.2 with ⟨h, _⟩ | ⟨g, cap', cur, he, _, _, hcap, _⟩
    · cases h
    · injection he with _ _ e3
      subst e3; exact hcap
  have HSEG := Lib.hid (Seg.of_own hown)
  clear hown
  go_wp2_with fail
  refine (read_slice gb cap E.length E w2 rfl HSEG.out (by omega) hcapl).mono ?_
  rintro e w3 ⟨hres, hb3⟩
  rcases hres with ⟨l2, g2, hrd, rfl, hd⟩ | ⟨hno, rfl⟩
  · have el : l2 = l := hrd.uniq HRD.out
    rw [el] at hd
    have HB3 := Lib.hid (thn HB2.out hb3)
    have HD3 := Lib.hid (HD2.out.below hb3)
    have HG3 := Lib.hid hd
    have HSEG3 := Lib.hid (HSEG.out.below hb3)
    clear hb3 hd hrd el
    generalize hrr : q % E.length = r at hr hrl
    clear hrr
    have hrc : (r : Int) ≤ (cap : Int) := by omega
    go_wp2_with fail
    refine (read_slice gb cap r (E.take r) w3 (by rw [List.length_take]; omega) (seg_take HSEG3.out r (by omega)) (by omega) (by omega)).mono ?_
    rintro e w4 ⟨hres, hb4⟩
    rcases hres with ⟨l2, g2, hrd, rfl, hd⟩ | ⟨hno, rfl⟩
    · exact absurd ⟨l2, hrd⟩ (HCUT.out r hrl)
    · have HB4 := Lib.hid (thn HB3.out hb4)
      have HD4 := Lib.hid (HD3.out.below hb4)
      have HG4 := Lib.hid (HG3.out.below hb4)
      have HSEG4 := Lib.hid (HSEG3.out.below hb4)
      clear hb4 hno hqe' hr
      go_wp2_with (at_builtin; refine wpList_append_seg _ rfl (.tmp 55) (.tmp 56) 23 rfl w4.heap.size 5 i0 (.int .u8 0) 1 Try.underlying23 hi hz0 hz1 hz2 rfl _ 0 [] rfl (World.ownsRow_made w4 #[] 0 (Nat.le_refl _) (Nat.zero_le _) (by simp)) (some ⟨gb, 0, none⟩) E.length cap (bys E) rfl ?c0 (bys_one _) ?c1 ?c2 ?c3 ?_)
      case c0 => exact HSEG4.out.below ((Below.refl _ _).alloc (Nat.le_refl _) _)
      case c1 => unfold maxLen; omega
      case c2 => omega
      case c3 => simp
      intro v5 w5 hown5 hg5
      have hB5 : Below w4.heap.size w4 w5 := ((Below.refl _ w4).alloc (Nat.le_refl _) _).grown hg5 (by simp) (by intro k hk; simp [Value.ownBlock] at hk; omega)
      have hs5 := hB5.size
      have hown5' : w5.ownsRow w4.heap.size 5 1 v5 E.length (bys E) := by simpa using hown5
      have HO5 := Lib.hid hown5'
      clear hown5 hown5' hg5
      go_wp2_with (at_builtin; refine wpList_append_own _ rfl (.tmp 57) (.tmp 58) 23 rfl w4.heap.size 5 i0 (.int .u8 0) 1 1 Try.underlying23 hi hz0 hz1 hz2 rfl (by decide) v5 E.length (bys E) rfl (HO5.out.alloc _) ⟨w5.heap.size, 0, none⟩ 1 1 [.int .u8 0] rfl rfl ?d1 ?d2 ?d3 ?d4 ?d5 ?_)
      case d1 => exact fun j u hj => by rw [add_zero']; exact cells_new w5 _ 5 j u hj
      case d2 => intro u hu; simp at hu; rcases hu with rfl; rfl
      case d3 => unfold maxLen; omega
      case d4 => omega
      case d5 => simp; omega
      intro v6 w6 hown6 hg6 _
      have hB6 : Below w4.heap.size w4 w6 := (hB5.alloc hs5 _).grown hg6 (by simp; omega) (fun j hj => (HO5.out.lt j hj).1)
      have hrow : w6.ownsRow w4.heap.size 5 1 v6 (E.length + 1) (bys (E ++ [0])) := by
        rw [bys_app, show bys [0] = [.int .u8 0] from rfl]
        exact hown6
      have HROW := Lib.hid hrow
      have HB6 := Lib.hid (thn HB4.out hB6)
      have HD6 := Lib.hid (HD4.out.below hB6)
      have HG6 := Lib.hid (HG4.out.below hB6)
      clear hrow hown6 hg6 hB5 hB6 hs5
      go_wp2_with fail
      refine (read_own' v6 w4.heap.size (E.length + 1) (E ++ [0]) w6 (by simp) HROW.out (by omega)).mono ?_
      rintro e w7 ⟨hres, hb7⟩
      rcases hres with ⟨l2, g2, hrd, rfl, hd⟩ | ⟨hno, rfl⟩
      · exact absurd ⟨l2, hrd⟩ HMORE.out
      · have HB7 := Lib.hid (thn HB6.out hb7)
        have HD7 := Lib.hid (HD6.out.below hb7)
        have HG7 := Lib.hid (HG6.out.below hb7)
        have HS7 := Lib.hid (HS.out.below (thn HB6.out hb7))
        clear hb7 hno
        go_wp2_with fail
        refine (texts_calls g2 A c l _ HG7.out HS7.out).mono ?_
        rintro e w' ⟨rfl, rfl⟩
        have HL1 := Lib.hid fun m s => locate_calls g2 l s (w7.drewN m) (HG7.out.drewN m)
        have HL2 := Lib.hid fun m s => locate_calls g l s (w7.drewN m) (HD7.out.drewN m)
        have HL3 := Lib.hid fun m s => (refLoc_calls A c l s (w7.drewN m) (HS7.out.drewN m) (by omega)).mono fun _ w' (hh : _ ∧ w7.drewN m = w') => (⟨hh.1, 0, hh.2.symm⟩ : _ ∧ ∃ q, w' = (w7.drewN m).drewN q)
        go_wp2
        go_loopw [14] (fun i wr => ∃ k n : Nat, k ≤ l.length ∧ i = .int .i64 k ∧ wr = w7.drewN n) (fun i _ => l.length - (intOf i).toNat)
        case atStart => exact ⟨0, 0, Nat.zero_le _, rfl, rfl⟩
        case round =>
          obtain ⟨k, n, hk, rfl, rfl⟩ := hrel
          by_cases hlt : k < l.length
          · obtain ⟨ad, rfl, hc⟩ := HS7.out.str hlt
            have h1 := fun m => HL1.out m l[k]
            rw [loc_own HM.out hlt] at h1
            have h1' : Hid (∀ m, Calls Try.prog 16 #[.pointer (some ⟨g2, 0, none⟩), .string l[k]] (w7.drewN m) fun e w' => e = .returned (.int .i64 ((k : Int) + 1)) ∧ ∃ q, w' = (w7.drewN m).drewN q) := h1
            have hsz := (HM.out.2 k hlt).2.2.1
            clear h1
            generalize l[k] = s at hc h1' hsz
            have h2 := fun x => HL2.out x (s ++ ⟨#[0]⟩)
            have h3 := fun x => HL3.out x (s ++ ⟨#[0]⟩)
            generalize loc (tx l) (s ++ ⟨#[0]⟩).data.toList = m at h2 h3
            have H2 := Lib.hid h2
            have H3 := Lib.hid h3
            clear h2 h3
            have e1 : IntKind.i64.wrap ((k : Int) + 1) = (k : Int) + 1 := by rw [IntKind.wrap_i64]; omega
            have hcat : (9223372036854775807 < s.size + 1) = False := eq_false (by omega)
            go_wp2
            go_quiet (first | (go_at_call 23; with_reducible exact quiet_at (H3.out _)) | (go_at_call 16; with_reducible exact quiet_at (h1'.out _)) | (go_at_call 16; with_reducible exact quiet_at (H2.out _)))
            clear e1 hcat
            go_wp2
            go_roundw
            case rel => exact ⟨k + 1, _, by omega, by go_num, rfl⟩
            case measure => simp [intOf]; omega
          · go_wp2_with fail
            refine (known_calls _).mono ?_
            rintro e w8 ⟨rfl, hb8⟩
            have HB8 := Lib.hid (thn (below_drewN' HB7.out n) hb8)
            clear hb8
            go_wp2
            go_ret
            exact ⟨rfl, HB8.out⟩
  · exact absurd ⟨l, HRD.out⟩ hno

set_option maxHeartbeats 4000000 in
set_option maxRecDepth 100000 in
theorem back_walk (A : Option Addr) (c : Nat) (l : List ByteArray) (a1 : Int) (w : World) (h : Txs w A c l) (hw1 : (Lit.int .i64 a1).wf = true) :
    Calls Try.prog 7 #[.slice A l.length c, .int .i64 a1] w fun e w' => e = .returned (.bool true) ∧ Below w.heap.size w w' := by
  obtain ⟨bl, hbl, hlong⟩ := long_calls A c l w h
  cases bl
  · have htot := hbl rfl
    have hlen := tot_ge l l.length
    have hl20 : l.length ≤ 20000 := by omega
    obtain ⟨bm, hbm, hmay⟩ := may_calls A c l w h.seg (by omega)
    have hcap := h.cap
    cases bm
    · clear hbl hbm h htot hlen
      go_enter Try.func7, Try.ntmps7
      go_wp2_with fail
      refine hlong.mono ?_
      rintro e w' ⟨rfl, rfl⟩
      go_wp2_with fail
      refine hmay.mono ?_
      rintro e w' ⟨rfl, q, rfl⟩
      go_wp2_with fail
      go_ret
      exact ⟨rfl, below_drewN' (Below.refl _ _) q⟩
    · exact back_main A c l a1 w h.seg (hbm.1 rfl) hcap hw1 hlong hmay
  · clear hbl h
    go_enter Try.func7, Try.ntmps7
    go_wp2_with fail
    refine hlong.mono ?_
    rintro e w' ⟨rfl, rfl⟩
    go_wp2_with fail
    go_ret
    exact ⟨rfl, Below.refl _ _⟩
end Go.Proofs.Ytjnamiiiceggmaa
