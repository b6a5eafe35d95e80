/- The walk of FrontOne. -/
import Derived.Test.YtjnamiiiceggmaaReads
import Derived.Laws.OwnMore
namespace Go.Proofs.Ytjnamiiiceggmaa
open Go.RowKit Go.Lib Fp

theorem read_own' (v : Value) (base n : Nat) (b : List UInt8) (w : World) (hn : b.length = n) (h : w.ownsRow base 5 1 v n (bys b)) (hbig : n ≤ 80000) :
    Calls Try.prog 20 #[v] w (ReadsAs w b) := by
  subst hn; exact read_own v base b w h hbig
theorem refRead_any' (A : Option Addr) (c n : Nat) (b : List UInt8) (w : World) (hn : b.length = n) (h : Seg w A n (bys b)) (hbig : n ≤ 80000) (hc : n ≤ c) :
    Calls Try.prog 21 #[.slice A n c] w (RefsAs w b) := by
  subst hn; exact refRead_any A c b w h hbig hc
theorem encF_le : ∀ (X : List (List UInt8)) (i : Nat) (p : List UInt8), (∀ s ∈ X, s.length ≤ 250) → (encF i p X).length ≤ 252 * X.length
  | [], _, _, _ => by simp [encF]
  | s :: r, i, p, h => by
    show (ent i p s ++ encF (i + 1) s r).length ≤ _
    have h1 := ent_le i p s
    have h2 := encF_le r (i + 1) s (fun x hx => h x (List.mem_cons_of_mem _ hx))
    have h3 := h s List.mem_cons_self
    rw [List.length_append, List.length_cons]
    omega
theorem enc_le {l : List ByteArray} (h : May l) : 2 ≤ (enc (tx l)).length ∧ (enc (tx l)).length ≤ 75602 := by
  have h1 := encF_le (tx l) 0 [] h.small
  rw [tx_len] at h1
  have h2 := h.1
  unfold enc
  simp only [List.length_cons]
  omega
theorem at_start (l : List ByteArray) : (enc (tx l)).drop 2 = encF 0 (prv l 0) ((tx l).drop 0) := by
  have : ∀ X : List (List UInt8), encF 0 (prv l 0) X = encF 0 [] X := by
    intro X
    cases X with
    | nil => rfl
    | cons s r => show ent 0 _ s ++ _ = ent 0 _ s ++ _; rw [ent_prev 0 (prv l 0) [] s rfl]
  rw [this]
  rfl
theorem at_next {l : List ByteArray} {k off : Nat} (hm : May l) (hk : k < l.length) (h : (enc (tx l)).drop off = encF k (prv l k) ((tx l).drop k)) :
    ∃ (h1 : off + 2 ≤ (enc (tx l)).length), off + 2 + ((enc (tx l))[off + 1]'(by omega)).toNat ≤ (enc (tx l)).length ∧ (enc (tx l)).drop (off + 2 + ((enc (tx l))[off + 1]'(by omega)).toNat) = encF (k + 1) (prv l (k + 1)) ((tx l).drop (k + 1)) := by
  rw [tx_drop l k hk] at h
  have h2 : (enc (tx l)).drop off = ent k (prv l k) l[k].data.toList ++ encF (k + 1) l[k].data.toList ((tx l).drop (k + 1)) := h
  have hs := (hm.2 k hk).2.2.1
  have hsl : l[k].data.toList.length = l[k].size := Array.length_toList
  have hl := congrArg List.length h2
  rw [List.length_append, ent_len, List.length_drop] at hl
  have h1 : off + 2 ≤ (enc (tx l)).length := by omega
  have hb : ((enc (tx l))[off + 1]'(by omega)).toNat = l[k].data.toList.length - com k (prv l k) l[k].data.toList := by
    have e : (enc (tx l))[off + 1]? = some (UInt8.ofNat (l[k].data.toList.length - com k (prv l k) l[k].data.toList)) := by
      rw [← List.getElem?_drop, h2]; rfl
    rw [List.getElem?_eq_getElem (by omega)] at e
    rw [Option.some.inj e, UInt8.toNat_ofNat']
    omega
  refine ⟨h1, by omega, ?_⟩
  rw [hb, Nat.add_assoc, ← List.drop_drop, h2, ← ent_len k (prv l k) l[k].data.toList, List.drop_left, prv_at l (k + 1) (by omega)]
  rfl
theorem stored_bytes {W : World} {B g n cap : Nat} {E : List UInt8} (h : W.ownsRow B 5 1 (.slice (some ⟨g, 0, none⟩) n cap) n (bys E)) (off : Nat) (Z : Int) (h0 : 0 ≤ Z) (h1 : Z < 256) :
    ∃ E' : List UInt8, E'.length = E.length ∧ (W.setCell ⟨g, off, none⟩ (.int .u8 Z)).ownsRow B 5 1 (.slice (some ⟨g, 0, none⟩) n cap) n (bys E') := by
  refine ⟨E.set off (UInt8.ofNat Z.toNat), List.length_set, ?_⟩
  have hs := (h.stored off (.int .u8 Z)).1
  have he : (bys E).set off (.int .u8 Z) = bys (E.set off (UInt8.ofNat Z.toNat)) := by
    unfold bys
    rw [List.map_set]
    congr 2
    rw [UInt8.toNat_ofNat']; omega
  rwa [he] at hs
theorem and_mask (x : Int) (m : Nat) (hm : m ≤ 65535) : ∃ q : Nat, q ≤ m ∧ bits .and .i64 x (m : Int) = (q : Int) := by
  refine ⟨(BitVec.ofInt 64 x &&& BitVec.ofInt 64 (m : Int)).toNat, ?_, ?_⟩
  · rw [BitVec.toNat_and, BitVec.ofInt_natCast, BitVec.toNat_ofNat]
    refine Nat.le_trans Nat.and_le_right ?_
    exact Nat.mod_le _ _
  · have hq : (BitVec.ofInt 64 x &&& BitVec.ofInt 64 (m : Int)).toNat ≤ m := by
      rw [BitVec.toNat_and, BitVec.ofInt_natCast, BitVec.toNat_ofNat]
      exact Nat.le_trans Nat.and_le_right (Nat.mod_le _ _)
    show IntKind.i64.wrap _ = _
    generalize hw : (BitVec.ofInt 64 x &&& BitVec.ofInt 64 (m : Int)).toNat = q at hq
    rw [IntKind.wrap_i64]
    have hw' : (((BitVec.ofInt 64 x &&& BitVec.ofInt 64 (m : Int)).toNat : Nat) : Int) = (q : Int) := by rw [hw]
    first | (rw [hw']; omega) | (erw [hw']; omega)

set_option maxHeartbeats 4000000 in
set_option maxRecDepth 100000 in
theorem one_main (A : Option Addr) (c : Nat) (l : List ByteArray) (a1 a2 : Int) (w : World) (hs : Seg w A l.length (sts l)) (hm : May l) (hl2 : 2 ≤ l.length) (ha2 : ¬ a2 = 0) (_ : l.length ≤ c) (_ : (Lit.int .i64 a1).wf = true) (_ : (Lit.int .i64 a2).wf = true)
    (hlong : Calls Try.prog 17 #[.slice A l.length c] w fun e w' => e = .returned (.bool false) ∧ w = w')
    (hmay : Calls Try.prog 18 #[.slice A l.length c] w fun e w' => e = .returned (.bool true) ∧ ∃ n, w' = w.drewN n) :
    Calls Try.prog 9 #[.slice A l.length c, .int .i64 a1, .int .i64 a2] w fun e w' => e = .returned (.bool true) ∧ Below w.heap.size w w' := by
  have hlen := hm.1
  obtain ⟨q, hq, hqe⟩ := and_mask a1 1023 (by omega)
  have hqe' : bits .and .i64 a1 1023 = (q : Int) := hqe
  clear hqe
  have hr : (q : Int).tmod (l.length : Int) = ((q % l.length : Nat) : Int) := by rw [Int.tmod_eq_emod_of_nonneg (by omega)]; rfl
  have hrl : q % l.length < l.length := Nat.mod_lt _ (by omega)
  have ha2b : (a2 == 0) = false := beq_eq_false_iff_ne.2 ha2
  have HS := Lib.hid hs
  have HM := Lib.hid hm
  clear hs hm
  obtain ⟨E, hE⟩ : ∃ E, E = enc (tx l) := ⟨_, rfl⟩
  have hEE : 2 ≤ E.length ∧ E.length ≤ 75602 := by rw [hE]; exact enc_le HM.out
  obtain ⟨hE2, hEb⟩ := hEE
  have HAT : Hid (E.drop 2 = encF 0 (prv l 0) ((tx l).drop 0)) := by
    show E.drop 2 = _
    rw [hE]; exact at_start l
  have HNX : Hid (∀ k off, k < l.length → E.drop off = encF k (prv l k) ((tx l).drop k) → ∃ (h1 : off + 2 ≤ E.length), off + 2 + (E[off + 1]'(by omega)).toNat ≤ E.length ∧ E.drop (off + 2 + (E[off + 1]'(by omega)).toNat) = encF (k + 1) (prv l (k + 1)) ((tx l).drop (k + 1))) := by
    subst hE
    exact fun k off hk h => at_next HM.out hk h
  have HCL : Hid (∀ W, Seg W A l.length (sts l) → Calls Try.prog 25 #[.slice A l.length c] W fun e w' => ∃ v, e = .returned v ∧ w'.ownsRow W.heap.size 5 1 v E.length (bys E) ∧ Below W.heap.size W w') := by
    subst hE
    exact fun W h => refBytes_calls A c l W h HM.out
  clear hE
  go_enter Try.func9, Try.ntmps9
  go_wp2_with fail
  refine hlong.mono ?_
  rintro e w' ⟨rfl, rfl⟩
  go_wp2_with fail
  refine hmay.mono ?_
  rintro e w' ⟨rfl, nq, rfl⟩
  clear hlong hmay
  go_wp2_with fail
  refine (HCL.out _ (HS.out.drewN nq)).mono ?_
  rintro e w1 ⟨v, rfl, hown, hb1⟩
  have HB1 := Lib.hid (thn (below_drewN' (Below.refl _ _) nq) hb1)
  clear hb1
  obtain ⟨gb, cap, rfl⟩ : ∃ gb cap, v = .slice (some ⟨gb, 0, none⟩) E.length cap := by
    rcases hown.2 with ⟨_, h0⟩ | ⟨g, cap, cur, he, _⟩
    · omega
    · exact ⟨g, cap, he⟩
  have hcapl : E.length ≤ cap := by
    rcases hown.2 with ⟨h, _⟩ | ⟨g, cap', cur, he, _, _, hcap, _⟩
    · cases h
    · injection he with _ _ e3
      subst e3; exact hcap
  have HSEG : Hid (∀ j (hj : j < E.length), w1.cell? ⟨gb, j, none⟩ = some (.int .u8 (E[j].toNat : Int))) := fun j hj => by
    obtain ⟨ad, e, hc⟩ := (Seg.of_own hown).byte hj
    cases e
    rw [add_zero'] at hc; exact hc
  have hfro := fun j => hown.frozenAt j
  have HFRO := Lib.hid hfro
  have hgb : w.heap.size ≤ gb := (hown.lt gb rfl).1
  have HOWN := Lib.hid hown
  clear hown hfro
  generalize hrr : q % l.length = r at hr hrl
  clear hrr
  go_wp2
  clear hqe' hr
  go_loop [9, 10] (fun v9 v10 => ∃ k off : Nat, k ≤ r ∧ v10 = .int .i64 k ∧ v9 = .int .i64 off ∧ off ≤ E.length ∧ Hid (E.drop off = encF k (prv l k) ((tx l).drop k))) (fun _ v10 => r - (intOf v10).toNat)
  case atStart => exact ⟨0, 2, Nat.zero_le _, rfl, rfl, hE2, HAT⟩
  case round =>
    obtain ⟨k, off, hk, rfl, rfl, ho, HD⟩ := hrel
    obtain ⟨h1, h2, h3⟩ := HNX.out k off (by omega) HD.out
    by_cases hlt : k < r
    · have hc := HSEG.out (off + 1) (by omega)
      generalize E[off + 1].toNat = cv at hc h2 h3
      have HD2 := Lib.hid h3
      clear h3
      go_wp2
      go_round
      case rel => exact ⟨k + 1, off + 2 + cv, by omega, by go_num, by go_num, h2, HD2⟩
      case measure => simp [intOf]; omega
    · have hc := HSEG.out off (by omega)
      have hf := HFRO.out off
      clear h2 h3
      have lb := byte_le E[off]
      generalize E[off].toNat = bv at hc lb
      go_wp2_with fail
      obtain ⟨E', hl', hown'⟩ := stored_bytes HOWN.out off (((bv : Int) + a2) % 256) (by omega) (by omega)
      have HB2 : Hid (Below w.heap.size w (w1.setCell ⟨gb, off, none⟩ (.int .u8 (((bv : Int) + a2) % 256)))) := HB1.out.setCell hgb _
      generalize w1.setCell ⟨gb, off, none⟩ (.int .u8 (((bv : Int) + a2) % 256)) = W at hown' HB2 ⊢
      have HOWN' := Lib.hid hown'
      have HL' := Lib.hid hl'
      clear hown' hl' hc hf
      refine (read_own' _ _ E.length E' W HL'.out HOWN'.out (by omega)).mono ?_
      rintro e w2 ⟨hres, hb2⟩
      have HB3 := Lib.hid (thn HB2.out hb2)
      have HSEG' := Lib.hid ((Seg.of_own HOWN'.out).below hb2)
      clear hb2
      have HRR := Lib.hid (refRead_any' (some ⟨gb, 0, none⟩) cap E.length E' w2 HL'.out HSEG'.out (by omega) hcapl)
      rcases hres with ⟨l2, g, hrd, rfl, hd⟩ | ⟨hno, rfl⟩
      · have HRD := Lib.hid hrd
        have HD1 := Lib.hid hd
        clear hrd hd
        go_wp2_with fail
        refine HRR.out.mono ?_
        rintro e w3 ⟨hres, hb3⟩
        have HB4 := Lib.hid (thn HB3.out hb3)
        have HD4 := Lib.hid (HD1.out.below hb3)
        clear hb3
        rcases hres with ⟨l3, A2, c2, hrd2, rfl, hseg⟩ | ⟨hno, rfl⟩
        · have el : l3 = l2 := hrd2.uniq HRD.out
          rw [el] at hseg ⊢
          have HSG := Lib.hid hseg
          clear hrd2 hseg el
          go_wp2_with fail
          refine (texts_calls g A2 c2 l2 _ HD4.out HSG.out).mono ?_
          rintro e w' ⟨rfl, rfl⟩
          go_wp2_with fail
          refine (known_calls _).mono ?_
          rintro e w5 ⟨rfl, hb5⟩
          have HB5 := Lib.hid (thn HB4.out hb5)
          clear hb5
          go_wp2
          go_ret
          exact ⟨rfl, HB5.out⟩
        · exact absurd ⟨l2, HRD.out⟩ hno
      · have HNO := Lib.hid hno
        clear hno
        go_wp2_with fail
        refine HRR.out.mono ?_
        rintro e w3 ⟨hres, hb3⟩
        have HB4 := Lib.hid (thn HB3.out hb3)
        clear hb3
        rcases hres with ⟨l3, A2, c2, hrd2, rfl, hseg⟩ | ⟨hno, rfl⟩
        · exact absurd ⟨l3, hrd2⟩ HNO.out
        · clear hno
          go_wp2_with fail
          refine (known_calls _).mono ?_
          rintro e w5 ⟨rfl, hb5⟩
          have HB5 := Lib.hid (thn HB4.out hb5)
          clear hb5
          go_wp2
          go_ret
          exact ⟨rfl, HB5.out⟩

set_option maxHeartbeats 4000000 in
set_option maxRecDepth 100000 in
theorem one_walk (A : Option Addr) (c : Nat) (l : List ByteArray) (a1 a2 : Int) (w : World) (h : Txs w A c l) (hw1 : (Lit.int .i64 a1).wf = true) (hw2 : (Lit.int .i64 a2).wf = true) :
    Calls Try.prog 9 #[.slice A l.length c, .int .i64 a1, .int .i64 a2] w fun e w' => e = .returned (.bool true) ∧ Below w.heap.size w w' := by
  obtain ⟨bl, hbl, hlong⟩ := long_calls A c l w h
  cases bl
  · have htot := hbl rfl
    have hlen := tot_ge l l.length
    have hl20 : l.length ≤ 20000 := by omega
    obtain ⟨bm, hbm, hmay⟩ := may_calls A c l w h.seg (by omega)
    have hcap := h.cap
    cases bm
    · clear hbl hbm h htot hlen
      go_enter Try.func9, Try.ntmps9
      go_wp2_with fail
      refine hlong.mono ?_
      rintro e w' ⟨rfl, rfl⟩
      go_wp2_with fail
      refine hmay.mono ?_
      rintro e w' ⟨rfl, q, rfl⟩
      go_wp2_with fail
      go_ret
      exact ⟨rfl, below_drewN' (Below.refl _ _) q⟩
    · have hm := hbm.1 rfl
      by_cases h2 : l.length < 2
      · clear hbl hbm h htot hm hlen
        go_enter Try.func9, Try.ntmps9
        go_wp2_with fail
        refine hlong.mono ?_
        rintro e w' ⟨rfl, rfl⟩
        go_wp2_with fail
        refine hmay.mono ?_
        rintro e w' ⟨rfl, q, rfl⟩
        go_wp2_with fail
        go_ret
        exact ⟨rfl, below_drewN' (Below.refl _ _) q⟩
      · by_cases h0 : a2 = 0
        · subst h0
          clear hbl hbm h htot hm hlen
          go_enter Try.func9, Try.ntmps9
          go_wp2_with fail
          refine hlong.mono ?_
          rintro e w' ⟨rfl, rfl⟩
          go_wp2_with fail
          refine hmay.mono ?_
          rintro e w' ⟨rfl, q, rfl⟩
          go_wp2_with fail
          go_ret
          exact ⟨rfl, below_drewN' (Below.refl _ _) q⟩
        · exact one_main A c l a1 a2 w h.seg hm (by omega) h0 hcap hw1 hw2 hlong hmay
  · clear hbl h
    go_enter Try.func9, Try.ntmps9
    go_wp2_with fail
    refine hlong.mono ?_
    rintro e w' ⟨rfl, rfl⟩
    go_wp2_with fail
    go_ret
    exact ⟨rfl, Below.refl _ _⟩
end Go.Proofs.Ytjnamiiiceggmaa
