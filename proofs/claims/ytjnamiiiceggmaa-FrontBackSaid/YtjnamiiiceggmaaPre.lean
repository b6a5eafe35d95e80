/- What Prefix of a Dict answers. -/
import Derived.Test.YtjnamiiiceggmaaRef
namespace Go.Proofs.Ytjnamiiiceggmaa
open Go.RowKit Go.Lib Fp Go.Sort

/-- does s begin with p? -/
def hp (s p : ByteArray) : Bool := decide (p.data.toList <+: s.data.toList)
theorem extract_take (s : ByteArray) (k : Nat) : (s.extract 0 k).data.toList = s.data.toList.take k := by
  rw [ByteArray.data_extract, Array.toList_extract]; simp [List.extract_eq_take_drop]
theorem hp_long {s p : ByteArray} (h : ¬ p.size ≤ s.size) : hp s p = false := by
  unfold hp
  rw [decide_eq_false]
  intro hp
  have := hp.length_le
  rw [Array.length_toList, Array.length_toList] at this
  exact h this
theorem hp_short {s p : ByteArray} (_ : p.size ≤ s.size) : ((s.extract 0 p.size).toList == p.toList) = hp s p := by
  rw [Bool.eq_iff_iff, str_beq, extract_take]
  unfold hp
  rw [decide_eq_true_iff, List.prefix_iff_eq_take, Array.length_toList]
  exact ⟨fun h => h.symm, fun h => h.symm⟩
theorem pre39 (s p : ByteArray) (w : World) : Calls Try.prog 39 #[.string s, .string p] w fun e w' => e = .returned (.bool (hp s p)) ∧ w = w' := by
  by_cases h : p.size ≤ s.size
  · have hb := hp_short h
    generalize hp s p = b at hb ⊢
    have hB := Lib.hid hb
    clear hb
    go_enter Try.func39, Try.ntmps39
    go_wp2
    go_ret
    exact ⟨by rw [← hB.out]; rfl, rfl⟩
  · rw [hp_long h]
    go_enter Try.func39, Try.ntmps39
    go_wp2
    go_ret
    exact ⟨rfl, rfl⟩
theorem pre35 (s p : ByteArray) (w : World) : Calls Try.prog 35 #[.string s, .string p] w fun e w' => e = .returned (.bool (hp s p)) ∧ w = w' := by
  go_enter Try.func35, Try.ntmps35
  go_wp2_with (go_at_call 39; refine (pre39 _ _ _).mono ?_; rintro e w' ⟨rfl, rfl⟩)
  go_ret
  exact ⟨rfl, rfl⟩

set_option maxHeartbeats 1000000 in
/-- the closure of Prefix: does text from + i not begin with p? -/
theorem pre34 (bl bf bp : Nat) (ad : Addr) (n c k i : Nat) (s p : ByteArray) (W : World) (hn : n ≤ 300) (hki : k + i < n)
    (hl : W.cell? ⟨bl, 0, none⟩ = some (.slice (some ad) n c)) (hf : W.cell? ⟨bf, 0, none⟩ = some (.int .i64 k)) (hpc : W.cell? ⟨bp, 0, none⟩ = some (.string p)) (hs : W.cell? (ad.add (k + i)) = some (.string s)) :
    Calls Try.prog 34 #[.int .i64 i, .pointer (some ⟨bl, 0, none⟩), .pointer (some ⟨bf, 0, none⟩), .pointer (some ⟨bp, 0, none⟩)] W fun e w' => e = .returned (.bool (!hp s p)) ∧ ∃ q, w' = W.drewN q := by
  have h1 : IntKind.i64.wrap ((k : Int) + (i : Int)) = (k : Int) + (i : Int) := by rw [IntKind.wrap_i64]; omega
  have h2 : (0 : Int) ≤ (k : Int) + (i : Int) := by omega
  have h3 : (k : Int) + (i : Int) < (n : Int) := by omega
  have h4 : ((k : Int) + (i : Int)).toNat = k + i := by omega
  go_enter Try.func34, Try.ntmps34
  go_wp2
  go_quiet ((go_at_call 35; exact Calls.quiet_of_same ((pre35 _ _ _).mono fun _ _ ⟨he, hw⟩ => ⟨he, hw.symm⟩)))
  go_wp2
  go_ret
  exact ⟨rfl, _, rfl⟩

theorem count_first (p : Nat → Bool) (n m : Nat) (hm : m ≤ n) (h1 : ∀ t, t < m → p t = true) (h2 : ∀ t, m ≤ t → t < n → p t = false) : (List.range n).countP p = m := by
  induction n with
  | zero => simp; omega
  | succ n ih =>
    rw [List.range_succ, List.countP_append]
    by_cases h : m = n + 1
    · subst h
      have e : (List.range n).countP p = n := by
        rw [List.countP_eq_length.2]
        · simp
        · intro a ha; exact h1 a (by have := List.mem_range.1 ha; omega)
      rw [e]
      simp [h1 n (by omega)]
    · rw [ih (by omega) (fun t h3 h4 => h2 t h3 (by omega))]
      simp [h2 n (by omega) (by omega)]
/-- where a property that holds of a head stops -/
theorem head_stop (p : Nat → Bool) (n : Nat) (h : ∀ a b, a ≤ b → b < n → p b = true → p a = true) : ∃ m, m ≤ n ∧ (∀ t, t < m → p t = true) ∧ (∀ t, m ≤ t → t < n → p t = false) := by
  induction n with
  | zero => exact ⟨0, Nat.le_refl _, fun t ht => by omega, fun t _ ht => by omega⟩
  | succ n ih =>
    obtain ⟨m, hm, h1, h2⟩ := ih (fun a b hab hb hp => h a b hab (by omega) hp)
    cases hp : p n
    · refine ⟨m, by omega, h1, fun t h3 h4 => ?_⟩
      rcases Nat.lt_or_ge t n with h5 | h5
      · exact h2 t h3 h5
      · obtain rfl : t = n := by omega
        exact hp
    · exact ⟨n + 1, Nat.le_refl _, fun t ht => h t n (by omega) (by omega) hp, fun t h3 h4 => by omega⟩
theorem cut_uniq {X : List (List UInt8)} {s : List UInt8} {k k' : Nat} (hk : k ≤ X.length) (hk' : k' ≤ X.length) (h1 : ∀ t, t < k → (ht : t < X.length) → X[t] < s) (h2 : ∀ t, k ≤ t → (ht : t < X.length) → ¬ X[t] < s)
    (h1' : ∀ t, t < k' → (ht : t < X.length) → X[t] < s) (h2' : ∀ t, k' ≤ t → (ht : t < X.length) → ¬ X[t] < s) : k = k' := by
  rcases Nat.lt_trichotomy k k' with h | h | h
  · exact absurd (h1' k h (by omega)) (h2 k (Nat.le_refl _) (by omega))
  · exact h
  · exact absurd (h1 k' h (by omega)) (h2' k' (Nat.le_refl _) (by omega))

/-- where the texts that begin with p lie -/
theorem pre_where {l : List ByteArray} (hm : May l) (p : ByteArray) : ∃ k m, k + m ≤ l.length ∧ (∀ t, t < k → (ht : t < (tx l).length) → (tx l)[t] < p.data.toList) ∧ (∀ t, k ≤ t → (ht : t < (tx l).length) → ¬ (tx l)[t] < p.data.toList) ∧
    (∀ t, t < m → hp (l.getD (k + t) ByteArray.empty) p = true) ∧ (∀ t, m ≤ t → t < l.length - k → hp (l.getD (k + t) ByteArray.empty) p = false) ∧
    (∀ a b, a ≤ b → b < l.length - k → (!hp (l.getD (k + a) ByteArray.empty) p) = true → (!hp (l.getD (k + b) ByteArray.empty) p) = true) ∧
    PreIs (tx l) p.data.toList (if m = 0 then 0 else k + 1) (if m = 0 then 0 else k + m) := by
  obtain ⟨k, hk, h1, h2⟩ := cut_at hm.srt p.data.toList
  have hk' : k ≤ l.length := by rw [tx_len] at hk; exact hk
  have hpx : ∀ t, (ht : t < l.length) → (hp (l.getD t ByteArray.empty) p = true ↔ p.data.toList <+: (tx l)[t]'(by rw [tx_len]; exact ht)) := by
    intro t ht
    rw [tx_get l t ht, ← List.getElem_eq_getD (h := ht)]
    unfold hp
    rw [decide_eq_true_iff]
  have hmono : ∀ a b, a ≤ b → b < l.length - k → hp (l.getD (k + b) ByteArray.empty) p = true → hp (l.getD (k + a) ByteArray.empty) p = true := by
    intro a b hab hb hpb
    rw [hpx (k + b) (by omega)] at hpb
    rw [hpx (k + a) (by omega)]
    exact pre_mono hm.srt h2 (by omega) (by omega) (by rw [tx_len]; omega) hpb
  obtain ⟨m, hml, h3, h4⟩ := head_stop (fun t => hp (l.getD (k + t) ByteArray.empty) p) (l.length - k) hmono
  refine ⟨k, m, by omega, h1, h2, h3, h4, ?_, ?_⟩
  · intro a b hab hb hpa
    cases hb' : hp (l.getD (k + b) ByteArray.empty) p
    · rfl
    · rw [hmono a b hab hb hb'] at hpa; cases hpa
  · refine pre_found (by rw [tx_len]; omega) h1 (fun t ht htx => ?_) (fun t ht htx => ?_)
    · exact (hpx (k + t) (by rw [tx_len] at htx; exact htx)).1 (h3 t ht)
    · intro hpre
      rw [tx_len] at htx
      have := h4 t ht (by omega)
      rw [(hpx (k + t) htx).2 hpre] at this
      cases this

theorem hn1 (w : World) (A B : Obj) : ((w.alloc A).alloc B).heap[w.heap.size + 1]? = some B := by
  have := heap_alloc_new (w.alloc A) B
  rwa [World.size_alloc] at this
theorem hn2 (w : World) (A B C : Obj) : (((w.alloc A).alloc B).alloc C).heap[w.heap.size + 1 + 1]? = some C := by
  have := heap_alloc_new ((w.alloc A).alloc B) C
  rwa [World.size_alloc, World.size_alloc] at this
theorem below_grow (w : World) (q : Nat) (os : Array Obj) : RowKit.Below w.heap.size w (grow (w.drewN q) os) :=
  ⟨rfl, rfl, rfl, by simp [grow], fun i hi => by
    show ((w.drewN q).heap ++ os)[i]? = _
    rw [Array.getElem?_append_left (by show i < w.heap.size; omega)]
    rfl⟩
/-- the search of Prefix -/
theorem pre_search (bl bf bp : Nat) (A : Option Addr) (c k m : Nat) (l : List ByteArray) (p : ByteArray) (W : World) (hlen : l.length ≤ 300) (hkm : k + m ≤ l.length) (hs : Seg W A l.length (sts l))
    (hl : W.cell? ⟨bl, 0, none⟩ = some (.slice A l.length c)) (hf : W.cell? ⟨bf, 0, none⟩ = some (.int .i64 k)) (hpc : W.cell? ⟨bp, 0, none⟩ = some (.string p))
    (h3 : ∀ t, t < m → hp (l.getD (k + t) ByteArray.empty) p = true) (h4 : ∀ t, m ≤ t → t < l.length - k → hp (l.getD (k + t) ByteArray.empty) p = false)
    (h5 : ∀ a b, a ≤ b → b < l.length - k → (!hp (l.getD (k + a) ByteArray.empty) p) = true → (!hp (l.getD (k + b) ByteArray.empty) p) = true) :
    Calls Try.prog 33 #[.int .i64 ((l.length : Int) - (k : Int)), .func (.func 34) #[] #[.pointer (some ⟨bl, 0, none⟩), .pointer (some ⟨bf, 0, none⟩), .pointer (some ⟨bp, 0, none⟩)]] W fun e w' =>
      e = .returned (.int .i64 m) ∧ RowKit.Below W.heap.size W w' := by
  have eg : ∀ args w, (callFunc 34 args).run Try.prog w = .ok (.enter 34 args) w := enters_of Try.func34 (by kernel_rfl) rfl
  have hS := Any.sort_Search Try.search 34 #[.pointer (some ⟨bl, 0, none⟩), .pointer (some ⟨bf, 0, none⟩), .pointer (some ⟨bp, 0, none⟩)] (l.length - k) (fun i => !hp (l.getD (k + i) ByteArray.empty) p) W eg (by omega)
    (fun q os i hi => by
      obtain ⟨ad, rfl, hc⟩ := hs.str (k := k + i) (by omega)
      have e : l.getD (k + i) ByteArray.empty = l[k + i]'(by omega) := by rw [← List.getElem_eq_getD]
      rw [e]
      have lt := fun (a : Addr) (v : Value) (h : W.cell? a = some v) => World.block_lt_of_cell? W a h
      refine (pre34 bl bf bp ad l.length c k i l[k + i] p (grow (W.drewN q) os) hlen (by omega) (cell_grown (lt _ _ hl) hl q os) (cell_grown (lt _ _ hf) hf q os) (cell_grown (lt _ _ hpc) hpc q os) (cell_grown (lt _ _ hc) hc q os)).mono fun _ _ ⟨he, q2, hq⟩ => ⟨he, q2, #[], ?_⟩
      rw [hq, grow_empty])
    h5
  have hcnt : (List.range (l.length - k)).countP (fun i => !(!hp (l.getD (k + i) ByteArray.empty) p)) = m :=
    count_first _ _ _ (by omega) (fun t ht => by show (!(!hp (l.getD (k + t) ByteArray.empty) p)) = _; rw [h3 t ht]; rfl) (fun t ht1 ht2 => by show (!(!hp (l.getD (k + t) ByteArray.empty) p)) = _; rw [h4 t ht1 ht2]; rfl)
  rw [hcnt] at hS
  rw [show ((l.length : Int) - (k : Int)) = ((l.length - k : Nat) : Int) by omega]
  exact hS.mono fun _ _ ⟨he, q, os, hw⟩ => ⟨he, hw ▸ below_grow W q os⟩

set_option maxHeartbeats 4000000 in
set_option maxRecDepth 100000 in
theorem prefix_at (g : Nat) (l : List ByteArray) (p : ByteArray) (w : World) (h : Dic w g l) (k m : Nat) (hkm : k + m ≤ l.length) (h1 : ∀ t, t < k → (ht : t < (tx l).length) → (tx l)[t] < p.data.toList) (h2 : ∀ t, k ≤ t → (ht : t < (tx l).length) → ¬ (tx l)[t] < p.data.toList)
    (h3 : ∀ t, t < m → hp (l.getD (k + t) ByteArray.empty) p = true) (h4 : ∀ t, m ≤ t → t < l.length - k → hp (l.getD (k + t) ByteArray.empty) p = false)
    (h5 : ∀ a b, a ≤ b → b < l.length - k → (!hp (l.getD (k + a) ByteArray.empty) p) = true → (!hp (l.getD (k + b) ByteArray.empty) p) = true) :
    Calls Try.prog 24 #[.pointer (some ⟨g, 0, none⟩), .string p] w fun e w' => e = .returned (.tuple #[.int .i64 ((if m = 0 then 0 else k + 1 : Nat) : Int), .int .i64 ((if m = 0 then 0 else k + m : Nat) : Int)]) ∧ Below w.heap.size w w' := by
  obtain ⟨A, c, hb, hs⟩ := h.ex
  have hlen := h.may.1
  have hglt := h.lt
  have HS := Lib.hid hs
  have HM := Lib.hid h.may
  have HB := Lib.hid hb
  have H1 := Lib.hid h1
  have H2 := Lib.hid h2
  have H3 := Lib.hid h3
  have H4 := Lib.hid h4
  have H5 := Lib.hid h5
  clear hs h hb h1 h2 h3 h4 h5
  go_enter Try.func24, Try.ntmps24
  go_wp2_with fail
  refine (all_calls g A l.length c _ ((Below.heap_alloc _ _ _ hglt).trans HB.out)).mono ?_
  rintro e w' ⟨rfl, rfl⟩
  go_wp2_with fail
  obtain ⟨k', hk', h1', h2', b, _, hbs⟩ := bs_calls A c l p ((w.alloc (.cells #[.string p] 9)).alloc (.cells #[.slice A l.length c] 22)) (HS.out.below (((RowKit.Below.refl _ _).alloc (Nat.le_refl _) _).alloc (by simp) _)) HM.out
  obtain rfl : k' = k := cut_uniq (by rw [tx_len]; exact hk') (by rw [tx_len]; omega) h1' h2' H1.out H2.out
  clear h1' h2'
  refine hbs.mono ?_
  rintro e w' ⟨rfl, q, rfl⟩
  clear hbs
  have hbl : RowKit.Below w.heap.size w ((((w.alloc (.cells #[.string p] 9)).alloc (.cells #[.slice A l.length c] 22)).drewN q).alloc (.cells #[.int .i64 (k' : Int)] 3)) :=
    (below_drewN' (((RowKit.Below.refl _ w).alloc (Nat.le_refl _) _).alloc (by simp) _) q).alloc (by simp; omega) _
  have hb0 : ((((w.alloc (.cells #[.string p] 9)).alloc (.cells #[.slice A l.length c] 22)).drewN q).alloc (.cells #[.int .i64 (k' : Int)] 3)).heap[w.heap.size]? = some (.cells #[.string p] 9 (0, 0)) :=
    (Below.heap_alloc _ _ _ (by simp; omega)).trans ((Below.heap_alloc _ _ _ (by simp)).trans (heap_alloc_new w _))
  have hb1 : ((((w.alloc (.cells #[.string p] 9)).alloc (.cells #[.slice A l.length c] 22)).drewN q).alloc (.cells #[.int .i64 (k' : Int)] 3)).heap[w.heap.size + 1]? = some (.cells #[.slice A l.length c] 22 (0, 0)) :=
    (Below.heap_alloc _ _ _ (by simp)).trans (hn1 w _ _)
  have hb2 : ((((w.alloc (.cells #[.string p] 9)).alloc (.cells #[.slice A l.length c] 22)).drewN q).alloc (.cells #[.int .i64 (k' : Int)] 3)).heap[w.heap.size + 1 + 1]? = some (.cells #[.int .i64 (k' : Int)] 3 (0, 0)) :=
    hn2 w _ _ _
  have HBL := Lib.hid hbl
  have HB0 := Lib.hid hb0
  have HB1 := Lib.hid hb1
  have HB2 := Lib.hid hb2
  clear hbl hb0 hb1 hb2
  go_wp2_with fail
  generalize (((w.alloc (.cells #[.string p] 9)).alloc (.cells #[.slice A l.length c] 22)).drewN q).alloc (.cells #[.int .i64 (k' : Int)] 3) = W at HBL HB0 HB1 HB2 ⊢
  have cF : W.cell? ⟨w.heap.size + 1 + 1, 0, none⟩ = some (.int .i64 k') := by rw [cell_of_row W _ 0 _ 3 (0, 0) HB2.out]; rfl
  refine (pre_search (w.heap.size + 1) (w.heap.size + 1 + 1) w.heap.size A c k' m l p W hlen hkm (HS.out.below HBL.out) (by rw [cell_of_row W _ 0 _ 22 (0, 0) HB1.out]; rfl) cF (by rw [cell_of_row W _ 0 _ 9 (0, 0) HB0.out]; rfl) H3.out H4.out H5.out).mono ?_
  rintro e w3 ⟨rfl, hb3⟩
  have cF3 : w3.cell? ⟨w.heap.size + 1 + 1, 0, none⟩ = some (.int .i64 k') := (hb3.cell (World.block_lt_of_cell? _ _ cF)).trans cF
  have hB3 := thn HBL.out hb3
  clear cF hb3
  by_cases hm0 : m = 0
  · subst hm0
    go_wp2
    go_ret2
    exact ⟨rfl, hB3⟩
  · have hmb : ((m : Int) == 0) = false := beq_eq_false_iff_ne.2 (by omega)
    have e1 : IntKind.i64.wrap ((k' : Int) + 1) = (k' : Int) + 1 := by rw [IntKind.wrap_i64]; omega
    have e2 : IntKind.i64.wrap ((k' : Int) + (m : Int)) = (k' : Int) + (m : Int) := by rw [IntKind.wrap_i64]; omega
    go_wp2
    go_quiet (fail)
    go_wp2
    go_ret2
    exact ⟨rfl, below_drewN' hB3 _⟩

theorem prefix_calls (g : Nat) (l : List ByteArray) (p : ByteArray) (hm : May l) :
    ∃ a b : Nat, PreIs (tx l) p.data.toList a b ∧ ∀ w, Dic w g l → Calls Try.prog 24 #[.pointer (some ⟨g, 0, none⟩), .string p] w fun e w' => e = .returned (.tuple #[.int .i64 a, .int .i64 b]) ∧ RowKit.Below w.heap.size w w' := by
  obtain ⟨k, m, hkm, h1, h2, h3, h4, h5, hpre⟩ := pre_where hm p
  exact ⟨_, _, hpre, fun w h => prefix_at g l p w h k m hkm h1 h2 h3 h4 h5⟩
end Go.Proofs.Ytjnamiiiceggmaa
