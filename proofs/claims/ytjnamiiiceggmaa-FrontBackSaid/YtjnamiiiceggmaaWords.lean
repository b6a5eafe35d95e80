/- Words for memory, and what the small functions of package front compute. -/
import Derived.Test.YtjnamiiiceggmaaPlain
import Derived.Test.YtjnamiiiceggmaaOrd
import Derived.Test.YtjnamiiiceggmaaShelf
import Derived.WalkKit
import Derived.Deep.LoopGhost
import Derived.Deep.Draws
import Derived.Deep.QuietTactic
import Derived.BigQuiet
import Derived.OwnWalk
import Derived.Laws.OwnMore
import Derived.Laws.AppendOwnNone
import Derived.Lib.SliceRun
import Derived.Lib.Hide
import Derived.Lib.AppendStr
import Derived.Lib.ConvBytes
import Derived.Laws.BytesArg
import Derived.Sort.Walk0
import Derived.RegionTactic
import Derived.WalkLawsBesides
import Derived.WalkSpells
namespace Go.Proofs.Ytjnamiiiceggmaa
open Go.RowKit Go.Lib Fp

/-- From A on lie the n cells xs. -/
structure Seg (w : World) (A : Option Addr) (n : Nat) (xs : List Value) : Prop where
  len : xs.length = n
  cell : 0 < n → ∃ ad, A = some ad ∧ ∀ j u, xs[j]? = some u → w.cell? (ad.add j) = some u

theorem Seg.below {w w' : World} {A : Option Addr} {n : Nat} {xs : List Value} (h : Seg w A n xs) (hb : Below w.heap.size w w') : Seg w' A n xs :=
  ⟨h.len, fun hn => by
    obtain ⟨ad, e, hc⟩ := h.cell hn
    exact ⟨ad, e, fun j u hu => (hb.cell (World.block_lt_of_cell? w _ (hc j u hu))).trans (hc j u hu)⟩⟩
theorem Seg.at_ {w : World} {A : Option Addr} {n : Nat} {xs : List Value} (h : Seg w A n xs) {k : Nat} (hk : k < n) : ∃ ad, A = some ad ∧ w.cell? (ad.add k) = some (xs[k]'(by rw [h.len]; exact hk)) := by
  obtain ⟨ad, e, hc⟩ := h.cell (by omega)
  exact ⟨ad, e, hc k _ (List.getElem?_eq_getElem _)⟩
theorem Seg.of_own {w : World} {base : Nat} {e : TypeId} {A : Option Addr} {n c : Nat} {xs : List Value} (h : w.ownsRow base e 1 (.slice A n c) n xs) : Seg w A n xs := by
  refine ⟨by rw [h.1, Nat.mul_one], fun hn => ?_⟩
  rcases h.2 with ⟨hv, h0⟩ | ⟨g, cap, cur, hv, _⟩
  · omega
  · injection hv with hA _ _
    subst hA
    exact ⟨_, rfl, h.cells (g := g) rfl⟩
theorem Seg.drewN {w : World} {A : Option Addr} {n : Nat} {xs : List Value} (h : Seg w A n xs) (k : Nat) : Seg (w.drewN k) A n xs := h.below ⟨rfl, rfl, rfl, Nat.le_refl _, fun _ _ => rfl⟩

/-- texts and bytes as cells -/
def sts (l : List ByteArray) : List Value := l.map .string
theorem sts_len (l : List ByteArray) : (sts l).length = l.length := by simp [sts]
theorem sts_one (l : List ByteArray) : ∀ u ∈ sts l, u.oneCell' = true := by
  intro u hu
  obtain ⟨b, _, rfl⟩ := List.mem_map.1 hu
  rfl
theorem Seg.str {w : World} {A : Option Addr} {l : List ByteArray} (h : Seg w A l.length (sts l)) {k : Nat} (hk : k < l.length) : ∃ ad, A = some ad ∧ w.cell? (ad.add k) = some (.string (l[k]'hk)) := by
  obtain ⟨ad, e, hc⟩ := h.at_ hk
  refine ⟨ad, e, hc.trans ?_⟩
  simp [sts]
def bys (l : List UInt8) : List Value := l.map fun b => .int .u8 (b.toNat : Int)
theorem bys_len (l : List UInt8) : (bys l).length = l.length := by simp [bys]
theorem bys_one (l : List UInt8) : ∀ u ∈ bys l, u.oneCell' = true := by
  intro u hu
  obtain ⟨b, _, rfl⟩ := List.mem_map.1 hu
  rfl
theorem bys_app (l r : List UInt8) : bys (l ++ r) = bys l ++ bys r := by simp [bys]
theorem Seg.byte {w : World} {A : Option Addr} {l : List UInt8} (h : Seg w A l.length (bys l)) {k : Nat} (hk : k < l.length) : ∃ ad, A = some ad ∧ w.cell? (ad.add k) = some (.int .u8 ((l[k]'hk).toNat : Int)) := by
  obtain ⟨ad, e, hc⟩ := h.at_ hk
  refine ⟨ad, e, hc.trans ?_⟩
  simp [bys]

theorem info3 : (Try.prog.info? 3).map (fun i => (i.zero, i.size, i.bytes)) = some (some (.int .i64 0), 1, 8) := by kernel_rfl
theorem info5 : (Try.prog.info? 5).map (fun i => (i.zero, i.size, i.bytes)) = some (some (.int .u8 0), 1, 1) := by kernel_rfl
theorem info9 : (Try.prog.info? 9).map (fun i => (i.zero, i.size, i.bytes)) = some (some (.string ByteArray.empty), 1, 16) := by kernel_rfl

theorem add_zero' (r m : Nat) : (⟨r, 0, none⟩ : Addr).add m = ⟨r, m, none⟩ := by unfold Addr.add; split <;> simp_all
theorem below_drewN' {B : Nat} {a w : World} (h : Below B a w) (n : Nat) : Below B a (w.drewN n) := ⟨h.os, h.tape, h.output, h.size, h.block⟩
theorem thn {a b c : World} (h : Below a.heap.size a b) (k : Below b.heap.size b c) : Below a.heap.size a c := h.trans (k.mono h.size)
theorem thn' {B : Nat} {a b c : World} (h : Below B a b) (hB : B ≤ b.heap.size) (k : Below b.heap.size b c) : Below B a c := h.trans (k.mono hB)
theorem own_form {w : World} {b : Nat} {e : TypeId} {s n : Nat} {v : Value} {xs : List Value} (h : w.ownsRow b e s v n xs) : ∃ A c, v = .slice A n c := by
  rcases h.2 with ⟨rfl, rfl⟩ | ⟨g, cap, cur, rfl, _⟩
  · exact ⟨_, _, rfl⟩
  · exact ⟨_, _, rfl⟩
theorem own_ne {w : World} {b b' : Nat} {e e' : TypeId} {s s' n n' : Nat} {v v' : Value} {xs xs' : List Value} (h : w.ownsRow b e s v n xs) (h' : w.ownsRow b' e' s' v' n' xs') (hne : e ≠ e') : v.ownBlock = none ∨ v.ownBlock ≠ v'.ownBlock := by
  rcases h.2 with ⟨rfl, _⟩ | ⟨g, cap, cur, rfl, _, hh, _⟩
  · exact .inl rfl
  · rcases h'.2 with ⟨rfl, _⟩ | ⟨g', cap', cur', rfl, _, hh', _⟩
    · exact .inr (by simp [Value.ownBlock])
    · refine .inr fun hk => ?_
      have hgg : g = g' := by simpa [Value.ownBlock] using hk
      subst hgg
      rw [hh] at hh'
      injection hh' with hh'
      injection hh' with _ ht
      exact hne ht
theorem own_below {w w1 : World} {base : Nat} {e : TypeId} {size n : Nat} {v : Value} {xs : List Value} (h : w.ownsRow base e size v n xs) (hb : Below w.heap.size w w1) : w1.ownsRow base e size v n xs :=
  h.kept (row := none) ⟨hb.os, hb.tape, hb.output, hb.size, fun i hi _ => hb.block i hi⟩ (by cases v.ownBlock <;> simp)

/-! ### append, whatever slice stands behind it -/
theorem run_append_none0 {P : Program} (w : World) (base : Nat) (t ty e : TypeId) (i : TypeInfo) (size : Nat) (ht : P.underlying t = some (.slice e)) (hi : P.info? e = some i)
    (v : Value) (n : Nat) (xs : List Value) (hown : w.ownsRow base e size v n xs) (c : Nat) : (Builtin.append_ #[t, t] ty #[v, .slice none 0 c]).run P w = .ok v w := by
  rcases hown.2 with ⟨rfl, rfl⟩ | ⟨g, cap, cur, rfl, _, _, hnc, _⟩
  · simp [Builtin.append_, run_underlying ht, sizeOf, typeInfo, hi, Builtin.lenOf, Builtin.firstCells]
  · simp [Builtin.append_, run_underlying ht, sizeOf, typeInfo, hi, Builtin.lenOf, Builtin.firstCells, hnc, storeCells]
theorem wpList_append_seg {P : Program} (w : World) {ops : Array Oper} {rest : List Oper} {o : Oper} {a : Act} {Q : Exit → Act → World → Prop} (hgd : o.guard = none) (s x : Operand) (t : TypeId)
    (ho : o.op = .call { callee := .builtin .append, args := #[s, x], argTypes := #[t, t] })
    (base : Nat) (e : TypeId) (i : TypeInfo) (z : Value) (bytes : Nat) (ht : P.underlying t = some (.slice e)) (hi : P.info? e = some i) (hz : i.zero = some z)
    (hsize : i.size = 1) (hby : i.bytes = bytes) (hzs : z.cells.size = 1)
    (v : Value) (n : Nat) (xs : List Value) (hs : a.eval s = v) (hown : w.ownsRow base e 1 v n xs)
    (A : Option Addr) (m c : Nat) (news : List Value) (hx : a.eval x = .slice A m c) (hseg : Seg w A m news) (h1 : ∀ u ∈ news, u.oneCell' = true)
    (h63 : n + m ≤ maxLen) (hbytes : (n + m) * bytes ≤ 140737488355328) (hbase : base ≤ w.heap.size)
    (h : ∀ v' w', w'.ownsRow base e 1 v' (n + m) (xs ++ news) → w.grownBy w' v.ownBlock → wpList P ops Q rest (a.put o.dst v') w') : wpList P ops Q (o :: rest) a w := by
  cases A with
  | none =>
    have hm : m = 0 := by
      rcases Nat.eq_zero_or_pos m with h0 | h0
      · exact h0
      · obtain ⟨ad, e, _⟩ := hseg.cell h0; cases e
    subst hm
    obtain rfl : news = [] := List.eq_nil_of_length_eq_zero hseg.len
    refine wpList_plain hgd fun K hK => ?_
    have hrun := run_append_none0 (P := P) w base t o.type e i 1 ht hi v n xs hown c
    unfold Oper.wp
    simp [execOp, ho, resolve, invoke, builtin, hs, hx, hrun, Result.andThen]
    exact hK _ _ (h v w (by simpa using hown) (World.grownBy.refl w _))
  | some ad =>
    refine wpList_append_own w hgd s x t ho base e i z 1 bytes ht hi hz hsize hby hzs (by decide) v n xs hs hown ad m c news hx (by rw [hseg.len, Nat.mul_one]) ?_ h1 h63 hbytes hbase (fun v' w' h2 h3 _ => h v' w' h2 h3)
    intro j u hu
    have hn0 : 0 < m := by
      have := (List.getElem?_eq_some_iff.1 hu).1
      rw [hseg.len] at this; omega
    obtain ⟨ad', e, hc⟩ := hseg.cell hn0
    cases e
    exact hc j u hu

/-! ### shared -/
set_option maxHeartbeats 1000000 in
theorem shared_calls (a b : ByteArray) (w : World) (ha : a.size ≤ 140737488351232) :
    Calls Try.prog 28 #[.string a, .string b] w fun e w' => e = .returned (.int .i64 (shr a.data.toList b.data.toList : Nat)) ∧ ∃ n, w' = w.drewN n := by
  go_enter Try.func28, Try.ntmps28
  go_wp2
  go_loopw [5] (fun i wr => ∃ k n : Nat, k ≤ a.size ∧ k ≤ b.size ∧ i = .int .i64 k ∧ Hid (a.data.toList.take k = b.data.toList.take k) ∧ wr = w.drewN n) (fun i _ => a.size - (intOf i).toNat)
  case atStart => exact ⟨0, 0, Nat.zero_le _, Nat.zero_le _, rfl, by show a.data.toList.take 0 = b.data.toList.take 0; simp, rfl⟩
  case round =>
    obtain ⟨k, n, hka, hkb, rfl, HT, rfl⟩ := hrel
    by_cases h1 : k < a.size
    · by_cases h2 : k < b.size
      · by_cases h3 : a[k] = b[k]
        · have he : (((a[k].toNat : Nat) : Int) == ((b[k].toNat : Nat) : Int)) = true := by rw [h3]; simp
          have HT2 : Hid (a.data.toList.take (k + 1) = b.data.toList.take (k + 1)) := by
            show a.data.toList.take (k + 1) = b.data.toList.take (k + 1)
            rw [List.take_succ_eq_append_getElem (by simpa using h1), List.take_succ_eq_append_getElem (by simpa using h2), HT.out]
            congr 2
          clear h3 HT
          go_wp2
          repeat (go_quiet (fail); try go_wp2)
          go_roundw
          case rel => exact ⟨k + 1, _, by omega, by omega, by go_num, HT2, rfl⟩
          case measure => simp [intOf]; omega
        · have he : (((a[k].toNat : Nat) : Int) == ((b[k].toNat : Nat) : Int)) = false := by
            rw [beq_eq_false_iff_ne]
            intro e
            exact h3 (UInt8.toNat_inj.1 (by omega))
          have HR : Hid (shr a.data.toList b.data.toList = k) := shr_stop _ _ k (by simpa using hka) (by simpa using hkb) HT.out (.inr (.inr ⟨by simpa using h1, by simpa using h2, h3⟩))
          clear h3 HT
          go_wp2
          repeat (go_quiet (fail); try go_wp2)
          go_ret
          exact ⟨by rw [HR.out]; rfl, _, World.drewN_drewN ..⟩
      · have HR : Hid (shr a.data.toList b.data.toList = k) := shr_stop _ _ k (by simpa using hka) (by simpa using hkb) HT.out (.inr (.inl (by simp; omega)))
        go_wp2
        repeat (go_quiet (fail); try go_wp2)
        go_ret
        exact ⟨by rw [HR.out]; rfl, _, World.drewN_drewN ..⟩
    · have HR : Hid (shr a.data.toList b.data.toList = k) := shr_stop _ _ k (by simpa using hka) (by simpa using hkb) HT.out (.inl (by simp; omega))
      go_wp2
      repeat (go_quiet (fail); try go_wp2)
      go_ret
      exact ⟨by rw [HR.out]; rfl, _, World.drewN_drewN ..⟩
set_option maxHeartbeats 1000000 in
theorem refShared_calls (a b : ByteArray) (w : World) (ha : a.size ≤ 140737488351232) :
    Calls Try.prog 36 #[.string a, .string b] w fun e w' => e = .returned (.int .i64 (shr a.data.toList b.data.toList : Nat)) ∧ ∃ n, w' = w.drewN n := by
  go_enter Try.func36, Try.ntmps36
  go_wp2
  go_loopw [5] (fun i wr => ∃ k n : Nat, k ≤ a.size ∧ k ≤ b.size ∧ i = .int .i64 k ∧ Hid (a.data.toList.take k = b.data.toList.take k) ∧ wr = w.drewN n) (fun i _ => a.size - (intOf i).toNat)
  case atStart => exact ⟨0, 0, Nat.zero_le _, Nat.zero_le _, rfl, by show a.data.toList.take 0 = b.data.toList.take 0; simp, rfl⟩
  case round =>
    obtain ⟨k, n, hka, hkb, rfl, HT, rfl⟩ := hrel
    by_cases h1 : k < a.size
    · by_cases h2 : k < b.size
      · by_cases h3 : a[k] = b[k]
        · have he : (((a[k].toNat : Nat) : Int) == ((b[k].toNat : Nat) : Int)) = true := by rw [h3]; simp
          have HT2 : Hid (a.data.toList.take (k + 1) = b.data.toList.take (k + 1)) := by
            show a.data.toList.take (k + 1) = b.data.toList.take (k + 1)
            rw [List.take_succ_eq_append_getElem (by simpa using h1), List.take_succ_eq_append_getElem (by simpa using h2), HT.out]
            congr 2
          clear h3 HT
          go_wp2
          repeat (go_quiet (fail); try go_wp2)
          go_roundw
          case rel => exact ⟨k + 1, _, by omega, by omega, by go_num, HT2, rfl⟩
          case measure => simp [intOf]; omega
        · have he : (((a[k].toNat : Nat) : Int) == ((b[k].toNat : Nat) : Int)) = false := by
            rw [beq_eq_false_iff_ne]
            intro e
            exact h3 (UInt8.toNat_inj.1 (by omega))
          have HR : Hid (shr a.data.toList b.data.toList = k) := shr_stop _ _ k (by simpa using hka) (by simpa using hkb) HT.out (.inr (.inr ⟨by simpa using h1, by simpa using h2, h3⟩))
          clear h3 HT
          go_wp2
          repeat (go_quiet (fail); try go_wp2)
          go_ret
          exact ⟨by rw [HR.out]; rfl, _, World.drewN_drewN ..⟩
      · have HR : Hid (shr a.data.toList b.data.toList = k) := shr_stop _ _ k (by simpa using hka) (by simpa using hkb) HT.out (.inr (.inl (by simp; omega)))
        go_wp2
        repeat (go_quiet (fail); try go_wp2)
        go_ret
        exact ⟨by rw [HR.out]; rfl, _, World.drewN_drewN ..⟩
    · have HR : Hid (shr a.data.toList b.data.toList = k) := shr_stop _ _ k (by simpa using hka) (by simpa using hkb) HT.out (.inl (by simp; omega))
      go_wp2
      repeat (go_quiet (fail); try go_wp2)
      go_ret
      exact ⟨by rw [HR.out]; rfl, _, World.drewN_drewN ..⟩
end Go.Proofs.Ytjnamiiiceggmaa
