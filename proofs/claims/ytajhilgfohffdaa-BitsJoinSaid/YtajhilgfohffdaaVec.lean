/- What the functions of package bits, and the document's answers, compute. -/
import Derived.Test.YtajhilgfohffdaaPlain
import Derived.Test.YtajhilgfohffdaaShelf
import Derived.WalkKit
import Derived.Deep.LoopGhost
import Derived.Deep.Draws
import Derived.Deep.QuietTactic
import Derived.BigQuiet
import Derived.OwnWalk
import Derived.Laws.OwnMore
import Derived.Lib.SliceRun
import Derived.Lib.Hide
import Derived.RegionTactic
namespace Go.Proofs.Ytajhilgfohffdaa
open Go.RowKit Go.Lib Bp

/-- From A on lie the n cells xs. -/
structure Seg (w : World) (A : Option Addr) (n : Nat) (xs : List Value) : Prop where
  len : xs.length = n
  cell : 0 < n → ∃ ad, A = some ad ∧ ∀ j u, xs[j]? = some u → w.cell? (ad.add j) = some u

theorem Seg.below {w w' : World} {A : Option Addr} {n : Nat} {xs : List Value} (h : Seg w A n xs) (hb : Below w.heap.size w w') : Seg w' A n xs :=
  ⟨h.len, fun hn => by
    obtain ⟨ad, e, hc⟩ := h.cell hn
    exact ⟨ad, e, fun j u hu => (hb.cell (World.block_lt_of_cell? w _ (hc j u hu))).trans (hc j u hu)⟩⟩
theorem Seg.at_ {w : World} {A : Option Addr} {n : Nat} {xs : List Value} (h : Seg w A n xs) {k : Nat} (hk : k < n) : ∃ ad, A = some ad ∧ w.cell? (ad.add k) = some (xs[k]'(by rw [h.len]; exact hk)) := by
  obtain ⟨ad, e, hc⟩ := h.cell (by omega)
  exact ⟨ad, e, hc k _ (List.getElem?_eq_getElem _)⟩
theorem Seg.of_own {w : World} {base : Nat} {e : TypeId} {A : Option Addr} {n c : Nat} {xs : List Value} (h : w.ownsRow base e 1 (.slice A n c) n xs) : Seg w A n xs := by
  refine ⟨by rw [h.1, Nat.mul_one], fun hn => ?_⟩
  rcases h.2 with ⟨hv, h0⟩ | ⟨g, cap, cur, hv, _⟩
  · omega
  · injection hv with hA _ _
    subst hA
    exact ⟨_, rfl, h.cells (g := g) rfl⟩

def bls (l : List Bool) : List Value := l.map .bool
theorem bls_len (l : List Bool) : (bls l).length = l.length := by simp [bls]
theorem bls_one (l : List Bool) : ∀ u ∈ bls l, u.oneCell' = true := by
  intro u hu
  obtain ⟨b, _, rfl⟩ := List.mem_map.1 hu
  rfl
theorem bls_get (l : List Bool) (k : Nat) (h : k < (bls l).length) : (bls l)[k] = .bool (l[k]'(by simpa [bls] using h)) := by simp [bls]

theorem Seg.bit {w : World} {A : Option Addr} {l : List Bool} (h : Seg w A l.length (bls l)) {k : Nat} (hk : k < l.length) : ∃ ad, A = some ad ∧ w.cell? (ad.add k) = some (.bool (l[k]'hk)) := by
  obtain ⟨ad, e, hc⟩ := h.at_ hk
  rw [bls_get] at hc
  exact ⟨ad, e, hc⟩

theorem info4 : (Try.prog.info? 4).map (fun i => (i.zero, i.size, i.bytes)) = some (some (.bool false), 1, 1) := by kernel_rfl
theorem info3 : (Try.prog.info? 3).map (fun i => (i.zero, i.size, i.bytes)) = some (some (.int .i64 0), 1, 8) := by kernel_rfl

set_option maxHeartbeats 800000 in
/-- slices.Clone of bits: new memory, the same bits. -/
theorem clone_calls (A : Option Addr) (n c : Nat) (news : List Value) (w : World) (h : Seg w A n news) (h1 : ∀ u ∈ news, u.oneCell' = true) (hn : n ≤ 4096) :
    Calls Try.prog 20 #[.slice A n c] w fun e w' => ∃ v', e = .returned v' ∧ w'.ownsRow w.heap.size 4 1 v' n news ∧ Below w.heap.size w w' := by
  have q22 : ∀ (w : World) (a : Option Addr) (n c n' c' : Nat), (binOp .eql 22 (.slice a n c) (.slice none n' c')).run Try.prog w = .ok (.bool a.isNone) w := fun w a n c n' c' => Lib.run_eql_slice_nil w _ _ a n c n' c' Try.underlying22
  obtain ⟨i0, hi, hz0, hz1, hz2⟩ := info_parts info4
  cases A with
  | none =>
    have hn0 : n = 0 := by
      rcases Nat.eq_zero_or_pos n with h0 | h0
      · exact h0
      · obtain ⟨ad, e, _⟩ := h.cell h0; cases e
    subst hn0
    obtain rfl : news = [] := List.eq_nil_of_length_eq_zero h.len
    clear h1 h
    go_enter Try.func20, Try.ntmps20
    go_wp2
    go_ret
    exact ⟨_, rfl, World.ownsRow_nil _ _ _ _, Below.refl _ _⟩
  | some ad =>
    have HS := Lib.hid h
    have H1 := Lib.hid h1
    clear h h1
    go_enter Try.func20, Try.ntmps20
    go_wp2_with (at_builtin; refine wpList_append_own _ rfl _ _ 22 rfl w.heap.size 4 i0 (.bool false) 1 1 Try.underlying22 hi hz0 hz1 hz2 rfl (by decide) _ _ _ rfl (World.ownsRow_made w #[] 0 (Nat.le_refl _) (Nat.zero_le _) (by simp)) ad n c news rfl ?qc1 ?qc2 ?qc3 ?qc4 ?qc5 ?qc6 ?_)
    case qc1 => rw [HS.out.len, Nat.mul_one]
    case qc2 =>
      intro j u hj
      have hn0 : 0 < n := by
        have := (List.getElem?_eq_some_iff.1 hj).1
        rw [HS.out.len] at this; omega
      obtain ⟨ad', e, hc⟩ := HS.out.cell hn0
      cases e
      exact Lib.cell?_alloc_some _ (hc j u hj)
    case qc3 => exact H1.out
    case qc4 => unfold maxLen; omega
    case qc5 => omega
    case qc6 => simp
    intro v' w1 hown hgrow hnil
    go_wp2
    go_ret
    refine ⟨v', rfl, by simpa using hown, ?_⟩
    exact ((Below.refl _ w).alloc (Nat.le_refl _) _).grown hgrow (by simp) (by intro k hk; simp [Value.ownBlock] at hk; omega)

/-! ### bits.New -/
def rks (l : List Bool) (n : Nat) : List Value := (List.range (n + 1)).map fun j => .int .i64 (cnt l j : Nat)
theorem rks_len (l : List Bool) (n : Nat) : (rks l n).length = n + 1 := by simp [rks]
theorem rks_get (l : List Bool) (n k : Nat) (h : k < (rks l n).length) : (rks l n)[k] = .int .i64 (cnt l k : Nat) := by simp [rks]
theorem rks_succ (l : List Bool) (n : Nat) : rks l (n + 1) = rks l n ++ [.int .i64 (cnt l (n + 1) : Nat)] := by
  unfold rks; rw [List.range_succ, List.map_append]; rfl

theorem own_ne {w : World} {b b' : Nat} {e e' : TypeId} {s s' n n' : Nat} {v v' : Value} {xs xs' : List Value} (h : w.ownsRow b e s v n xs) (h' : w.ownsRow b' e' s' v' n' xs') (hne : e ≠ e') : v.ownBlock = none ∨ v.ownBlock ≠ v'.ownBlock := by
  rcases h.2 with ⟨rfl, _⟩ | ⟨g, cap, cur, rfl, _, hh, _⟩
  · exact .inl rfl
  · rcases h'.2 with ⟨rfl, _⟩ | ⟨g', cap', cur', rfl, _, hh', _⟩
    · exact .inr (by simp [Value.ownBlock])
    · refine .inr fun hk => ?_
      have hgg : g = g' := by simpa [Value.ownBlock] using hk
      subst hgg
      rw [hh] at hh'
      injection hh' with hh'
      injection hh' with _ ht
      exact hne ht
theorem own_far {w : World} {b : Nat} {e t : TypeId} {s n g : Nat} {v : Value} {xs : List Value} {cs : Array Value} {m : Nat × Nat} (h : w.ownsRow b e s v n xs) (hg : w.heap[g]? = some (.cells cs t m)) (hne : e ≠ t) : v.ownBlock = none ∨ v.ownBlock ≠ some g := by
  rcases h.2 with ⟨rfl, _⟩ | ⟨g', cap, cur, rfl, _, hh, _⟩
  · exact .inl rfl
  · refine .inr fun hk => ?_
    have hgg : g' = g := by simpa [Value.ownBlock] using hk
    subst hgg
    rw [hh] at hg
    injection hg with hg
    injection hg with _ ht
    exact hne ht
theorem grown_setCell (w : World) (a : Addr) (u : Value) : w.grownBy (w.setCell a u) (some a.block) :=
  ⟨rfl, rfl, rfl, by simp [World.setCell], fun k _ hne => Below.heap_setCell w a u k (fun e => hne (by rw [e]))⟩
theorem own_form {w : World} {b : Nat} {e : TypeId} {s n : Nat} {v : Value} {xs : List Value} (h : w.ownsRow b e s v n xs) : ∃ A c, v = .slice A n c := by
  rcases h.2 with ⟨rfl, rfl⟩ | ⟨g, cap, cur, rfl, _⟩
  · exact ⟨_, _, rfl⟩
  · exact ⟨_, _, rfl⟩
theorem own_form' {w : World} {b : Nat} {e : TypeId} {s n : Nat} {v : Value} {xs : List Value} (h : w.ownsRow b e s v (n + 1) xs) : ∃ r c, v = .slice (some ⟨r, 0, none⟩) (n + 1) c := by
  rcases h.2 with ⟨_, h0⟩ | ⟨g, cap, cur, rfl, _⟩
  · omega
  · exact ⟨_, _, rfl⟩

/-- The world in bits.New behind k rounds. -/
structure NewSt (w wr : World) (g : Nat) (A : Option Addr) (c : Nat) (l : List Bool) (r c' k : Nat) : Prop where
  hB : w.heap.size ≤ g
  blk : wr.heap[g]? = some (.cells #[.slice A l.length c, .slice (some ⟨r, 0, none⟩) (k + 1) c'] 38 (0, 0))
  own : wr.ownsRow w.heap.size 3 1 (.slice (some ⟨r, 0, none⟩) (k + 1) c') (k + 1) (rks l k)
  row : wr.ownsRow w.heap.size 4 1 (.slice A l.length c) l.length (bls l)
  below : Below w.heap.size w wr

theorem NewSt.cell0 {w wr : World} {g : Nat} {A : Option Addr} {c : Nat} {l : List Bool} {r c' k : Nat} (h : NewSt w wr g A c l r c' k) : wr.cell? ⟨g, 0, none⟩ = some (.slice A l.length c) := by
  rw [cell_of_row wr g 0 _ 38 (0, 0) h.blk]; rfl
theorem NewSt.cell1 {w wr : World} {g : Nat} {A : Option Addr} {c : Nat} {l : List Bool} {r c' k : Nat} (h : NewSt w wr g A c l r c' k) : wr.cell? ⟨g, 1, none⟩ = some (.slice (some ⟨r, 0, none⟩) (k + 1) c') := by
  rw [cell_of_row wr g 1 _ 38 (0, 0) h.blk]; rfl
theorem blk_frozen {w : World} {g i : Nat} {cs : Array Value} {t : TypeId} (h : w.heap[g]? = some (.cells cs t (0, 0))) : w.frozen? ⟨g, i, none⟩ = false := by
  simp [World.frozen?, h]
theorem NewSt.lt {w wr : World} {g : Nat} {A : Option Addr} {c : Nat} {l : List Bool} {r c' k : Nat} (h : NewSt w wr g A c l r c' k) : g < wr.heap.size := (Array.getElem?_eq_some_iff.1 h.blk).1

/-- One round's append and store. -/
theorem NewSt.step {w wr : World} {g : Nat} {A : Option Addr} {c : Nat} {l : List Bool} {r c' k : Nat} (h : NewSt w wr g A c l r c' k) (o : Obj) {w1 : World} {v' : Value}
    (hown : w1.ownsRow w.heap.size 3 1 v' (k + 1 + 1) (rks l k ++ [.int .i64 (cnt l (k + 1) : Nat)])) (hg : (wr.alloc o).grownBy w1 (Value.slice (some ⟨r, 0, none⟩) (k + 1) c').ownBlock) :
    ∃ r' c'', v' = .slice (some ⟨r', 0, none⟩) (k + 1 + 1) c'' ∧ w1.cell? ⟨g, 1, none⟩ = some (.slice (some ⟨r, 0, none⟩) (k + 1) c') ∧ w1.frozen? ⟨g, 1, none⟩ = false ∧
      NewSt w (w1.setCell ⟨g, 1, none⟩ v') g A c l r' c'' (k + 1) := by
  obtain ⟨r', c'', rfl⟩ := own_form' hown
  have hne : some g ≠ (Value.slice (some ⟨r, 0, none⟩) (k + 1) c').ownBlock := by
    rcases own_far h.own h.blk (by decide) with h0 | h0
    · simp [Value.ownBlock] at h0
    · exact fun e => h0 e.symm
  have hb1 : w1.heap[g]? = some (.cells #[.slice A l.length c, .slice (some ⟨r, 0, none⟩) (k + 1) c'] 38 (0, 0)) := by
    rw [hg.block g (by have := h.lt; simp; omega) hne, Below.heap_alloc _ _ _ h.lt]; exact h.blk
  have hrow1 : w1.ownsRow w.heap.size 4 1 (.slice A l.length c) l.length (bls l) := (h.row.alloc o).kept hg (own_ne h.row h.own (by decide))
  refine ⟨r', c'', rfl, by rw [cell_of_row w1 g 1 _ 38 (0, 0) hb1]; rfl, blk_frozen hb1, h.hB, ?_, ?_, ?_, ?_⟩
  · simp [World.setCell, Array.getElem?_modify, hb1]
  · rw [rks_succ]
    exact hown.kept (grown_setCell _ _ _) (own_far hown hb1 (by decide))
  · exact hrow1.kept (grown_setCell _ _ _) (own_far hrow1 hb1 (by decide))
  · refine Below.setCell ?_ h.hB _
    refine Below.grown (h.below.alloc h.below.size o) hg (by have := h.below.size; simp; omega) (fun j hj => ?_)
    exact (h.own.lt j hj).1

/-- block g is a Vec of the bits l -/
structure Vec (w : World) (g : Nat) (l : List Bool) : Prop where
  ex : ∃ A c r c', w.heap[g]? = some (.cells #[.slice A l.length c, .slice (some ⟨r, 0, none⟩) (l.length + 1) c'] 38 (0, 0)) ∧ Seg w A l.length (bls l) ∧ Seg w (some ⟨r, 0, none⟩) (l.length + 1) (rks l l.length)
  len : l.length ≤ 4096
theorem Vec.lt {w : World} {g : Nat} {l : List Bool} (h : Vec w g l) : g < w.heap.size := by
  obtain ⟨A, c, r, c', hb, _⟩ := h.ex
  exact (Array.getElem?_eq_some_iff.1 hb).1
theorem Vec.below {w w' : World} {g : Nat} {l : List Bool} (h : Vec w g l) (hb : Below w.heap.size w w') : Vec w' g l := by
  refine ⟨?_, h.len⟩
  have hlt := h.lt
  obtain ⟨A, c, r, c', hg, h1, h2⟩ := h.ex
  exact ⟨A, c, r, c', (hb.block g hlt).trans hg, h1.below hb, h2.below hb⟩
theorem NewSt.vec {w wr : World} {g : Nat} {A : Option Addr} {c : Nat} {l : List Bool} {r c' : Nat} (h : NewSt w wr g A c l r c' l.length) (hl : l.length ≤ 4096) : Vec wr g l :=
  ⟨⟨A, c, r, c', h.blk, Seg.of_own h.row, Seg.of_own h.own⟩, hl⟩
end Go.Proofs.Ytajhilgfohffdaa
