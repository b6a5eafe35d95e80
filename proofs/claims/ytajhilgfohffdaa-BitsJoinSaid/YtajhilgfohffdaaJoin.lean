import Derived.Test.YtajhilgfohffdaaIs
import Derived.Laws.AppendOwnNone
namespace Go.Proofs.Ytajhilgfohffdaa
open Go.RowKit Go.Lib Bp
theorem join_cnt (a b : List Bool) (k : Nat) : cnt (a ++ b) (a.length + k) = cnt a a.length + cnt b k := by
  unfold cnt
  rw [List.take_length, List.take_append, List.take_of_length_le (by omega), List.count_append, Nat.add_sub_cancel_left]
theorem join_all (a b : List Bool) : cnt (a ++ b) (a ++ b).length = cnt a a.length + cnt b b.length := by
  rw [List.length_append, join_cnt]
theorem join_at (a b : List Bool) (k i : Nat) (h : At b k i) : At (a ++ b) (cnt a a.length + k) (a.length + i) := by
  obtain ⟨hl, ht, hc⟩ := h
  refine ⟨by rw [List.length_append]; omega, ?_, by rw [join_cnt, hc]⟩
  rw [List.getElem_append_right (by omega)]
  simpa using ht

theorem run_append_none0 {P : Program} (w : World) (base : Nat) (t ty e : TypeId) (i : TypeInfo) (size : Nat) (ht : P.underlying t = some (.slice e)) (hi : P.info? e = some i)
    (v : Value) (n : Nat) (xs : List Value) (hown : w.ownsRow base e size v n xs) (c : Nat) : (Builtin.append_ #[t, t] ty #[v, .slice none 0 c]).run P w = .ok v w := by
  rcases hown.2 with ⟨rfl, rfl⟩ | ⟨g, cap, cur, rfl, _, _, hnc, _⟩
  · simp [Builtin.append_, run_underlying ht, sizeOf, typeInfo, hi, Builtin.lenOf, Builtin.firstCells]
  · simp [Builtin.append_, run_underlying ht, sizeOf, typeInfo, hi, Builtin.lenOf, Builtin.firstCells, hnc, storeCells]

/-- append to a row of the call's own, whatever slice stands behind it. -/
theorem wpList_append_seg {P : Program} (w : World) {ops : Array Oper} {rest : List Oper} {o : Oper} {a : Act} {Q : Exit → Act → World → Prop} (hgd : o.guard = none) (s x : Operand) (t : TypeId)
    (ho : o.op = .call { callee := .builtin .append, args := #[s, x], argTypes := #[t, t] })
    (base : Nat) (e : TypeId) (i : TypeInfo) (z : Value) (bytes : Nat) (ht : P.underlying t = some (.slice e)) (hi : P.info? e = some i) (hz : i.zero = some z)
    (hsize : i.size = 1) (hby : i.bytes = bytes) (hzs : z.cells.size = 1)
    (v : Value) (n : Nat) (xs : List Value) (hs : a.eval s = v) (hown : w.ownsRow base e 1 v n xs)
    (A : Option Addr) (m c : Nat) (news : List Value) (hx : a.eval x = .slice A m c) (hseg : Seg w A m news) (h1 : ∀ u ∈ news, u.oneCell' = true)
    (h63 : n + m ≤ maxLen) (hbytes : (n + m) * bytes ≤ 140737488355328) (hbase : base ≤ w.heap.size)
    (h : ∀ v' w', w'.ownsRow base e 1 v' (n + m) (xs ++ news) → w.grownBy w' v.ownBlock → wpList P ops Q rest (a.put o.dst v') w') : wpList P ops Q (o :: rest) a w := by
  cases A with
  | none =>
    have hm : m = 0 := by
      rcases Nat.eq_zero_or_pos m with h0 | h0
      · exact h0
      · obtain ⟨ad, e, _⟩ := hseg.cell h0; cases e
    subst hm
    obtain rfl : news = [] := List.eq_nil_of_length_eq_zero hseg.len
    refine wpList_plain hgd fun K hK => ?_
    have hrun := run_append_none0 (P := P) w base t o.type e i 1 ht hi v n xs hown c
    unfold Oper.wp
    simp [execOp, ho, resolve, invoke, builtin, hs, hx, hrun, Result.andThen]
    exact hK _ _ (h v w (by simpa using hown) (World.grownBy.refl w _))
  | some ad =>
    refine wpList_append_own w hgd s x t ho base e i z 1 bytes ht hi hz hsize hby hzs (by decide) v n xs hs hown ad m c news hx (by rw [hseg.len, Nat.mul_one]) ?_ h1 h63 hbytes hbase (fun v' w' h2 h3 _ => h v' w' h2 h3)
    intro j u hu
    have hn0 : 0 < m := by
      have := (List.getElem?_eq_some_iff.1 hu).1
      rw [hseg.len] at this; omega
    obtain ⟨ad', e, hc⟩ := hseg.cell hn0
    cases e
    exact hc j u hu

set_option maxHeartbeats 4000000 in
set_option maxRecDepth 100000 in
theorem join_in (A B : Option Addr) (c d : Nat) (a b : List Bool) (w : World) (ha : Seg w A a.length (bls a)) (hb : Seg w B b.length (bls b)) (hla : a.length ≤ 200) (hlb : b.length ≤ 200) :
    Calls Try.prog 5 #[.slice A a.length c, .slice B b.length d] w fun e w' => e = .returned (.bool true) ∧ Below w.heap.size w w' := by
  obtain ⟨i0, hi, hz0, hz1, hz2⟩ := info_parts info4
  have HA := Lib.hid ha
  have HB := Lib.hid hb
  clear ha hb
  have hca := cnt_le a a.length
  have hcb := cnt_le b b.length
  go_enter Try.func5, Try.ntmps5
  go_wp2_with fail
  refine (new_calls A c a w HA.out (by omega)).mono ?_
  rintro e w1 ⟨gx, rfl, _, hx1, hb1⟩
  go_wp2_with fail
  refine (new_calls B d b w1 (HB.out.below hb1) (by omega)).mono ?_
  rintro e w2 ⟨gy, rfl, _, hy2, hb2⟩
  have hx2 := hx1.below hb2
  have hB2 := thn hb1 hb2
  clear hx1 hb1 hb2
  have hb3 : Below w2.heap.size w2 (w2.alloc (.cells #[] 4)) := (Below.refl _ _).alloc (Nat.le_refl _) _
  have hown0 : (w2.alloc (.cells #[] 4)).ownsRow w2.heap.size 4 1 (.slice (some ⟨w2.heap.size, 0, none⟩) 0 0) 0 [] := World.ownsRow_made w2 #[] 0 (Nat.le_refl _) (Nat.zero_le _) (by simp)
  go_wp2_with (at_builtin; refine wpList_append_seg _ rfl (.tmp 24) (.tmp 25) 22 rfl w2.heap.size 4 i0 (.bool false) 1 Try.underlying22 hi hz0 hz1 hz2 rfl _ 0 [] rfl hown0 A a.length c (bls a) rfl ?c1 (bls_one a) ?c2 ?c3 ?c4 ?_)
  case c1 => exact HA.out.below (thn hB2 hb3)
  case c2 => unfold maxLen; omega
  case c3 => omega
  case c4 => simp
  intro v1 w3 hown1 hg1
  have hb4 : Below w2.heap.size w2 w3 := hb3.grown hg1 (by simp) (fun k hk => by simp [Value.ownBlock] at hk; omega)
  have hbase1 : ∀ k, v1.ownBlock = some k → w2.heap.size ≤ k := fun k hk => (hown1.lt k hk).1
  go_wp2_with (at_builtin; refine wpList_append_seg _ rfl (.tmp 26) (.tmp 27) 22 rfl w2.heap.size 4 i0 (.bool false) 1 Try.underlying22 hi hz0 hz1 hz2 rfl v1 a.length (bls a) rfl hown1 B b.length d (bls b) rfl ?d1 (bls_one b) ?d2 ?d3 ?d4 ?_)
  case d1 => exact HB.out.below (thn hB2 hb4)
  case d2 => unfold maxLen; omega
  case d3 => omega
  case d4 => exact hb4.size
  intro v2 w4 hown2 hg2
  have hb5 : Below w2.heap.size w2 w4 := hb4.grown hg2 hb4.size hbase1
  have hlen : (a ++ b).length = a.length + b.length := by simp
  have hown : w4.ownsRow w2.heap.size 4 1 v2 (a ++ b).length (bls (a ++ b)) := by
    rw [hlen]
    have : bls (a ++ b) = bls a ++ bls b := by simp [bls]
    rw [this]; exact hown2
  clear hown0 hown1 hown2 hg1 hg2 hb3 hb4 hbase1
  obtain ⟨A2, c2, rfl⟩ := own_form hown
  have hx4 := hx2.below hb5
  have hy4 := hy2.below hb5
  have hB4 := thn hB2 hb5
  have hnz := new_calls A2 c2 (a ++ b) w4 (Seg.of_own hown) (by omega)
  rw [hlen] at hnz
  have HN := Lib.hid hnz
  have hlen' : Hid ((a ++ b).length = a.length + b.length) := List.length_append
  clear hlen
  clear hnz hx2 hy2 hB2 hb5 hown
  go_wp2_with fail
  refine HN.out.mono ?_
  rintro e w5 ⟨gz, rfl, _, hz5, hb6⟩
  have hx5 := hx4.below hb6
  have hy5 := hy4.below hb6
  have hB5 := thn hB4 hb6
  clear hx4 hy4 hB4 hb6
  go_wp2_with fail
  refine (rank_is gx a _ (cnt a a.length : Nat) _ hx5 (by simp [rankZ])).mono ?_
  rintro e w6 ⟨rfl, hb7⟩
  have hy6 := hy5.below hb7
  have hz6 := hz5.below hb7
  have hB6 := thn hB5 hb7
  clear hx5 hy5 hz5 hB5 hb7
  go_wp2_with fail
  go_loopw [9] (fun i wr => ∃ k : Nat, k ≤ b.length ∧ i = .int .i64 k ∧ Vec wr gy b ∧ Vec wr gz (a ++ b) ∧ Below w.heap.size w wr) (fun i _ => b.length - (intOf i).toNat)
  case atStart => exact ⟨0, Nat.zero_le _, rfl, hy6, hz6, hB6⟩
  case round =>
    obtain ⟨k, hk, rfl, hy, hz, hB⟩ := hrel
    by_cases hlt : k < b.length
    · have hrk : rankZ (a ++ b) ((a.length : Int) + (k : Int)) = ((cnt a a.length : Nat) : Int) + ((cnt b k : Nat) : Int) := by
        unfold rankZ
        rw [show ((a.length : Int) + (k : Int)).toNat = a.length + k by omega, join_cnt]; rfl
      have hry : rankZ b (k : Int) = ((cnt b k : Nat) : Int) := by unfold rankZ; rw [Int.toNat_natCast]
      have hck := cnt_le b k
      have HRK := Lib.hid hrk
      have HRY := Lib.hid hry
      clear hrk hry
      by_cases hkb : k < cnt b b.length
      · obtain ⟨i, hi⟩ := at_ex b k hkb
        have hil := hi.lt
        have HI := Lib.hid hi
        clear hi
        go_wp2_with fail
        refine (select_is gy b _ i _ hy (selZ_at HI.out)).mono ?_
        rintro e w7 ⟨rfl, hb8⟩
        have hy7 := hy.below hb8
        have hz7 := hz.below hb8
        have hB7 := thn hB hb8
        clear hb8 hy hz hB
        go_wp2_with fail
        refine (select_is gz (a ++ b) _ ((i : Int) + (a.length : Int)) _ hz7 (by
          have := selZ_at (join_at a b k i HI.out)
          rw [Int.natCast_add, Int.natCast_add] at this
          rw [this]; omega)).mono ?_
        rintro e w8 ⟨rfl, hb9⟩
        have hy8 := hy7.below hb9
        have hz8 := hz7.below hb9
        have hB8 := thn hB7 hb9
        clear hb9 hy7 hz7 hB7
        go_wp2_with fail
        refine (rank_is gz (a ++ b) _ _ _ hz8 HRK.out).mono ?_
        rintro e w9 ⟨rfl, hb10⟩
        have hy9 := hy8.below hb10
        have hz9 := hz8.below hb10
        have hB9 := thn hB8 hb10
        clear hb10 hy8 hz8 hB8
        go_wp2_with fail
        refine (rank_is gy b _ _ _ hy9 HRY.out).mono ?_
        rintro e w10 ⟨rfl, hb11⟩
        have hy10 := hy9.below hb11
        have hz10 := hz9.below hb11
        have hB10 := thn hB9 hb11
        clear hb11 hy9 hz9 hB9
        go_wp2_with fail
        go_roundw
        case rel => exact ⟨k + 1, by omega, by go_num, hy10, hz10, hB10⟩
        case measure => simp [intOf]; omega
      · go_wp2_with fail
        refine (select_is gy b _ (-1) _ hy (selZ_none (by omega))).mono ?_
        rintro e w7 ⟨rfl, hb8⟩
        have hy7 := hy.below hb8
        have hz7 := hz.below hb8
        have hB7 := thn hB hb8
        clear hb8 hy hz hB
        go_wp2_with fail
        refine (select_is gz (a ++ b) _ (-1) _ hz7 (selZ_none (by rw [join_all]; omega))).mono ?_
        rintro e w8 ⟨rfl, hb9⟩
        have hy8 := hy7.below hb9
        have hz8 := hz7.below hb9
        have hB8 := thn hB7 hb9
        clear hb9 hy7 hz7 hB7
        go_wp2_with fail
        refine (rank_is gz (a ++ b) _ _ _ hz8 HRK.out).mono ?_
        rintro e w9 ⟨rfl, hb10⟩
        have hy9 := hy8.below hb10
        have hz9 := hz8.below hb10
        have hB9 := thn hB8 hb10
        clear hb10 hy8 hz8 hB8
        go_wp2_with fail
        refine (rank_is gy b _ _ _ hy9 HRY.out).mono ?_
        rintro e w10 ⟨rfl, hb11⟩
        have hy10 := hy9.below hb11
        have hz10 := hz9.below hb11
        have hB10 := thn hB9 hb11
        clear hb11 hy9 hz9 hB9
        go_wp2_with fail
        go_roundw
        case rel => exact ⟨k + 1, by omega, by go_num, hy10, hz10, hB10⟩
        case measure => simp [intOf]; omega
    · have hL := len_is gz (a ++ b) wr hz
      rw [hlen'.out, Int.natCast_add] at hL
      have HL := Lib.hid hL
      clear hL
      go_wp2_with fail
      refine HL.out.mono ?_
      rintro e w7 ⟨rfl, hb8⟩
      go_wp2_with fail
      refine (known_calls _).mono ?_
      rintro e w8 ⟨rfl, hb9⟩
      go_wp2_with fail
      go_ret
      exact ⟨rfl, thn (thn hB hb8) hb9⟩

theorem join_walk (A : Option Addr) (c : Nat) (a : List Bool) (B : Option Addr) (d : Nat) (b : List Bool) (w : World) (ha : Seg w A a.length (bls a)) (hb : Seg w B b.length (bls b)) :
    Calls Try.prog 5 #[.slice A a.length c, .slice B b.length d] w fun e w' => e = .returned (.bool true) ∧ Below w.heap.size w w' := by
  by_cases h1 : 200 < a.length
  · clear ha hb
    go_enter Try.func5, Try.ntmps5
    go_wp2_with fail
    go_ret
    exact ⟨rfl, Below.refl _ _⟩
  · by_cases h2 : 200 < b.length
    · clear ha hb
      go_enter Try.func5, Try.ntmps5
      go_wp2_with fail
      go_ret
      exact ⟨rfl, Below.refl _ _⟩
    · exact join_in A B c d a b w ha hb (by omega) (by omega)
end Go.Proofs.Ytajhilgfohffdaa
