/- Arguments that are texts or bytes, opened. -/
import Derived.Test.YtjnamiiiceggmaaKnown
import Derived.SizedLaws
import Derived.SliceStrings
namespace Go.Proofs.Ytjnamiiiceggmaa
open Go.RowKit Go.Lib Fp

/-- an argument of texts -/
structure Txs (w : World) (A : Option Addr) (c : Nat) (l : List ByteArray) : Prop where
  cap : l.length ≤ c
  seg : Seg w A l.length (sts l)
  small : ∀ s ∈ l, s.size ≤ 140737488351232

section
open Go.ChangeShapes Go.WideShapes
variable {H : Type} {enc' : TypeId × Value → H} {w : World} {base : Nat} {spare : Nat → Bool} {held : Bool}
theorem mem_weightsAll {P : Program} {e : TypeId} : ∀ {ds : List (DataW H)} {d : DataW H} {n : Nat}, d ∈ ds → n ∈ d.weights P e → n ∈ DataW.weightsAll P e ds
  | [], _, _, h, _ => by cases h
  | d0 :: r, d, n, h, hn => by
    simp only [DataW.weightsAll, List.mem_append]
    rcases List.mem_cons.1 h with rfl | h
    · exact .inl hn
    · exact .inr (mem_weightsAll h hn)
theorem open_texts {ts : List TypeId} {ds : List (DataW H)} {j : Nat} {A : Option Addr} {n c fuel : Nat} {d : DataW H} {ps : List MemPlace}
    (hsz : (DataW.weightsEach Try.prog ts ds).all (· ≤ reachBytes) = true) (ht : ts[j]? = some 22) (hd : ds[j]? = some d)
    (h : DataW.trod enc' Try.prog w base spare held fuel 22 [.slice A n c] = some (d, ps)) : ∃ l : List ByteArray, l.length = n ∧ Txs w A c l := by
  rcases open_strings Try.underlying22 Try.underlying9 (by kernel_rfl) h with ⟨hcs, hx⟩ | ⟨a, len, cap, ss, hcs, _, hl, _, hss, hx, hcell, _⟩
  · simp at hcs
    obtain ⟨rfl, rfl, rfl⟩ := hcs
    exact ⟨[], rfl, Nat.zero_le _, ⟨rfl, fun h => absurd h (by simp)⟩, fun s hs => by cases hs⟩
  · simp at hcs
    obtain ⟨rfl, rfl, rfl⟩ := hcs
    have hle : n ≤ ss.length := by rw [hss]; split <;> omega
    have hlen : (ss.take n).length = n := by rw [List.length_take]; omega
    refine ⟨ss.take n, hlen, by omega, ⟨by rw [sts_len], fun _ => ⟨a, rfl, fun i u hu => ?_⟩⟩, fun s hs => ?_⟩
    · have hi : i < n := by have := (List.getElem?_eq_some_iff.1 hu).1; rwa [sts_len, hlen] at this
      rw [hcell i (by omega), ← hu]
      unfold sts
      rw [List.getElem?_map, List.getElem?_take_of_lt hi, List.getElem?_eq_getElem (by omega), ← List.getElem_eq_getD]
      rfl
    · obtain ⟨hdx, _⟩ := Prod.mk.inj hx
      subst hdx
      have hm : s.data.toList.length ∈ DataW.weightsEach Try.prog ts ds := by
        refine DataW.weights_mem_each ht hd _ ?_
        simp only [DataW.weights, Try.underlying22]
        refine List.mem_cons_of_mem _ (List.mem_append_left _ (mem_weightsAll (d := .lit (.string s.data.toList)) (List.mem_map.2 ⟨s, hs, rfl⟩) (by simp [DataW.weights])))
      have := List.all_eq_true.1 hsz _ hm
      rw [Array.length_toList] at this
      exact of_decide_eq_true this
theorem open_bytes {A : Option Addr} {n c fuel : Nat} {x : DataW H × List MemPlace}
    (h : DataW.trod enc' Try.prog w base spare held fuel 23 [.slice A n c] = some x) : ∃ l : List UInt8, l.length = n ∧ Seg w A n (bys l) := by
  rcases open_ints Try.underlying23 Try.underlying5 (by kernel_rfl) h with ⟨hcs, hx⟩ | ⟨a, len, cap, zs, hcs, _, hl, _, hss, hx, hcell, hwz⟩
  · simp at hcs
    obtain ⟨rfl, rfl, rfl⟩ := hcs
    exact ⟨[], rfl, rfl, fun h => absurd h (by omega)⟩
  · simp at hcs
    obtain ⟨rfl, rfl, rfl⟩ := hcs
    have hle : n ≤ zs.length := by rw [hss]; split <;> omega
    refine ⟨(zs.take n).map fun z => UInt8.ofNat z.toNat, by simp; omega, by simp [bys]; omega, fun _ => ⟨a, rfl, fun i u hu => ?_⟩⟩
    have hi : i < n := by
      have := (List.getElem?_eq_some_iff.1 hu).1
      simp [bys] at this; omega
    have hw := hwz (zs[i]'(by omega)) (List.getElem_mem _)
    simp [Lit.wf, show IntKind.u8.min = 0 from rfl, show IntKind.u8.max = 255 from rfl] at hw
    rw [hcell i (by omega), ← hu, ← List.getElem_eq_getD (h := show i < zs.length by omega)]
    have e : (((UInt8.ofNat (zs[i]'(by omega)).toNat).toNat : Nat) : Int) = zs[i]'(by omega) := by
      rw [UInt8.toNat_ofNat']; omega
    simp only [bys, List.map_map, List.getElem?_map, List.getElem?_take_of_lt hi, List.getElem?_eq_getElem (show i < zs.length by omega), Option.map_some, Function.comp, e]
end
end Go.Proofs.Ytjnamiiiceggmaa
