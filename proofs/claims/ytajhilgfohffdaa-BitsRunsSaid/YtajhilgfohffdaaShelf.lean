/- The shelf's contract of sort.SearchInts at this program: the table of numbers, laid by the kit's own tool. -/
import Derived.Shelf.SlGeneric
import Derived.Shelf.SlSorted.Search
import Derived.Shelf.SlicesE.Clone
import Derived.Test.YtajhilgfohffdaaProg
namespace Go.Proofs
open Go.Shelf
def Try.searchInts_ren : Go.Shelf.Ren := ⟨fun | 14 => 21 | 22 => 23 | 16 => 22 | n => n, fun | 28 => 36 | 3 => 3 | 0 => 0 | 35 => 32 | 4 => 4 | 38 => 41 | n => n, fun | n => n⟩
theorem Try.searchInts : Go.Proofs.SlLaysO.n14 Try.prog Try.searchInts_ren := {
  mixed := by kernel_rfl
  f14 := Try.func21.trans (congrArg some (by kernel_rfl))
  f16 := Try.func22.trans (congrArg some (by kernel_rfl))
  f22 := Try.func23.trans (congrArg some (by kernel_rfl))
  t0 := Try.underlying0
  a0 := Try.isAgg0
  z0 := Try.sizeOf0
  v0 := Try.zeroValue0
  t3 := Try.underlying3
  a3 := Try.isAgg3
  z3 := Try.sizeOf3
  v3 := Try.zeroValue3
  t4 := Try.underlying4
  a4 := Try.isAgg4
  z4 := Try.sizeOf4
  v4 := Try.zeroValue4
  t28 := Try.underlying36
  a28 := Try.isAgg36
  z28 := Try.sizeOf36
  v28 := Try.zeroValue36
  t35 := Try.underlying32
  a35 := Try.isAgg32
  z35 := Try.sizeOf32
  v35 := Try.zeroValue32
  t38 := Try.underlying41
  a38 := Try.isAgg41
  z38 := Try.sizeOf41
  v38 := Try.zeroValue41 }
def Try.cloneB_ren : Go.Shelf.Ren := ⟨fun | 41 => 20 | n => n, fun | 22 => 22 | 23 => 4 | 4 => 4 | n => n, fun | n => n⟩
theorem Try.cloneB : Go.Proofs.SlLaysE0.n41 Try.prog Try.cloneB_ren := {
  mixed := by kernel_rfl
  f41 := ⟨Try.f20.name, by decide, Try.func20.trans (congrArg some (by kernel_rfl))⟩
  t4 := Try.underlying4
  a4 := Try.isAgg4
  z4 := Try.sizeOf4
  v4 := Try.zeroValue4
  t22 := Try.underlying22
  a22 := Try.isAgg22
  z22 := Try.sizeOf22
  v22 := Try.zeroValue22 }
end Go.Proofs
