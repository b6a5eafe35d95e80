/- The shelf's contracts of sort.Search and of slices.BinarySearch at this program: the tables of numbers, laid by the kit's own tool. -/
import Derived.Shelf.SlGeneric
import Derived.Shelf.SlSorted.Search
import Derived.Shelf.Spec.SearchS
import Derived.Test.YtjnamiiiceggmaaProg
namespace Go.Proofs
open Go.Shelf
def Try.search_ren : Go.Shelf.Ren := ⟨fun | 16 => 33 | n => n, fun | 3 => 3 | 35 => 61 | 4 => 4 | 38 => 57 | n => n, fun | n => n⟩
theorem Try.search : Go.Proofs.SlLaysO.n16 Try.prog Try.search_ren := {
  mixed := by kernel_rfl
  f16 := Try.func33.trans (congrArg some (by kernel_rfl))
  t3 := Try.underlying3
  a3 := Try.isAgg3
  z3 := Try.sizeOf3
  v3 := Try.zeroValue3
  t4 := Try.underlying4
  a4 := Try.isAgg4
  z4 := Try.sizeOf4
  v4 := Try.zeroValue4
  t35 := Try.underlying61
  a35 := Try.isAgg61
  z35 := Try.sizeOf61
  v35 := Try.zeroValue61
  t38 := Try.underlying57
  a38 := Try.isAgg57
  z38 := Try.sizeOf57
  v38 := Try.zeroValue57 }
def Try.bsearch_ren : Go.Shelf.Ren := ⟨fun | 26 => 30 | 33 => 37 | 34 => 38 | 38 => 40 | n => n, fun | 24 => 22 | 9 => 9 | 3 => 3 | 4 => 4 | 40 => 57 | 0 => 0 | n => n, fun | n => n⟩
theorem Try.bsearch : Go.Proofs.Lays2.n26 Try.prog Try.bsearch_ren := {
  mixed := by kernel_rfl
  f26 := Try.func30.trans (congrArg some (by kernel_rfl))
  f33 := Try.func37.trans (congrArg some (by kernel_rfl))
  f34 := Try.func38.trans (congrArg some (by kernel_rfl))
  f38 := Try.func40.trans (congrArg some (by kernel_rfl))
  t0 := Try.underlying0
  a0 := Try.isAgg0
  z0 := Try.sizeOf0
  v0 := Try.zeroValue0
  t3 := Try.underlying3
  a3 := Try.isAgg3
  z3 := Try.sizeOf3
  v3 := Try.zeroValue3
  t4 := Try.underlying4
  a4 := Try.isAgg4
  z4 := Try.sizeOf4
  v4 := Try.zeroValue4
  t9 := Try.underlying9
  a9 := Try.isAgg9
  z9 := Try.sizeOf9
  v9 := Try.zeroValue9
  t24 := Try.underlying22
  a24 := Try.isAgg22
  z24 := Try.sizeOf22
  v24 := Try.zeroValue22
  t40 := Try.underlying57
  a40 := Try.isAgg57
  z40 := Try.sizeOf57
  v40 := Try.zeroValue57 }
end Go.Proofs
