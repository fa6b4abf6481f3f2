import Derived.Shelf.SlSortCmp.Insertion
import Derived.Test.YtoadgikbbigdlaaProg
namespace Go.Proofs
open Go.Shelf
def Try.lays105_ren : Go.Shelf.Ren := ⟨fun | 20 => 105 | n => n, fun | 24 => 3 | 22 => 26 | 3 => 3 | 25 => 92 | 4 => 4 | 0 => 0 | n => n, fun | n => n⟩
theorem Try.lays105 : Go.Proofs.SlLaysF.n20 Try.prog Try.lays105_ren := {
 mixed := by kernel_rfl
 f20 := ⟨Try.f105.name, by decide, Try.func105.trans (congrArg some (by kernel_rfl))⟩
 t0 := Try.underlying0
 a0 := Try.isAgg0
 z0 := Try.sizeOf0
 v0 := Try.zeroValue0
 t3 := Try.underlying3
 a3 := Try.isAgg3
 z3 := Try.sizeOf3
 v3 := Try.zeroValue3
 t4 := Try.underlying4
 a4 := Try.isAgg4
 z4 := Try.sizeOf4
 v4 := Try.zeroValue4
 t22 := Try.underlying26
 a22 := Try.isAgg26
 z22 := Try.sizeOf26
 v22 := Try.zeroValue26
 a24 := Try.isAgg3
 z24 := Try.sizeOf3
 t25 := Try.underlying92
 a25 := Try.isAgg92
 z25 := Try.sizeOf92
 v25 := Try.zeroValue92 }
end Go.Proofs
