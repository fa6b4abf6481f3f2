import Derived.Shelf.SlicesE.Clone
import Derived.Shelf.SlicesG.Clone
import Derived.Shelf.SlicesE.DeleteFunc
import Derived.Test.YtoadgikbbigdlaaProg
namespace Go.Proofs
open Go.Shelf
def Try.lays53_ren : Go.Shelf.Ren := ⟨fun | 41 => 53 | n => n,fun | 22 => 26 | 23 => 3 | 4 => 4 | n => n,fun | n => n⟩
theorem Try.lays53 : Go.Proofs.SlLaysN.n41 Try.prog Try.lays53_ren := {
 mixed := by kernel_rfl
 f41 := ⟨Try.f53.name,by decide,Try.func53.trans (congrArg some (by kernel_rfl))⟩
 t4 := Try.underlying4
 a4 := Try.isAgg4
 z4 := Try.sizeOf4
 v4 := Try.zeroValue4
 t22 := Try.underlying26
 a22 := Try.isAgg26
 z22 := Try.sizeOf26
 v22 := Try.zeroValue26
 t23 := Try.underlying3
 a23 := Try.isAgg3
 z23 := Try.sizeOf3
 v23 := Try.zeroValue3
 i23 := by kernel_rfl }
def Try.lays51_ren : Go.Shelf.Ren := ⟨fun | 41 => 51 | n => n,fun | 22 => 31 | 23 => 62 | 4 => 4 | n => n,fun | n => n⟩
theorem Try.lays51 : Go.Proofs.SlLaysE0.n41 Try.prog Try.lays51_ren := {
 mixed := by kernel_rfl
 f41 := ⟨Try.f51.name,by decide,Try.func51.trans (congrArg some (by kernel_rfl))⟩
 t4 := Try.underlying4
 a4 := Try.isAgg4
 z4 := Try.sizeOf4
 v4 := Try.zeroValue4
 t22 := Try.underlying31
 a22 := Try.isAgg31
 z22 := Try.sizeOf31
 v22 := Try.zeroValue31 }
def Try.lays52_ren : Go.Shelf.Ren := ⟨fun | 10 => 52 | 6 => 87 | n => n,fun | 22 => 26 | 23 => 3 | 25 => 80 | 3 => 3 | 4 => 4 | 0 => 0 | n => n,fun | n => n⟩
theorem Try.lays52 : Go.Proofs.SlLaysH.n10 Try.prog Try.lays52_ren := {
 mixed := by kernel_rfl
 f6 := ⟨Try.f87.name,by decide,Try.func87.trans (congrArg some (by kernel_rfl))⟩
 f10 := ⟨Try.f52.name,by decide,Try.func52.trans (congrArg some (by kernel_rfl))⟩
 t0 := Try.underlying0
 a0 := Try.isAgg0
 z0 := Try.sizeOf0
 v0 := Try.zeroValue0
 t3 := Try.underlying3
 a3 := Try.isAgg3
 z3 := Try.sizeOf3
 v3 := Try.zeroValue3
 t4 := Try.underlying4
 a4 := Try.isAgg4
 z4 := Try.sizeOf4
 v4 := Try.zeroValue4
 t22 := Try.underlying26
 a22 := Try.isAgg26
 z22 := Try.sizeOf26
 v22 := Try.zeroValue26
 a23 := Try.isAgg3
 z23 := Try.sizeOf3
 t25 := Try.underlying80
 a25 := Try.isAgg80
 z25 := Try.sizeOf80
 v25 := Try.zeroValue80 }
end Go.Proofs
