/- The declarations of Rcl that the claim Qc needs. -/
import Derived.Shelf.SlicesE.IndexFunc
import Derived.Ground.SlgfProg
import Derived.Shelf.SlGeneric
import Derived.Test.YtdpolfflemocaaaProg
namespace Go.Proofs
open Go.Shelf
def Rib.contL_ren : Go.Shelf.Ren := ⟨fun | 8 => 68 | 6 => 93 | n => n, fun | 22 => 34 | 23 => 3 | 25 => 87 | 4 => 4 | 3 => 3 | 0 => 0 | n => n, fun | n => n⟩
theorem Rib.contL : Go.Proofs.SlLaysH.n8 Try.prog Rib.contL_ren := {
 mixed := by kernel_rfl
 f6 := ⟨Try.f93.name, by decide, Try.func93.trans (congrArg some (by kernel_rfl))⟩
 f8 := ⟨Try.f68.name, by decide, Try.func68.trans (congrArg some (by kernel_rfl))⟩
 t0 := Try.underlying0
 a0 := Try.isAgg0
 z0 := Try.sizeOf0
 v0 := Try.zeroValue0
 t3 := Try.underlying3
 a3 := Try.isAgg3
 z3 := Try.sizeOf3
 v3 := Try.zeroValue3
 t4 := Try.underlying4
 a4 := Try.isAgg4
 z4 := Try.sizeOf4
 v4 := Try.zeroValue4
 t22 := Try.underlying34
 a22 := Try.isAgg34
 z22 := Try.sizeOf34
 v22 := Try.zeroValue34
 a23 := Try.isAgg3
 z23 := Try.sizeOf3
 t25 := Try.underlying87
 a25 := Try.isAgg87
 z25 := Try.sizeOf87
 v25 := Try.zeroValue87 }
end Go.Proofs
