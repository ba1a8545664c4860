-- The laying of a shelf's contract at this claim's program, written by the shelf's tool and turned by wip/tools/laysh.py.
import Derived.Shelf.SlicesQ.IndexFunc
import Derived.Shelf.SlGeneric
import Derived.Ground.SlgfProg
import Derived.Test.YtlkfhddckgjlnaaProg
namespace Go.Proofs.Ytlkfhddckgjlnaa.Lay
open Go.Shelf Go.Proofs
def layIdxE_ren : Go.Shelf.Ren := ⟨fun | 6 => 110 | n => n, fun | 22 => 51 | 23 => 85 | 25 => 114 | 3 => 3 | 0 => 0 | 4 => 4 | n => n, fun | n => n⟩
theorem layIdxE : Go.Proofs.SlLaysH0.n6 Try.prog layIdxE_ren := {
  mixed := by kernel_rfl
  f6 := ⟨Try.f110.name, by decide, Try.func110.trans (congrArg some (by kernel_rfl))⟩
  t0 := Try.underlying0
  a0 := Try.isAgg0
  z0 := Try.sizeOf0
  v0 := Try.zeroValue0
  t3 := Try.underlying3
  a3 := Try.isAgg3
  z3 := Try.sizeOf3
  v3 := Try.zeroValue3
  t4 := Try.underlying4
  a4 := Try.isAgg4
  z4 := Try.sizeOf4
  v4 := Try.zeroValue4
  t22 := Try.underlying51
  a22 := Try.isAgg51
  z22 := Try.sizeOf51
  v22 := Try.zeroValue51
  t25 := Try.underlying114
  a25 := Try.isAgg114
  z25 := Try.sizeOf114
  v25 := Try.zeroValue114 }
end Go.Proofs.Ytlkfhddckgjlnaa.Lay
