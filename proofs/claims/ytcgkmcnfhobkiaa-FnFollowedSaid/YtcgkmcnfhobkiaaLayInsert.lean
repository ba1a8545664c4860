-- The laying of a shelf's contract at this claim's program, written by the shelf's tool and turned by wip/tools/laysh.py.
import Derived.Shelf.Spec.SlicesInsert
import Derived.Test.YtcgkmcnfhobkiaaProg
namespace Go.Proofs.Ytcgkmcnfhobkiaa.Lay
open Go.Shelf Go.Proofs
def layInsert_ren : Go.Shelf.Ren := ⟨fun | 21 => 57 | 27 => 74 | 28 => 75 | 35 => 91 | 39 => 97 | n => n, fun | 22 => 25 | 3 => 3 | 4 => 4 | 0 => 0 | n => n, fun | n => n⟩
theorem layInsert : Go.Proofs.Lays2.n21 Try.prog layInsert_ren := {
  mixed := by kernel_rfl
  f21 := Try.func57.trans (congrArg some (by kernel_rfl))
  f27 := Try.func74.trans (congrArg some (by kernel_rfl))
  f28 := Try.func75.trans (congrArg some (by kernel_rfl))
  f35 := Try.func91.trans (congrArg some (by kernel_rfl))
  f39 := Try.func97.trans (congrArg some (by kernel_rfl))
  t0 := Try.underlying0
  a0 := Try.isAgg0
  z0 := Try.sizeOf0
  v0 := Try.zeroValue0
  t3 := Try.underlying3
  a3 := Try.isAgg3
  z3 := Try.sizeOf3
  v3 := Try.zeroValue3
  t4 := Try.underlying4
  a4 := Try.isAgg4
  z4 := Try.sizeOf4
  v4 := Try.zeroValue4
  t22 := Try.underlying25
  a22 := Try.isAgg25
  z22 := Try.sizeOf25
  v22 := Try.zeroValue25
  i3 := by kernel_rfl }
end Go.Proofs.Ytcgkmcnfhobkiaa.Lay
