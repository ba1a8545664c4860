-- The laying of a shelf's contract at this claim's program, written by the shelf's tool and turned by wip/tools/laysh.py.
import Derived.Shelf.SlicesE.IndexFunc
import Derived.Shelf.SlGeneric
import Derived.Ground.SlgfProg
import Derived.Test.YtlkcbmcbmanmiaaProg
namespace Go.Proofs.Ytlkcbmcbmanmiaa.Lay
open Go.Shelf Go.Proofs
def layContainsFunc_ren : Go.Shelf.Ren := ⟨fun | 8 => 132 | 6 => 152 | n => n, fun | 22 => 24 | 23 => 3 | 25 => 133 | 4 => 4 | 3 => 3 | 0 => 0 | n => n, fun | n => n⟩
theorem layContainsFunc : Go.Proofs.SlLaysH.n8 Try.prog layContainsFunc_ren := {
  mixed := by kernel_rfl
  f6 := ⟨Try.f152.name, by decide, Try.func152.trans (congrArg some (by kernel_rfl))⟩
  f8 := ⟨Try.f132.name, by decide, Try.func132.trans (congrArg some (by kernel_rfl))⟩
  t0 := Try.underlying0
  a0 := Try.isAgg0
  z0 := Try.sizeOf0
  v0 := Try.zeroValue0
  t3 := Try.underlying3
  a3 := Try.isAgg3
  z3 := Try.sizeOf3
  v3 := Try.zeroValue3
  t4 := Try.underlying4
  a4 := Try.isAgg4
  z4 := Try.sizeOf4
  v4 := Try.zeroValue4
  t22 := Try.underlying24
  a22 := Try.isAgg24
  z22 := Try.sizeOf24
  v22 := Try.zeroValue24
  a23 := Try.isAgg3
  z23 := Try.sizeOf3
  t25 := Try.underlying133
  a25 := Try.isAgg133
  z25 := Try.sizeOf133
  v25 := Try.zeroValue133 }
end Go.Proofs.Ytlkcbmcbmanmiaa.Lay
