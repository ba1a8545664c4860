-- The laying of a shelf's contract at this claim's program, written by the shelf's tool and turned by wip/tools/laysh.py.
import Derived.Shelf.Bits.Mul64
import Derived.Test.YtlkfhddckgjlnaaProg
namespace Go.Proofs.Ytlkfhddckgjlnaa.Lay
open Go.Shelf Go.Proofs
def layMul_ren : Go.Shelf.Ren := ⟨fun | 212 => 88 | 263 => 103 | 264 => 104 | n => n, fun | 46 => 108 | 51 => 124 | 146 => 125 | 53 => 127 | 148 => 128 | n => n, fun | n => n⟩
theorem layMul : Go.Proofs.Lays.n212 Try.prog layMul_ren := {
  mixed := by kernel_rfl
  f212 := Try.func88.trans (congrArg some (by kernel_rfl))
  f263 := Try.func103.trans (congrArg some (by kernel_rfl))
  f264 := Try.func104.trans (congrArg some (by kernel_rfl))
  t46 := Try.underlying108
  a46 := Try.isAgg108
  z46 := Try.sizeOf108
  v46 := Try.zeroValue108
  t51 := Try.underlying124
  a51 := Try.isAgg124
  z51 := Try.sizeOf124
  v51 := Try.zeroValue124
  t53 := Try.underlying127
  a53 := Try.isAgg127
  z53 := Try.sizeOf127
  v53 := Try.zeroValue127
  t146 := Try.underlying125
  a146 := Try.isAgg125
  z146 := Try.sizeOf125
  v146 := Try.zeroValue125
  t148 := Try.underlying128
  a148 := Try.isAgg128
  z148 := Try.sizeOf128
  v148 := Try.zeroValue128 }
end Go.Proofs.Ytlkfhddckgjlnaa.Lay
