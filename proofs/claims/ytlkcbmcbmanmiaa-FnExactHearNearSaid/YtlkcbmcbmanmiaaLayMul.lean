-- The laying of a shelf's contract at this claim's program, written by the shelf's tool and turned by wip/tools/laysh.py.
import Derived.Shelf.Bits.Mul64
import Derived.Test.YtlkcbmcbmanmiaaProg
namespace Go.Proofs.Ytlkcbmcbmanmiaa.Lay
open Go.Shelf Go.Proofs
def layMul_ren : Go.Shelf.Ren := ⟨fun | 212 => 134 | 263 => 153 | 264 => 154 | n => n, fun | 46 => 134 | 51 => 146 | 146 => 147 | 53 => 149 | 148 => 150 | n => n, fun | n => n⟩
theorem layMul : Go.Proofs.Lays.n212 Try.prog layMul_ren := {
  mixed := by kernel_rfl
  f212 := Try.func134.trans (congrArg some (by kernel_rfl))
  f263 := Try.func153.trans (congrArg some (by kernel_rfl))
  f264 := Try.func154.trans (congrArg some (by kernel_rfl))
  t46 := Try.underlying134
  a46 := Try.isAgg134
  z46 := Try.sizeOf134
  v46 := Try.zeroValue134
  t51 := Try.underlying146
  a51 := Try.isAgg146
  z51 := Try.sizeOf146
  v51 := Try.zeroValue146
  t53 := Try.underlying149
  a53 := Try.isAgg149
  z53 := Try.sizeOf149
  v53 := Try.zeroValue149
  t146 := Try.underlying147
  a146 := Try.isAgg147
  z146 := Try.sizeOf147
  v146 := Try.zeroValue147
  t148 := Try.underlying150
  a148 := Try.isAgg150
  z148 := Try.sizeOf150
  v148 := Try.zeroValue150 }
end Go.Proofs.Ytlkcbmcbmanmiaa.Lay
