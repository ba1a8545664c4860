-- Written for this claim by a program of this repository (wip/tools/print2.py), out of the translation; Lean checks it.
import Derived.Test.YtnaoogkklkhpnaaProg
import Derived.Below
import Derived.Deep.Draws
import Derived.Deep.AppendLies
import Derived.Maps.AppendAt
import Derived.OwnWalk
import Derived.Laws.BytesArg
import Derived.Laws.MakeOwn
import Derived.Laws.OwnMore
import Derived.Deep.OwnRows
import Derived.Tactics
import Derived.Lib.ConvBytes
import Derived.Laws.Slices
import Derived.WalkKit
import Derived.KernelRfl
import Derived.RowKit3
import Derived.Deep.LoopGhost
import Derived.Deep.QuietTactic
import Derived.BigQuiet
import Derived.WideLaws
import Derived.Deep.DeepCutAuto
import Derived.Deep.CutBlock
import Derived.Deep.RegionHeld3
import Derived.Laws.Rows
import Derived.Lib.AppendStr
import Derived.ArgAppend
import Derived.Laws.IdiomCopy
import Derived.OrdersHeld
import Derived.Laws.BitsLemmas
import Derived.RowKit
import Derived.Test.YtnaoogkklkhpnaaWWords
import Derived.Test.YtnaoogkklkhpnaaWLast
import Derived.Test.YtnaoogkklkhpnaaWTab
import Derived.Test.YtnaoogkklkhpnaaWFour
import Derived.Test.YtnaoogkklkhpnaaWQPut
import Derived.Test.YtnaoogkklkhpnaaWApart
import Derived.Test.YtnaoogkklkhpnaaWArr
import Derived.Test.YtnaoogkklkhpnaaWZeros
import Derived.Test.YtnaoogkklkhpnaaWFoot
import Derived.Test.YtnaoogkklkhpnaaWKept
import Derived.Test.YtnaoogkklkhpnaaWShare
import Derived.Test.YtnaoogkklkhpnaaWN
import Derived.Test.YtnaoogkklkhpnaaWFootNe
import Derived.Test.YtnaoogkklkhpnaaWAt
import Derived.Test.YtnaoogkklkhpnaaWEqStruct
import Derived.Test.YtnaoogkklkhpnaaWRepsOne
import Derived.Test.YtnaoogkklkhpnaaWInv
import Derived.Test.YtnaoogkklkhpnaaWInvWords
import Derived.Test.YtnaoogkklkhpnaaWGuard
import Derived.Test.YtnaoogkklkhpnaaWNEv
import Derived.Test.YtnaoogkklkhpnaaWMore
namespace Go.Proofs.Ytnaoogkklkhpnaa.PFnExactHearAll
open Go.RowKit Go.Proofs.YtnaoogkklkhpnaaW.PrintWords Go.Proofs.YtnaoogkklkhpnaaW.PrintLast Go.Proofs.YtnaoogkklkhpnaaW.PrintMore
attribute [local go_sem] max2_int min2_int max_two min_two max_three min_three max_four min_four   -- for this text's walks alone
set_option linter.unusedVariables false
set_option linter.unusedSimpArgs false



def errW : Option Int → Value
  | none => .nilIface
  | some c => .iface 0 (.int .i64 c)
theorem errW_none : errW none = .nilIface := rfl
theorem errW_some (c : Int) : errW (some c) = .iface 0 (.int .i64 c) := rfl

theorem info3 : (Try.prog.info? 3).map (fun i => (i.zero, i.size, i.bytes)) = some (some (.int .i64 0), 1, 8) := by kernel_rfl
-- the values' own types

end Go.Proofs.Ytnaoogkklkhpnaa.PFnExactHearAll
