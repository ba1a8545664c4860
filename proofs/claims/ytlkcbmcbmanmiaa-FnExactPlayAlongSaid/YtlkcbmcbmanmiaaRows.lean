/-
  No cell of these rows narrows 'for every input' (looked for: loops, veiled, ifaces, maps, wideKeys, modest, calm, conditions, laid).
  DERIVED. THE GIVEN ROWS OF THIS SEAT. 11 by the template 'for every input the law returns true; each argument reads behind the call as it read before'; 0 by the template 'total and deterministic' (their statements: YtlkcbmcbmanmiaaTotals.lean).
  GIVEN WITH THE SEED: the statements are not yours to turn. If you find one false, say at which input.
  Laid BY PROGRAM, IN A SANDBOX (cutbox-rows.mjs): the forced cells as the released guide's own fill.sh prints them over the translation cbe782c328e8bb69… (all of the seat's roots in one cut). By AI agents, Wed Nov 11 2026. No macro, syntax, notation, axiom, sorry.
-/
import Derived.Test.YtlkcbmcbmanmiaaChecked
import GoSem.Claim
import GoSem.ClaimJoined
import GoSem.ClaimMapViews
import Derived.JoinedTies
import Derived.KernelRfl
namespace Go.Proofs.Ytlkcbmcbmanmiaa
/- THE CELL 'sum', in the pinned program and in every row, IS THE sha256 OF THE DUMP (.gsa) THAT YtlkcbmcbmanmiaaProg.lean LOADS. Nothing in Lean hashes anything: it is a label: what it is worth is what the hold of that sum in a sandbox is worth. -/
noncomputable def Try.pinned : Pinned := { name := "ytlkcbmcbmanmiaa", sum := "cbe782c328e8bb695f28dec08431a75022acb05910a4504ead95adb6f198a40b", checked := Try.checked }
namespace Rows
def none {H : Type} : Left H := { results := [], args := [] }

/-- 'laws.FnExactLeapsIn': WHATEVER THE INPUT: true; the input reads as it did. -/
def fnExactLeapsInSpec : ChangeSpec := { name := "fnExactLeapsIn", fn := fun _ => fun
  | [d1, d2, d3] => { results := [.lit (.bool true)], args := [d1, d2, d3] }
  | _ => none }
def fnExactLeapsInRow : OpenClaim := { program := "ytlkcbmcbmanmiaa", sum := "cbe782c328e8bb695f28dec08431a75022acb05910a4504ead95adb6f198a40b", func := "loop.example/g03004/laws.FnExactLeapsIn", spec := "fnExactLeapsIn", unfollowed := true, recurses := true, apart := false }
def FnExactLeapsInSaid : Prop := fnExactLeapsInRow.holds Try.pinned (OpenSpec.ofChange fnExactLeapsInSpec)

/-- ITS FALSE NEIGHBOUR: 'it returns false'. Refute it at one input. -/
def fnExactLeapsInWrong : ChangeSpec := { name := "fnExactLeapsIn", fn := fun _ => fun
  | [d1, d2, d3] => { results := [.lit (.bool false)], args := [d1, d2, d3] }
  | _ => none }
def FnExactLeapsInWrongFalsely : Prop := fnExactLeapsInRow.holds Try.pinned (OpenSpec.ofChange fnExactLeapsInWrong)

/-- 'laws.FnExactExpectMs': WHATEVER THE INPUT: true; the input reads as it did. -/
def fnExactExpectMsSpec : ChangeSpec := { name := "fnExactExpectMs", fn := fun _ => fun
  | [d1, d2, d3] => { results := [.lit (.bool true)], args := [d1, d2, d3] }
  | _ => none }
def fnExactExpectMsRow : OpenClaim := { program := "ytlkcbmcbmanmiaa", sum := "cbe782c328e8bb695f28dec08431a75022acb05910a4504ead95adb6f198a40b", func := "loop.example/g03004/laws.FnExactExpectMs", spec := "fnExactExpectMs", apart := false }
def FnExactExpectMsSaid : Prop := fnExactExpectMsRow.holds Try.pinned (OpenSpec.ofChange fnExactExpectMsSpec)

/-- ITS FALSE NEIGHBOUR: 'it returns false'. Refute it at one input. -/
def fnExactExpectMsWrong : ChangeSpec := { name := "fnExactExpectMs", fn := fun _ => fun
  | [d1, d2, d3] => { results := [.lit (.bool false)], args := [d1, d2, d3] }
  | _ => none }
def FnExactExpectMsWrongFalsely : Prop := fnExactExpectMsRow.holds Try.pinned (OpenSpec.ofChange fnExactExpectMsWrong)

/-- 'laws.FnExactCueFrom': WHATEVER THE INPUT: true; the input reads as it did. -/
def fnExactCueFromSpec : ChangeSpec := { name := "fnExactCueFrom", fn := fun _ => fun
  | [d1, d2] => { results := [.lit (.bool true)], args := [d1, d2] }
  | _ => none }
def fnExactCueFromRow : OpenClaim := { program := "ytlkcbmcbmanmiaa", sum := "cbe782c328e8bb695f28dec08431a75022acb05910a4504ead95adb6f198a40b", func := "loop.example/g03004/laws.FnExactCueFrom", spec := "fnExactCueFrom", unfollowed := true, recurses := true, apart := false }
def FnExactCueFromSaid : Prop := fnExactCueFromRow.holds Try.pinned (OpenSpec.ofChange fnExactCueFromSpec)

/-- ITS FALSE NEIGHBOUR: 'it returns false'. Refute it at one input. -/
def fnExactCueFromWrong : ChangeSpec := { name := "fnExactCueFrom", fn := fun _ => fun
  | [d1, d2] => { results := [.lit (.bool false)], args := [d1, d2] }
  | _ => none }
def FnExactCueFromWrongFalsely : Prop := fnExactCueFromRow.holds Try.pinned (OpenSpec.ofChange fnExactCueFromWrong)

/-- 'laws.FnExactStepNear': WHATEVER THE INPUT: true; the input reads as it did. -/
def fnExactStepNearSpec : ChangeSpec := { name := "fnExactStepNear", fn := fun _ => fun
  | [d1, d2, d3, d4] => { results := [.lit (.bool true)], args := [d1, d2, d3, d4] }
  | _ => none }
def fnExactStepNearRow : OpenClaim := { program := "ytlkcbmcbmanmiaa", sum := "cbe782c328e8bb695f28dec08431a75022acb05910a4504ead95adb6f198a40b", func := "loop.example/g03004/laws.FnExactStepNear", spec := "fnExactStepNear", unfollowed := true, recurses := true, apart := false }
def FnExactStepNearSaid : Prop := fnExactStepNearRow.holds Try.pinned (OpenSpec.ofChange fnExactStepNearSpec)

/-- ITS FALSE NEIGHBOUR: 'it returns false'. Refute it at one input. -/
def fnExactStepNearWrong : ChangeSpec := { name := "fnExactStepNear", fn := fun _ => fun
  | [d1, d2, d3, d4] => { results := [.lit (.bool false)], args := [d1, d2, d3, d4] }
  | _ => none }
def FnExactStepNearWrongFalsely : Prop := fnExactStepNearRow.holds Try.pinned (OpenSpec.ofChange fnExactStepNearWrong)

/-- 'laws.FnExactCrossingsIn': WHATEVER THE INPUT: true; the input reads as it did. -/
def fnExactCrossingsInSpec : ChangeSpec := { name := "fnExactCrossingsIn", fn := fun _ => fun
  | [d1, d2, d3] => { results := [.lit (.bool true)], args := [d1, d2, d3] }
  | _ => none }
def fnExactCrossingsInRow : OpenClaim := { program := "ytlkcbmcbmanmiaa", sum := "cbe782c328e8bb695f28dec08431a75022acb05910a4504ead95adb6f198a40b", func := "loop.example/g03004/laws.FnExactCrossingsIn", spec := "fnExactCrossingsIn", apart := false }
def FnExactCrossingsInSaid : Prop := fnExactCrossingsInRow.holds Try.pinned (OpenSpec.ofChange fnExactCrossingsInSpec)

/-- ITS FALSE NEIGHBOUR: 'it returns false'. Refute it at one input. -/
def fnExactCrossingsInWrong : ChangeSpec := { name := "fnExactCrossingsIn", fn := fun _ => fun
  | [d1, d2, d3] => { results := [.lit (.bool false)], args := [d1, d2, d3] }
  | _ => none }
def FnExactCrossingsInWrongFalsely : Prop := fnExactCrossingsInRow.holds Try.pinned (OpenSpec.ofChange fnExactCrossingsInWrong)

/-- 'laws.FnExactHearNear': WHATEVER THE INPUT: true; the input reads as it did. -/
def fnExactHearNearSpec : ChangeSpec := { name := "fnExactHearNear", fn := fun _ => fun
  | [d1, d2, d3, d4] => { results := [.lit (.bool true)], args := [d1, d2, d3, d4] }
  | _ => none }
def fnExactHearNearRow : OpenClaim := { program := "ytlkcbmcbmanmiaa", sum := "cbe782c328e8bb695f28dec08431a75022acb05910a4504ead95adb6f198a40b", func := "loop.example/g03004/laws.FnExactHearNear", spec := "fnExactHearNear", unfollowed := true, recurses := true, apart := false }
def FnExactHearNearSaid : Prop := fnExactHearNearRow.holds Try.pinned (OpenSpec.ofChange fnExactHearNearSpec)

/-- ITS FALSE NEIGHBOUR: 'it returns false'. Refute it at one input. -/
def fnExactHearNearWrong : ChangeSpec := { name := "fnExactHearNear", fn := fun _ => fun
  | [d1, d2, d3, d4] => { results := [.lit (.bool false)], args := [d1, d2, d3, d4] }
  | _ => none }
def FnExactHearNearWrongFalsely : Prop := fnExactHearNearRow.holds Try.pinned (OpenSpec.ofChange fnExactHearNearWrong)

/-- 'laws.FnExactParallelsIn': WHATEVER THE INPUT: true; the input reads as it did. -/
def fnExactParallelsInSpec : ChangeSpec := { name := "fnExactParallelsIn", fn := fun _ => fun
  | [d1, d2, d3] => { results := [.lit (.bool true)], args := [d1, d2, d3] }
  | _ => none }
def fnExactParallelsInRow : OpenClaim := { program := "ytlkcbmcbmanmiaa", sum := "cbe782c328e8bb695f28dec08431a75022acb05910a4504ead95adb6f198a40b", func := "loop.example/g03004/laws.FnExactParallelsIn", spec := "fnExactParallelsIn", apart := false }
def FnExactParallelsInSaid : Prop := fnExactParallelsInRow.holds Try.pinned (OpenSpec.ofChange fnExactParallelsInSpec)

/-- ITS FALSE NEIGHBOUR: 'it returns false'. Refute it at one input. -/
def fnExactParallelsInWrong : ChangeSpec := { name := "fnExactParallelsIn", fn := fun _ => fun
  | [d1, d2, d3] => { results := [.lit (.bool false)], args := [d1, d2, d3] }
  | _ => none }
def FnExactParallelsInWrongFalsely : Prop := fnExactParallelsInRow.holds Try.pinned (OpenSpec.ofChange fnExactParallelsInWrong)

/-- 'laws.FnExactErrBy': WHATEVER THE INPUT: true; the input reads as it did. -/
def fnExactErrBySpec : ChangeSpec := { name := "fnExactErrBy", fn := fun _ => fun
  | [d1, d2] => { results := [.lit (.bool true)], args := [d1, d2] }
  | _ => none }
def fnExactErrByRow : OpenClaim := { program := "ytlkcbmcbmanmiaa", sum := "cbe782c328e8bb695f28dec08431a75022acb05910a4504ead95adb6f198a40b", func := "loop.example/g03004/laws.FnExactErrBy", spec := "fnExactErrBy", inPlace := ["slices.overlaps[int]"], apart := false }
def FnExactErrBySaid : Prop := fnExactErrByRow.holds Try.pinned (OpenSpec.ofChange fnExactErrBySpec)

/-- ITS FALSE NEIGHBOUR: 'it returns false'. Refute it at one input. -/
def fnExactErrByWrong : ChangeSpec := { name := "fnExactErrBy", fn := fun _ => fun
  | [d1, d2] => { results := [.lit (.bool false)], args := [d1, d2] }
  | _ => none }
def FnExactErrByWrongFalsely : Prop := fnExactErrByRow.holds Try.pinned (OpenSpec.ofChange fnExactErrByWrong)

/-- 'laws.FnExactSamePlace': WHATEVER THE INPUT: true; the input reads as it did. -/
def fnExactSamePlaceSpec : ChangeSpec := { name := "fnExactSamePlace", fn := fun _ => fun
  | [d1, d2, d3] => { results := [.lit (.bool true)], args := [d1, d2, d3] }
  | _ => none }
def fnExactSamePlaceRow : OpenClaim := { program := "ytlkcbmcbmanmiaa", sum := "cbe782c328e8bb695f28dec08431a75022acb05910a4504ead95adb6f198a40b", func := "loop.example/g03004/laws.FnExactSamePlace", spec := "fnExactSamePlace", unfollowed := true, recurses := true, apart := false }
def FnExactSamePlaceSaid : Prop := fnExactSamePlaceRow.holds Try.pinned (OpenSpec.ofChange fnExactSamePlaceSpec)

/-- ITS FALSE NEIGHBOUR: 'it returns false'. Refute it at one input. -/
def fnExactSamePlaceWrong : ChangeSpec := { name := "fnExactSamePlace", fn := fun _ => fun
  | [d1, d2, d3] => { results := [.lit (.bool false)], args := [d1, d2, d3] }
  | _ => none }
def FnExactSamePlaceWrongFalsely : Prop := fnExactSamePlaceRow.holds Try.pinned (OpenSpec.ofChange fnExactSamePlaceWrong)

/-- 'laws.FnExactFaultsIn': WHATEVER THE INPUT: true; the input reads as it did. -/
def fnExactFaultsInSpec : ChangeSpec := { name := "fnExactFaultsIn", fn := fun _ => fun
  | [d1, d2, d3] => { results := [.lit (.bool true)], args := [d1, d2, d3] }
  | _ => none }
def fnExactFaultsInRow : OpenClaim := { program := "ytlkcbmcbmanmiaa", sum := "cbe782c328e8bb695f28dec08431a75022acb05910a4504ead95adb6f198a40b", func := "loop.example/g03004/laws.FnExactFaultsIn", spec := "fnExactFaultsIn", unfollowed := true, recurses := true, apart := false }
def FnExactFaultsInSaid : Prop := fnExactFaultsInRow.holds Try.pinned (OpenSpec.ofChange fnExactFaultsInSpec)

/-- ITS FALSE NEIGHBOUR: 'it returns false'. Refute it at one input. -/
def fnExactFaultsInWrong : ChangeSpec := { name := "fnExactFaultsIn", fn := fun _ => fun
  | [d1, d2, d3] => { results := [.lit (.bool false)], args := [d1, d2, d3] }
  | _ => none }
def FnExactFaultsInWrongFalsely : Prop := fnExactFaultsInRow.holds Try.pinned (OpenSpec.ofChange fnExactFaultsInWrong)

/-- 'laws.FnExactPlayAlong': WHATEVER THE INPUT: true; the input reads as it did. -/
def fnExactPlayAlongSpec : ChangeSpec := { name := "fnExactPlayAlong", fn := fun _ => fun
  | [d1, d2, d3, d4] => { results := [.lit (.bool true)], args := [d1, d2, d3, d4] }
  | _ => none }
def fnExactPlayAlongRow : OpenClaim := { program := "ytlkcbmcbmanmiaa", sum := "cbe782c328e8bb695f28dec08431a75022acb05910a4504ead95adb6f198a40b", func := "loop.example/g03004/laws.FnExactPlayAlong", spec := "fnExactPlayAlong", unfollowed := true, recurses := true, apart := false }
def FnExactPlayAlongSaid : Prop := fnExactPlayAlongRow.holds Try.pinned (OpenSpec.ofChange fnExactPlayAlongSpec)

/-- ITS FALSE NEIGHBOUR: 'it returns false'. Refute it at one input. -/
def fnExactPlayAlongWrong : ChangeSpec := { name := "fnExactPlayAlong", fn := fun _ => fun
  | [d1, d2, d3, d4] => { results := [.lit (.bool false)], args := [d1, d2, d3, d4] }
  | _ => none }
def FnExactPlayAlongWrongFalsely : Prop := fnExactPlayAlongRow.holds Try.pinned (OpenSpec.ofChange fnExactPlayAlongWrong)

/- THE SECOND FORM. 'bulk': how many values and letters a reading holds, each counted each time it is reached (what is shared counts as often as it is met; a slice's spare places count too). A statement '..UptoSaid' is the law's where the arguments, and the package variables that the reading takes, are together of bulk at most 1048576: NARROWER than '..Said'. Prove '..Said' where nothing that the law and all that it calls make is longer than what came in: it says more and counts as full. Else prove '..UptoSaid'. A law counts once. -/
mutual
def uptoBulk {H : Type} : DataW H → Nat
  | .lit (.string bytes) => bytes.length + 1
  | .lit _ => 1
  | .nil => 1
  | .ptr d => uptoBulk d + 1
  | .slice elems spare => uptoBulkAll elems + uptoBulkAll spare + 1
  | .agg parts => uptoBulkAll parts + 1
  | .iface _ d => uptoBulk d + 1
  | .map entries => uptoBulkEntries entries + 1
  | .held _ => 1
def uptoBulkAll {H : Type} : List (DataW H) → Nat
  | [] => 0
  | d :: r => uptoBulk d + uptoBulkAll r
def uptoBulkEntries {H : Type} : List (Lit × DataW H) → Nat
  | [] => 0
  | x :: r => uptoBulkEntry x + uptoBulkEntries r
def uptoBulkEntry {H : Type} : Lit × DataW H → Nat
  | (.string bytes, d) => bytes.length + uptoBulk d + 1
  | (_, d) => uptoBulk d + 1
 end
def uptoSmall : (H : Type) → List (DataW H) → Bool := fun _ ds => decide (uptoBulkAll ds ≤ 1048576)
def OpenSpec.upto (s : _root_.Go.ChangeSpec) : _root_.Go.OpenSpec := { _root_.Go.OpenSpec.ofChange s with cond := some uptoSmall }

/-- 'laws.FnExactLeapsIn', WHERE WHAT IT READS IS OF BULK AT MOST 1048576: true; the input reads as it did. -/
def fnExactLeapsInUptoRow : OpenClaim := { program := "ytlkcbmcbmanmiaa", sum := "cbe782c328e8bb695f28dec08431a75022acb05910a4504ead95adb6f198a40b", func := "loop.example/g03004/laws.FnExactLeapsIn", spec := "fnExactLeapsIn", unfollowed := true, recurses := true, apart := false, narrowed := true }
def FnExactLeapsInUptoSaid : Prop := fnExactLeapsInUptoRow.holds Try.pinned (OpenSpec.upto fnExactLeapsInSpec)

/-- 'laws.FnExactExpectMs', WHERE WHAT IT READS IS OF BULK AT MOST 1048576: true; the input reads as it did. -/
def fnExactExpectMsUptoRow : OpenClaim := { program := "ytlkcbmcbmanmiaa", sum := "cbe782c328e8bb695f28dec08431a75022acb05910a4504ead95adb6f198a40b", func := "loop.example/g03004/laws.FnExactExpectMs", spec := "fnExactExpectMs", apart := false, narrowed := true }
def FnExactExpectMsUptoSaid : Prop := fnExactExpectMsUptoRow.holds Try.pinned (OpenSpec.upto fnExactExpectMsSpec)

/-- 'laws.FnExactCueFrom', WHERE WHAT IT READS IS OF BULK AT MOST 1048576: true; the input reads as it did. -/
def fnExactCueFromUptoRow : OpenClaim := { program := "ytlkcbmcbmanmiaa", sum := "cbe782c328e8bb695f28dec08431a75022acb05910a4504ead95adb6f198a40b", func := "loop.example/g03004/laws.FnExactCueFrom", spec := "fnExactCueFrom", unfollowed := true, recurses := true, apart := false, narrowed := true }
def FnExactCueFromUptoSaid : Prop := fnExactCueFromUptoRow.holds Try.pinned (OpenSpec.upto fnExactCueFromSpec)

/-- 'laws.FnExactStepNear', WHERE WHAT IT READS IS OF BULK AT MOST 1048576: true; the input reads as it did. -/
def fnExactStepNearUptoRow : OpenClaim := { program := "ytlkcbmcbmanmiaa", sum := "cbe782c328e8bb695f28dec08431a75022acb05910a4504ead95adb6f198a40b", func := "loop.example/g03004/laws.FnExactStepNear", spec := "fnExactStepNear", unfollowed := true, recurses := true, apart := false, narrowed := true }
def FnExactStepNearUptoSaid : Prop := fnExactStepNearUptoRow.holds Try.pinned (OpenSpec.upto fnExactStepNearSpec)

/-- 'laws.FnExactCrossingsIn', WHERE WHAT IT READS IS OF BULK AT MOST 1048576: true; the input reads as it did. -/
def fnExactCrossingsInUptoRow : OpenClaim := { program := "ytlkcbmcbmanmiaa", sum := "cbe782c328e8bb695f28dec08431a75022acb05910a4504ead95adb6f198a40b", func := "loop.example/g03004/laws.FnExactCrossingsIn", spec := "fnExactCrossingsIn", apart := false, narrowed := true }
def FnExactCrossingsInUptoSaid : Prop := fnExactCrossingsInUptoRow.holds Try.pinned (OpenSpec.upto fnExactCrossingsInSpec)

/-- 'laws.FnExactHearNear', WHERE WHAT IT READS IS OF BULK AT MOST 1048576: true; the input reads as it did. -/
def fnExactHearNearUptoRow : OpenClaim := { program := "ytlkcbmcbmanmiaa", sum := "cbe782c328e8bb695f28dec08431a75022acb05910a4504ead95adb6f198a40b", func := "loop.example/g03004/laws.FnExactHearNear", spec := "fnExactHearNear", unfollowed := true, recurses := true, apart := false, narrowed := true }
def FnExactHearNearUptoSaid : Prop := fnExactHearNearUptoRow.holds Try.pinned (OpenSpec.upto fnExactHearNearSpec)

/-- 'laws.FnExactParallelsIn', WHERE WHAT IT READS IS OF BULK AT MOST 1048576: true; the input reads as it did. -/
def fnExactParallelsInUptoRow : OpenClaim := { program := "ytlkcbmcbmanmiaa", sum := "cbe782c328e8bb695f28dec08431a75022acb05910a4504ead95adb6f198a40b", func := "loop.example/g03004/laws.FnExactParallelsIn", spec := "fnExactParallelsIn", apart := false, narrowed := true }
def FnExactParallelsInUptoSaid : Prop := fnExactParallelsInUptoRow.holds Try.pinned (OpenSpec.upto fnExactParallelsInSpec)

/-- 'laws.FnExactErrBy', WHERE WHAT IT READS IS OF BULK AT MOST 1048576: true; the input reads as it did. -/
def fnExactErrByUptoRow : OpenClaim := { program := "ytlkcbmcbmanmiaa", sum := "cbe782c328e8bb695f28dec08431a75022acb05910a4504ead95adb6f198a40b", func := "loop.example/g03004/laws.FnExactErrBy", spec := "fnExactErrBy", inPlace := ["slices.overlaps[int]"], apart := false, narrowed := true }
def FnExactErrByUptoSaid : Prop := fnExactErrByUptoRow.holds Try.pinned (OpenSpec.upto fnExactErrBySpec)

/-- 'laws.FnExactSamePlace', WHERE WHAT IT READS IS OF BULK AT MOST 1048576: true; the input reads as it did. -/
def fnExactSamePlaceUptoRow : OpenClaim := { program := "ytlkcbmcbmanmiaa", sum := "cbe782c328e8bb695f28dec08431a75022acb05910a4504ead95adb6f198a40b", func := "loop.example/g03004/laws.FnExactSamePlace", spec := "fnExactSamePlace", unfollowed := true, recurses := true, apart := false, narrowed := true }
def FnExactSamePlaceUptoSaid : Prop := fnExactSamePlaceUptoRow.holds Try.pinned (OpenSpec.upto fnExactSamePlaceSpec)

/-- 'laws.FnExactFaultsIn', WHERE WHAT IT READS IS OF BULK AT MOST 1048576: true; the input reads as it did. -/
def fnExactFaultsInUptoRow : OpenClaim := { program := "ytlkcbmcbmanmiaa", sum := "cbe782c328e8bb695f28dec08431a75022acb05910a4504ead95adb6f198a40b", func := "loop.example/g03004/laws.FnExactFaultsIn", spec := "fnExactFaultsIn", unfollowed := true, recurses := true, apart := false, narrowed := true }
def FnExactFaultsInUptoSaid : Prop := fnExactFaultsInUptoRow.holds Try.pinned (OpenSpec.upto fnExactFaultsInSpec)

/-- 'laws.FnExactPlayAlong', WHERE WHAT IT READS IS OF BULK AT MOST 1048576: true; the input reads as it did. -/
def fnExactPlayAlongUptoRow : OpenClaim := { program := "ytlkcbmcbmanmiaa", sum := "cbe782c328e8bb695f28dec08431a75022acb05910a4504ead95adb6f198a40b", func := "loop.example/g03004/laws.FnExactPlayAlong", spec := "fnExactPlayAlong", unfollowed := true, recurses := true, apart := false, narrowed := true }
def FnExactPlayAlongUptoSaid : Prop := fnExactPlayAlongUptoRow.holds Try.pinned (OpenSpec.upto fnExactPlayAlongSpec)

end Rows
end Go.Proofs.Ytlkcbmcbmanmiaa
