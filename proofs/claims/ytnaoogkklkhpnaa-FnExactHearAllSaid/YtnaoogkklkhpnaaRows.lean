/-
  No cell of these rows narrows 'for every input' (looked for: loops, veiled, ifaces, maps, wideKeys, modest, calm, conditions, laid).
  DERIVED. THE GIVEN ROWS OF THIS SEAT. 12 by the template 'for every input the law returns true; each argument reads behind the call as it read before'; 0 by the template 'total and deterministic' (their statements: YtnaoogkklkhpnaaTotals.lean).
  GIVEN WITH THE SEED: the statements are not yours to turn. If you find one false, say at which input.
  Laid BY PROGRAM, IN A SANDBOX (cutbox-rows.mjs): the forced cells as the released guide's own fill.sh prints them over the translation 88e950aa13f496c9… (all of the seat's roots in one cut). By AI agents, Wed Nov 11 2026. No macro, syntax, notation, axiom, sorry.
-/
import Derived.Test.YtnaoogkklkhpnaaChecked
import GoSem.Claim
import GoSem.ClaimJoined
import GoSem.ClaimMapViews
import Derived.JoinedTies
import Derived.KernelRfl
namespace Go.Proofs.Ytnaoogkklkhpnaa
/- THE CELL 'sum', in the pinned program and in every row, IS THE sha256 OF THE DUMP (.gsa) THAT YtnaoogkklkhpnaaProg.lean LOADS. Nothing in Lean hashes anything: it is a label: what it is worth is what the hold of that sum in a sandbox is worth. -/
noncomputable def Try.pinned : Pinned := { name := "ytnaoogkklkhpnaa", sum := "88e950aa13f496c9d9315924698e161c1776cafb5e7ec75460b188dd462756f2", checked := Try.checked }
namespace Rows
def none {H : Type} : Left H := { results := [], args := [] }

/-- 'laws.FnExactPitchAt': WHATEVER THE INPUT: true; the input reads as it did. -/
def fnExactPitchAtSpec : ChangeSpec := { name := "fnExactPitchAt", fn := fun _ => fun
  | [d1, d2, d3] => { results := [.lit (.bool true)], args := [d1, d2, d3] }
  | _ => none }
def fnExactPitchAtRow : OpenClaim := { program := "ytnaoogkklkhpnaa", sum := "88e950aa13f496c9d9315924698e161c1776cafb5e7ec75460b188dd462756f2", func := "loop.example/g03004/laws.FnExactPitchAt", spec := "fnExactPitchAt", apart := false }
def FnExactPitchAtSaid : Prop := fnExactPitchAtRow.holds Try.pinned (OpenSpec.ofChange fnExactPitchAtSpec)

/-- ITS FALSE NEIGHBOUR: 'it returns false'. Refute it at one input. -/
def fnExactPitchAtWrong : ChangeSpec := { name := "fnExactPitchAt", fn := fun _ => fun
  | [d1, d2, d3] => { results := [.lit (.bool false)], args := [d1, d2, d3] }
  | _ => none }
def FnExactPitchAtWrongFalsely : Prop := fnExactPitchAtRow.holds Try.pinned (OpenSpec.ofChange fnExactPitchAtWrong)

/-- 'laws.FnExactWorkOf': WHATEVER THE INPUT: true; the input reads as it did. -/
def fnExactWorkOfSpec : ChangeSpec := { name := "fnExactWorkOf", fn := fun _ => fun
  | [d1, d2, d3] => { results := [.lit (.bool true)], args := [d1, d2, d3] }
  | _ => none }
def fnExactWorkOfRow : OpenClaim := { program := "ytnaoogkklkhpnaa", sum := "88e950aa13f496c9d9315924698e161c1776cafb5e7ec75460b188dd462756f2", func := "loop.example/g03004/laws.FnExactWorkOf", spec := "fnExactWorkOf", unfollowed := true, recurses := true, apart := false }
def FnExactWorkOfSaid : Prop := fnExactWorkOfRow.holds Try.pinned (OpenSpec.ofChange fnExactWorkOfSpec)

/-- ITS FALSE NEIGHBOUR: 'it returns false'. Refute it at one input. -/
def fnExactWorkOfWrong : ChangeSpec := { name := "fnExactWorkOf", fn := fun _ => fun
  | [d1, d2, d3] => { results := [.lit (.bool false)], args := [d1, d2, d3] }
  | _ => none }
def FnExactWorkOfWrongFalsely : Prop := fnExactWorkOfRow.holds Try.pinned (OpenSpec.ofChange fnExactWorkOfWrong)

/-- 'laws.FnExactStepFollower': WHATEVER THE INPUT: true; the input reads as it did. -/
def fnExactStepFollowerSpec : ChangeSpec := { name := "fnExactStepFollower", fn := fun _ => fun
  | [d1, d2, d3] => { results := [.lit (.bool true)], args := [d1, d2, d3] }
  | _ => none }
def fnExactStepFollowerRow : OpenClaim := { program := "ytnaoogkklkhpnaa", sum := "88e950aa13f496c9d9315924698e161c1776cafb5e7ec75460b188dd462756f2", func := "loop.example/g03004/laws.FnExactStepFollower", spec := "fnExactStepFollower", apart := false }
def FnExactStepFollowerSaid : Prop := fnExactStepFollowerRow.holds Try.pinned (OpenSpec.ofChange fnExactStepFollowerSpec)

/-- ITS FALSE NEIGHBOUR: 'it returns false'. Refute it at one input. -/
def fnExactStepFollowerWrong : ChangeSpec := { name := "fnExactStepFollower", fn := fun _ => fun
  | [d1, d2, d3] => { results := [.lit (.bool false)], args := [d1, d2, d3] }
  | _ => none }
def FnExactStepFollowerWrongFalsely : Prop := fnExactStepFollowerRow.holds Try.pinned (OpenSpec.ofChange fnExactStepFollowerWrong)

/-- 'laws.FnExactSureTick': WHATEVER THE INPUT: true; the input reads as it did. -/
def fnExactSureTickSpec : ChangeSpec := { name := "fnExactSureTick", fn := fun _ => fun
  | [d1, d2, d3] => { results := [.lit (.bool true)], args := [d1, d2, d3] }
  | _ => none }
def fnExactSureTickRow : OpenClaim := { program := "ytnaoogkklkhpnaa", sum := "88e950aa13f496c9d9315924698e161c1776cafb5e7ec75460b188dd462756f2", func := "loop.example/g03004/laws.FnExactSureTick", spec := "fnExactSureTick", apart := false }
def FnExactSureTickSaid : Prop := fnExactSureTickRow.holds Try.pinned (OpenSpec.ofChange fnExactSureTickSpec)

/-- ITS FALSE NEIGHBOUR: 'it returns false'. Refute it at one input. -/
def fnExactSureTickWrong : ChangeSpec := { name := "fnExactSureTick", fn := fun _ => fun
  | [d1, d2, d3] => { results := [.lit (.bool false)], args := [d1, d2, d3] }
  | _ => none }
def FnExactSureTickWrongFalsely : Prop := fnExactSureTickRow.holds Try.pinned (OpenSpec.ofChange fnExactSureTickWrong)

/-- 'laws.FnExactMeanRate': WHATEVER THE INPUT: true; the input reads as it did. -/
def fnExactMeanRateSpec : ChangeSpec := { name := "fnExactMeanRate", fn := fun _ => fun
  | [d1, d2] => { results := [.lit (.bool true)], args := [d1, d2] }
  | _ => none }
def fnExactMeanRateRow : OpenClaim := { program := "ytnaoogkklkhpnaa", sum := "88e950aa13f496c9d9315924698e161c1776cafb5e7ec75460b188dd462756f2", func := "loop.example/g03004/laws.FnExactMeanRate", spec := "fnExactMeanRate", apart := false }
def FnExactMeanRateSaid : Prop := fnExactMeanRateRow.holds Try.pinned (OpenSpec.ofChange fnExactMeanRateSpec)

/-- ITS FALSE NEIGHBOUR: 'it returns false'. Refute it at one input. -/
def fnExactMeanRateWrong : ChangeSpec := { name := "fnExactMeanRate", fn := fun _ => fun
  | [d1, d2] => { results := [.lit (.bool false)], args := [d1, d2] }
  | _ => none }
def FnExactMeanRateWrongFalsely : Prop := fnExactMeanRateRow.holds Try.pinned (OpenSpec.ofChange fnExactMeanRateWrong)

/-- 'laws.FnExactHearAll': WHATEVER THE INPUT: true; the input reads as it did. -/
def fnExactHearAllSpec : ChangeSpec := { name := "fnExactHearAll", fn := fun _ => fun
  | [d1, d2, d3] => { results := [.lit (.bool true)], args := [d1, d2, d3] }
  | _ => none }
def fnExactHearAllRow : OpenClaim := { program := "ytnaoogkklkhpnaa", sum := "88e950aa13f496c9d9315924698e161c1776cafb5e7ec75460b188dd462756f2", func := "loop.example/g03004/laws.FnExactHearAll", spec := "fnExactHearAll", apart := false }
def FnExactHearAllSaid : Prop := fnExactHearAllRow.holds Try.pinned (OpenSpec.ofChange fnExactHearAllSpec)

/-- ITS FALSE NEIGHBOUR: 'it returns false'. Refute it at one input. -/
def fnExactHearAllWrong : ChangeSpec := { name := "fnExactHearAll", fn := fun _ => fun
  | [d1, d2, d3] => { results := [.lit (.bool false)], args := [d1, d2, d3] }
  | _ => none }
def FnExactHearAllWrongFalsely : Prop := fnExactHearAllRow.holds Try.pinned (OpenSpec.ofChange fnExactHearAllWrong)

/-- 'laws.FnExactLastRate': WHATEVER THE INPUT: true; the input reads as it did. -/
def fnExactLastRateSpec : ChangeSpec := { name := "fnExactLastRate", fn := fun _ => fun
  | [d] => { results := [.lit (.bool true)], args := [d] }
  | _ => none }
def fnExactLastRateRow : OpenClaim := { program := "ytnaoogkklkhpnaa", sum := "88e950aa13f496c9d9315924698e161c1776cafb5e7ec75460b188dd462756f2", func := "loop.example/g03004/laws.FnExactLastRate", spec := "fnExactLastRate", apart := false }
def FnExactLastRateSaid : Prop := fnExactLastRateRow.holds Try.pinned (OpenSpec.ofChange fnExactLastRateSpec)

/-- ITS FALSE NEIGHBOUR: 'it returns false'. Refute it at one input. -/
def fnExactLastRateWrong : ChangeSpec := { name := "fnExactLastRate", fn := fun _ => fun
  | [d] => { results := [.lit (.bool false)], args := [d] }
  | _ => none }
def FnExactLastRateWrongFalsely : Prop := fnExactLastRateRow.holds Try.pinned (OpenSpec.ofChange fnExactLastRateWrong)

/-- 'laws.FnExactMatchedOf': WHATEVER THE INPUT: true; the input reads as it did. -/
def fnExactMatchedOfSpec : ChangeSpec := { name := "fnExactMatchedOf", fn := fun _ => fun
  | [d1, d2, d3] => { results := [.lit (.bool true)], args := [d1, d2, d3] }
  | _ => none }
def fnExactMatchedOfRow : OpenClaim := { program := "ytnaoogkklkhpnaa", sum := "88e950aa13f496c9d9315924698e161c1776cafb5e7ec75460b188dd462756f2", func := "loop.example/g03004/laws.FnExactMatchedOf", spec := "fnExactMatchedOf", apart := false }
def FnExactMatchedOfSaid : Prop := fnExactMatchedOfRow.holds Try.pinned (OpenSpec.ofChange fnExactMatchedOfSpec)

/-- ITS FALSE NEIGHBOUR: 'it returns false'. Refute it at one input. -/
def fnExactMatchedOfWrong : ChangeSpec := { name := "fnExactMatchedOf", fn := fun _ => fun
  | [d1, d2, d3] => { results := [.lit (.bool false)], args := [d1, d2, d3] }
  | _ => none }
def FnExactMatchedOfWrongFalsely : Prop := fnExactMatchedOfRow.holds Try.pinned (OpenSpec.ofChange fnExactMatchedOfWrong)

/-- 'laws.FnExactDueEvents': WHATEVER THE INPUT: true; the input reads as it did. -/
def fnExactDueEventsSpec : ChangeSpec := { name := "fnExactDueEvents", fn := fun _ => fun
  | [d1, d2, d3, d4] => { results := [.lit (.bool true)], args := [d1, d2, d3, d4] }
  | _ => none }
def fnExactDueEventsRow : OpenClaim := { program := "ytnaoogkklkhpnaa", sum := "88e950aa13f496c9d9315924698e161c1776cafb5e7ec75460b188dd462756f2", func := "loop.example/g03004/laws.FnExactDueEvents", spec := "fnExactDueEvents", apart := false }
def FnExactDueEventsSaid : Prop := fnExactDueEventsRow.holds Try.pinned (OpenSpec.ofChange fnExactDueEventsSpec)

/-- ITS FALSE NEIGHBOUR: 'it returns false'. Refute it at one input. -/
def fnExactDueEventsWrong : ChangeSpec := { name := "fnExactDueEvents", fn := fun _ => fun
  | [d1, d2, d3, d4] => { results := [.lit (.bool false)], args := [d1, d2, d3, d4] }
  | _ => none }
def FnExactDueEventsWrongFalsely : Prop := fnExactDueEventsRow.holds Try.pinned (OpenSpec.ofChange fnExactDueEventsWrong)

/-- 'laws.FnExactAlignPath': WHATEVER THE INPUT: true; the input reads as it did. -/
def fnExactAlignPathSpec : ChangeSpec := { name := "fnExactAlignPath", fn := fun _ => fun
  | [d1, d2] => { results := [.lit (.bool true)], args := [d1, d2] }
  | _ => none }
def fnExactAlignPathRow : OpenClaim := { program := "ytnaoogkklkhpnaa", sum := "88e950aa13f496c9d9315924698e161c1776cafb5e7ec75460b188dd462756f2", func := "loop.example/g03004/laws.FnExactAlignPath", spec := "fnExactAlignPath", apart := false }
def FnExactAlignPathSaid : Prop := fnExactAlignPathRow.holds Try.pinned (OpenSpec.ofChange fnExactAlignPathSpec)

/-- ITS FALSE NEIGHBOUR: 'it returns false'. Refute it at one input. -/
def fnExactAlignPathWrong : ChangeSpec := { name := "fnExactAlignPath", fn := fun _ => fun
  | [d1, d2] => { results := [.lit (.bool false)], args := [d1, d2] }
  | _ => none }
def FnExactAlignPathWrongFalsely : Prop := fnExactAlignPathRow.holds Try.pinned (OpenSpec.ofChange fnExactAlignPathWrong)

/-- 'laws.FnExactPhrasesOf': WHATEVER THE INPUT: true; the input reads as it did. -/
def fnExactPhrasesOfSpec : ChangeSpec := { name := "fnExactPhrasesOf", fn := fun _ => fun
  | [d1, d2] => { results := [.lit (.bool true)], args := [d1, d2] }
  | _ => none }
def fnExactPhrasesOfRow : OpenClaim := { program := "ytnaoogkklkhpnaa", sum := "88e950aa13f496c9d9315924698e161c1776cafb5e7ec75460b188dd462756f2", func := "loop.example/g03004/laws.FnExactPhrasesOf", spec := "fnExactPhrasesOf", apart := false }
def FnExactPhrasesOfSaid : Prop := fnExactPhrasesOfRow.holds Try.pinned (OpenSpec.ofChange fnExactPhrasesOfSpec)

/-- ITS FALSE NEIGHBOUR: 'it returns false'. Refute it at one input. -/
def fnExactPhrasesOfWrong : ChangeSpec := { name := "fnExactPhrasesOf", fn := fun _ => fun
  | [d1, d2] => { results := [.lit (.bool false)], args := [d1, d2] }
  | _ => none }
def FnExactPhrasesOfWrongFalsely : Prop := fnExactPhrasesOfRow.holds Try.pinned (OpenSpec.ofChange fnExactPhrasesOfWrong)

/-- 'laws.FnExactOnsetsOf': WHATEVER THE INPUT: true; the input reads as it did. -/
def fnExactOnsetsOfSpec : ChangeSpec := { name := "fnExactOnsetsOf", fn := fun _ => fun
  | [d1, d2, d3] => { results := [.lit (.bool true)], args := [d1, d2, d3] }
  | _ => none }
def fnExactOnsetsOfRow : OpenClaim := { program := "ytnaoogkklkhpnaa", sum := "88e950aa13f496c9d9315924698e161c1776cafb5e7ec75460b188dd462756f2", func := "loop.example/g03004/laws.FnExactOnsetsOf", spec := "fnExactOnsetsOf", apart := false }
def FnExactOnsetsOfSaid : Prop := fnExactOnsetsOfRow.holds Try.pinned (OpenSpec.ofChange fnExactOnsetsOfSpec)

/-- ITS FALSE NEIGHBOUR: 'it returns false'. Refute it at one input. -/
def fnExactOnsetsOfWrong : ChangeSpec := { name := "fnExactOnsetsOf", fn := fun _ => fun
  | [d1, d2, d3] => { results := [.lit (.bool false)], args := [d1, d2, d3] }
  | _ => none }
def FnExactOnsetsOfWrongFalsely : Prop := fnExactOnsetsOfRow.holds Try.pinned (OpenSpec.ofChange fnExactOnsetsOfWrong)

/- THE SECOND FORM. 'bulk': how many values and letters a reading holds, each counted each time it is reached (what is shared counts as often as it is met; a slice's spare places count too). A statement '..UptoSaid' is the law's where the arguments, and the package variables that the reading takes, are together of bulk at most 1048576: NARROWER than '..Said'. Prove '..Said' where nothing that the law and all that it calls make is longer than what came in: it says more and counts as full. Else prove '..UptoSaid'. A law counts once. -/
mutual
def uptoBulk {H : Type} : DataW H → Nat
  | .lit (.string bytes) => bytes.length + 1
  | .lit _ => 1
  | .nil => 1
  | .ptr d => uptoBulk d + 1
  | .slice elems spare => uptoBulkAll elems + uptoBulkAll spare + 1
  | .agg parts => uptoBulkAll parts + 1
  | .iface _ d => uptoBulk d + 1
  | .map entries => uptoBulkEntries entries + 1
  | .held _ => 1
def uptoBulkAll {H : Type} : List (DataW H) → Nat
  | [] => 0
  | d :: r => uptoBulk d + uptoBulkAll r
def uptoBulkEntries {H : Type} : List (Lit × DataW H) → Nat
  | [] => 0
  | x :: r => uptoBulkEntry x + uptoBulkEntries r
def uptoBulkEntry {H : Type} : Lit × DataW H → Nat
  | (.string bytes, d) => bytes.length + uptoBulk d + 1
  | (_, d) => uptoBulk d + 1
 end
def uptoSmall : (H : Type) → List (DataW H) → Bool := fun _ ds => decide (uptoBulkAll ds ≤ 1048576)
def OpenSpec.upto (s : _root_.Go.ChangeSpec) : _root_.Go.OpenSpec := { _root_.Go.OpenSpec.ofChange s with cond := some uptoSmall }

/-- 'laws.FnExactPitchAt', WHERE WHAT IT READS IS OF BULK AT MOST 1048576: true; the input reads as it did. -/
def fnExactPitchAtUptoRow : OpenClaim := { program := "ytnaoogkklkhpnaa", sum := "88e950aa13f496c9d9315924698e161c1776cafb5e7ec75460b188dd462756f2", func := "loop.example/g03004/laws.FnExactPitchAt", spec := "fnExactPitchAt", apart := false, narrowed := true }
def FnExactPitchAtUptoSaid : Prop := fnExactPitchAtUptoRow.holds Try.pinned (OpenSpec.upto fnExactPitchAtSpec)

/-- 'laws.FnExactWorkOf', WHERE WHAT IT READS IS OF BULK AT MOST 1048576: true; the input reads as it did. -/
def fnExactWorkOfUptoRow : OpenClaim := { program := "ytnaoogkklkhpnaa", sum := "88e950aa13f496c9d9315924698e161c1776cafb5e7ec75460b188dd462756f2", func := "loop.example/g03004/laws.FnExactWorkOf", spec := "fnExactWorkOf", unfollowed := true, recurses := true, apart := false, narrowed := true }
def FnExactWorkOfUptoSaid : Prop := fnExactWorkOfUptoRow.holds Try.pinned (OpenSpec.upto fnExactWorkOfSpec)

/-- 'laws.FnExactStepFollower', WHERE WHAT IT READS IS OF BULK AT MOST 1048576: true; the input reads as it did. -/
def fnExactStepFollowerUptoRow : OpenClaim := { program := "ytnaoogkklkhpnaa", sum := "88e950aa13f496c9d9315924698e161c1776cafb5e7ec75460b188dd462756f2", func := "loop.example/g03004/laws.FnExactStepFollower", spec := "fnExactStepFollower", apart := false, narrowed := true }
def FnExactStepFollowerUptoSaid : Prop := fnExactStepFollowerUptoRow.holds Try.pinned (OpenSpec.upto fnExactStepFollowerSpec)

/-- 'laws.FnExactSureTick', WHERE WHAT IT READS IS OF BULK AT MOST 1048576: true; the input reads as it did. -/
def fnExactSureTickUptoRow : OpenClaim := { program := "ytnaoogkklkhpnaa", sum := "88e950aa13f496c9d9315924698e161c1776cafb5e7ec75460b188dd462756f2", func := "loop.example/g03004/laws.FnExactSureTick", spec := "fnExactSureTick", apart := false, narrowed := true }
def FnExactSureTickUptoSaid : Prop := fnExactSureTickUptoRow.holds Try.pinned (OpenSpec.upto fnExactSureTickSpec)

/-- 'laws.FnExactMeanRate', WHERE WHAT IT READS IS OF BULK AT MOST 1048576: true; the input reads as it did. -/
def fnExactMeanRateUptoRow : OpenClaim := { program := "ytnaoogkklkhpnaa", sum := "88e950aa13f496c9d9315924698e161c1776cafb5e7ec75460b188dd462756f2", func := "loop.example/g03004/laws.FnExactMeanRate", spec := "fnExactMeanRate", apart := false, narrowed := true }
def FnExactMeanRateUptoSaid : Prop := fnExactMeanRateUptoRow.holds Try.pinned (OpenSpec.upto fnExactMeanRateSpec)

/-- 'laws.FnExactHearAll', WHERE WHAT IT READS IS OF BULK AT MOST 1048576: true; the input reads as it did. -/
def fnExactHearAllUptoRow : OpenClaim := { program := "ytnaoogkklkhpnaa", sum := "88e950aa13f496c9d9315924698e161c1776cafb5e7ec75460b188dd462756f2", func := "loop.example/g03004/laws.FnExactHearAll", spec := "fnExactHearAll", apart := false, narrowed := true }
def FnExactHearAllUptoSaid : Prop := fnExactHearAllUptoRow.holds Try.pinned (OpenSpec.upto fnExactHearAllSpec)

/-- 'laws.FnExactLastRate', WHERE WHAT IT READS IS OF BULK AT MOST 1048576: true; the input reads as it did. -/
def fnExactLastRateUptoRow : OpenClaim := { program := "ytnaoogkklkhpnaa", sum := "88e950aa13f496c9d9315924698e161c1776cafb5e7ec75460b188dd462756f2", func := "loop.example/g03004/laws.FnExactLastRate", spec := "fnExactLastRate", apart := false, narrowed := true }
def FnExactLastRateUptoSaid : Prop := fnExactLastRateUptoRow.holds Try.pinned (OpenSpec.upto fnExactLastRateSpec)

/-- 'laws.FnExactMatchedOf', WHERE WHAT IT READS IS OF BULK AT MOST 1048576: true; the input reads as it did. -/
def fnExactMatchedOfUptoRow : OpenClaim := { program := "ytnaoogkklkhpnaa", sum := "88e950aa13f496c9d9315924698e161c1776cafb5e7ec75460b188dd462756f2", func := "loop.example/g03004/laws.FnExactMatchedOf", spec := "fnExactMatchedOf", apart := false, narrowed := true }
def FnExactMatchedOfUptoSaid : Prop := fnExactMatchedOfUptoRow.holds Try.pinned (OpenSpec.upto fnExactMatchedOfSpec)

/-- 'laws.FnExactDueEvents', WHERE WHAT IT READS IS OF BULK AT MOST 1048576: true; the input reads as it did. -/
def fnExactDueEventsUptoRow : OpenClaim := { program := "ytnaoogkklkhpnaa", sum := "88e950aa13f496c9d9315924698e161c1776cafb5e7ec75460b188dd462756f2", func := "loop.example/g03004/laws.FnExactDueEvents", spec := "fnExactDueEvents", apart := false, narrowed := true }
def FnExactDueEventsUptoSaid : Prop := fnExactDueEventsUptoRow.holds Try.pinned (OpenSpec.upto fnExactDueEventsSpec)

/-- 'laws.FnExactAlignPath', WHERE WHAT IT READS IS OF BULK AT MOST 1048576: true; the input reads as it did. -/
def fnExactAlignPathUptoRow : OpenClaim := { program := "ytnaoogkklkhpnaa", sum := "88e950aa13f496c9d9315924698e161c1776cafb5e7ec75460b188dd462756f2", func := "loop.example/g03004/laws.FnExactAlignPath", spec := "fnExactAlignPath", apart := false, narrowed := true }
def FnExactAlignPathUptoSaid : Prop := fnExactAlignPathUptoRow.holds Try.pinned (OpenSpec.upto fnExactAlignPathSpec)

/-- 'laws.FnExactPhrasesOf', WHERE WHAT IT READS IS OF BULK AT MOST 1048576: true; the input reads as it did. -/
def fnExactPhrasesOfUptoRow : OpenClaim := { program := "ytnaoogkklkhpnaa", sum := "88e950aa13f496c9d9315924698e161c1776cafb5e7ec75460b188dd462756f2", func := "loop.example/g03004/laws.FnExactPhrasesOf", spec := "fnExactPhrasesOf", apart := false, narrowed := true }
def FnExactPhrasesOfUptoSaid : Prop := fnExactPhrasesOfUptoRow.holds Try.pinned (OpenSpec.upto fnExactPhrasesOfSpec)

/-- 'laws.FnExactOnsetsOf', WHERE WHAT IT READS IS OF BULK AT MOST 1048576: true; the input reads as it did. -/
def fnExactOnsetsOfUptoRow : OpenClaim := { program := "ytnaoogkklkhpnaa", sum := "88e950aa13f496c9d9315924698e161c1776cafb5e7ec75460b188dd462756f2", func := "loop.example/g03004/laws.FnExactOnsetsOf", spec := "fnExactOnsetsOf", apart := false, narrowed := true }
def FnExactOnsetsOfUptoSaid : Prop := fnExactOnsetsOfUptoRow.holds Try.pinned (OpenSpec.upto fnExactOnsetsOfSpec)

end Rows
end Go.Proofs.Ytnaoogkklkhpnaa
