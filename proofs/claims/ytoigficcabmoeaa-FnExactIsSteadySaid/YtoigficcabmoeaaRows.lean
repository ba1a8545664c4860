/-
  No cell of these rows narrows 'for every input' (looked for: loops, veiled, ifaces, maps, wideKeys, modest, calm, conditions, laid).
  DERIVED. THE GIVEN ROWS OF THIS SEAT. 12 by the template 'for every input the law returns true; each argument reads behind the call as it read before'; 0 by the template 'total and deterministic' (their statements: YtoigficcabmoeaaTotals.lean).
  GIVEN WITH THE SEED: the statements are not yours to turn. If you find one false, say at which input.
  Laid BY PROGRAM, IN A SANDBOX (cutbox-rows.mjs): the forced cells as the released guide's own fill.sh prints them over the translation ffe1c7d476397ec8… (all of the seat's roots in one cut). By AI agents, Wed Nov 11 2026. No macro, syntax, notation, axiom, sorry.
-/
import Derived.Test.YtoigficcabmoeaaChecked
import GoSem.Claim
import GoSem.ClaimJoined
import GoSem.ClaimMapViews
import Derived.JoinedTies
import Derived.KernelRfl
namespace Go.Proofs.Ytoigficcabmoeaa
/- THE CELL 'sum', in the pinned program and in every row, IS THE sha256 OF THE DUMP (.gsa) THAT YtoigficcabmoeaaProg.lean LOADS. Nothing in Lean hashes anything: it is a label: what it is worth is what the hold of that sum in a sandbox is worth. -/
noncomputable def Try.pinned : Pinned := { name := "ytoigficcabmoeaa", sum := "ffe1c7d476397ec82bd4f87f3fe952afb9e8e81c4be19aa186e044ed3fc3c4c8", checked := Try.checked }
namespace Rows
def none {H : Type} : Left H := { results := [], args := [] }

/-- 'laws.FnExactIsFollower': WHATEVER THE INPUT: true; the input reads as it did. -/
def fnExactIsFollowerSpec : ChangeSpec := { name := "fnExactIsFollower", fn := fun _ => fun
  | [d1, d2] => { results := [.lit (.bool true)], args := [d1, d2] }
  | _ => none }
def fnExactIsFollowerRow : OpenClaim := { program := "ytoigficcabmoeaa", sum := "ffe1c7d476397ec82bd4f87f3fe952afb9e8e81c4be19aa186e044ed3fc3c4c8", func := "loop.example/g03004/laws.FnExactIsFollower", spec := "fnExactIsFollower", apart := false }
def FnExactIsFollowerSaid : Prop := fnExactIsFollowerRow.holds Try.pinned (OpenSpec.ofChange fnExactIsFollowerSpec)

/-- ITS FALSE NEIGHBOUR: 'it returns false'. Refute it at one input. -/
def fnExactIsFollowerWrong : ChangeSpec := { name := "fnExactIsFollower", fn := fun _ => fun
  | [d1, d2] => { results := [.lit (.bool false)], args := [d1, d2] }
  | _ => none }
def FnExactIsFollowerWrongFalsely : Prop := fnExactIsFollowerRow.holds Try.pinned (OpenSpec.ofChange fnExactIsFollowerWrong)

/-- 'laws.FnExactDegreeOf': WHATEVER THE INPUT: true; the input reads as it did. -/
def fnExactDegreeOfSpec : ChangeSpec := { name := "fnExactDegreeOf", fn := fun _ => fun
  | [d1, d2] => { results := [.lit (.bool true)], args := [d1, d2] }
  | _ => none }
def fnExactDegreeOfRow : OpenClaim := { program := "ytoigficcabmoeaa", sum := "ffe1c7d476397ec82bd4f87f3fe952afb9e8e81c4be19aa186e044ed3fc3c4c8", func := "loop.example/g03004/laws.FnExactDegreeOf", spec := "fnExactDegreeOf", apart := false }
def FnExactDegreeOfSaid : Prop := fnExactDegreeOfRow.holds Try.pinned (OpenSpec.ofChange fnExactDegreeOfSpec)

/-- ITS FALSE NEIGHBOUR: 'it returns false'. Refute it at one input. -/
def fnExactDegreeOfWrong : ChangeSpec := { name := "fnExactDegreeOf", fn := fun _ => fun
  | [d1, d2] => { results := [.lit (.bool false)], args := [d1, d2] }
  | _ => none }
def FnExactDegreeOfWrongFalsely : Prop := fnExactDegreeOfRow.holds Try.pinned (OpenSpec.ofChange fnExactDegreeOfWrong)

/-- 'laws.FnExactIsCue': WHATEVER THE INPUT: true; the input reads as it did. -/
def fnExactIsCueSpec : ChangeSpec := { name := "fnExactIsCue", fn := fun _ => fun
  | [d] => { results := [.lit (.bool true)], args := [d] }
  | _ => none }
def fnExactIsCueRow : OpenClaim := { program := "ytoigficcabmoeaa", sum := "ffe1c7d476397ec82bd4f87f3fe952afb9e8e81c4be19aa186e044ed3fc3c4c8", func := "loop.example/g03004/laws.FnExactIsCue", spec := "fnExactIsCue", apart := false }
def FnExactIsCueSaid : Prop := fnExactIsCueRow.holds Try.pinned (OpenSpec.ofChange fnExactIsCueSpec)

/-- ITS FALSE NEIGHBOUR: 'it returns false'. Refute it at one input. -/
def fnExactIsCueWrong : ChangeSpec := { name := "fnExactIsCue", fn := fun _ => fun
  | [d] => { results := [.lit (.bool false)], args := [d] }
  | _ => none }
def FnExactIsCueWrongFalsely : Prop := fnExactIsCueRow.holds Try.pinned (OpenSpec.ofChange fnExactIsCueWrong)

/-- 'laws.FnExactSurelyBetween': WHATEVER THE INPUT: true; the input reads as it did. -/
def fnExactSurelyBetweenSpec : ChangeSpec := { name := "fnExactSurelyBetween", fn := fun _ => fun
  | [d1, d2] => { results := [.lit (.bool true)], args := [d1, d2] }
  | _ => none }
def fnExactSurelyBetweenRow : OpenClaim := { program := "ytoigficcabmoeaa", sum := "ffe1c7d476397ec82bd4f87f3fe952afb9e8e81c4be19aa186e044ed3fc3c4c8", func := "loop.example/g03004/laws.FnExactSurelyBetween", spec := "fnExactSurelyBetween", apart := false }
def FnExactSurelyBetweenSaid : Prop := fnExactSurelyBetweenRow.holds Try.pinned (OpenSpec.ofChange fnExactSurelyBetweenSpec)

/-- ITS FALSE NEIGHBOUR: 'it returns false'. Refute it at one input. -/
def fnExactSurelyBetweenWrong : ChangeSpec := { name := "fnExactSurelyBetween", fn := fun _ => fun
  | [d1, d2] => { results := [.lit (.bool false)], args := [d1, d2] }
  | _ => none }
def FnExactSurelyBetweenWrongFalsely : Prop := fnExactSurelyBetweenRow.holds Try.pinned (OpenSpec.ofChange fnExactSurelyBetweenWrong)

/-- 'laws.FnExactStartFollower': WHATEVER THE INPUT: true; the input reads as it did. -/
def fnExactStartFollowerSpec : ChangeSpec := { name := "fnExactStartFollower", fn := fun _ => fun
  | [d] => { results := [.lit (.bool true)], args := [d] }
  | _ => none }
def fnExactStartFollowerRow : OpenClaim := { program := "ytoigficcabmoeaa", sum := "ffe1c7d476397ec82bd4f87f3fe952afb9e8e81c4be19aa186e044ed3fc3c4c8", func := "loop.example/g03004/laws.FnExactStartFollower", spec := "fnExactStartFollower", apart := false }
def FnExactStartFollowerSaid : Prop := fnExactStartFollowerRow.holds Try.pinned (OpenSpec.ofChange fnExactStartFollowerSpec)

/-- ITS FALSE NEIGHBOUR: 'it returns false'. Refute it at one input. -/
def fnExactStartFollowerWrong : ChangeSpec := { name := "fnExactStartFollower", fn := fun _ => fun
  | [d] => { results := [.lit (.bool false)], args := [d] }
  | _ => none }
def FnExactStartFollowerWrongFalsely : Prop := fnExactStartFollowerRow.holds Try.pinned (OpenSpec.ofChange fnExactStartFollowerWrong)

/-- 'laws.FnExactBestCost': WHATEVER THE INPUT: true; the input reads as it did. -/
def fnExactBestCostSpec : ChangeSpec := { name := "fnExactBestCost", fn := fun _ => fun
  | [d] => { results := [.lit (.bool true)], args := [d] }
  | _ => none }
def fnExactBestCostRow : OpenClaim := { program := "ytoigficcabmoeaa", sum := "ffe1c7d476397ec82bd4f87f3fe952afb9e8e81c4be19aa186e044ed3fc3c4c8", func := "loop.example/g03004/laws.FnExactBestCost", spec := "fnExactBestCost", apart := false }
def FnExactBestCostSaid : Prop := fnExactBestCostRow.holds Try.pinned (OpenSpec.ofChange fnExactBestCostSpec)

/-- ITS FALSE NEIGHBOUR: 'it returns false'. Refute it at one input. -/
def fnExactBestCostWrong : ChangeSpec := { name := "fnExactBestCost", fn := fun _ => fun
  | [d] => { results := [.lit (.bool false)], args := [d] }
  | _ => none }
def FnExactBestCostWrongFalsely : Prop := fnExactBestCostRow.holds Try.pinned (OpenSpec.ofChange fnExactBestCostWrong)

/-- 'laws.FnExactPositionOf': WHATEVER THE INPUT: true; the input reads as it did. -/
def fnExactPositionOfSpec : ChangeSpec := { name := "fnExactPositionOf", fn := fun _ => fun
  | [d] => { results := [.lit (.bool true)], args := [d] }
  | _ => none }
def fnExactPositionOfRow : OpenClaim := { program := "ytoigficcabmoeaa", sum := "ffe1c7d476397ec82bd4f87f3fe952afb9e8e81c4be19aa186e044ed3fc3c4c8", func := "loop.example/g03004/laws.FnExactPositionOf", spec := "fnExactPositionOf", apart := false }
def FnExactPositionOfSaid : Prop := fnExactPositionOfRow.holds Try.pinned (OpenSpec.ofChange fnExactPositionOfSpec)

/-- ITS FALSE NEIGHBOUR: 'it returns false'. Refute it at one input. -/
def fnExactPositionOfWrong : ChangeSpec := { name := "fnExactPositionOf", fn := fun _ => fun
  | [d] => { results := [.lit (.bool false)], args := [d] }
  | _ => none }
def FnExactPositionOfWrongFalsely : Prop := fnExactPositionOfRow.holds Try.pinned (OpenSpec.ofChange fnExactPositionOfWrong)

/-- 'laws.FnExactAlignCost': WHATEVER THE INPUT: true; the input reads as it did. -/
def fnExactAlignCostSpec : ChangeSpec := { name := "fnExactAlignCost", fn := fun _ => fun
  | [d1, d2] => { results := [.lit (.bool true)], args := [d1, d2] }
  | _ => none }
def fnExactAlignCostRow : OpenClaim := { program := "ytoigficcabmoeaa", sum := "ffe1c7d476397ec82bd4f87f3fe952afb9e8e81c4be19aa186e044ed3fc3c4c8", func := "loop.example/g03004/laws.FnExactAlignCost", spec := "fnExactAlignCost", apart := false }
def FnExactAlignCostSaid : Prop := fnExactAlignCostRow.holds Try.pinned (OpenSpec.ofChange fnExactAlignCostSpec)

/-- ITS FALSE NEIGHBOUR: 'it returns false'. Refute it at one input. -/
def fnExactAlignCostWrong : ChangeSpec := { name := "fnExactAlignCost", fn := fun _ => fun
  | [d1, d2] => { results := [.lit (.bool false)], args := [d1, d2] }
  | _ => none }
def FnExactAlignCostWrongFalsely : Prop := fnExactAlignCostRow.holds Try.pinned (OpenSpec.ofChange fnExactAlignCostWrong)

/-- 'laws.FnExactIsAhead': WHATEVER THE INPUT: true; the input reads as it did. -/
def fnExactIsAheadSpec : ChangeSpec := { name := "fnExactIsAhead", fn := fun _ => fun
  | [d1, d2, d3] => { results := [.lit (.bool true)], args := [d1, d2, d3] }
  | _ => none }
def fnExactIsAheadRow : OpenClaim := { program := "ytoigficcabmoeaa", sum := "ffe1c7d476397ec82bd4f87f3fe952afb9e8e81c4be19aa186e044ed3fc3c4c8", func := "loop.example/g03004/laws.FnExactIsAhead", spec := "fnExactIsAhead", apart := false }
def FnExactIsAheadSaid : Prop := fnExactIsAheadRow.holds Try.pinned (OpenSpec.ofChange fnExactIsAheadSpec)

/-- ITS FALSE NEIGHBOUR: 'it returns false'. Refute it at one input. -/
def fnExactIsAheadWrong : ChangeSpec := { name := "fnExactIsAhead", fn := fun _ => fun
  | [d1, d2, d3] => { results := [.lit (.bool false)], args := [d1, d2, d3] }
  | _ => none }
def FnExactIsAheadWrongFalsely : Prop := fnExactIsAheadRow.holds Try.pinned (OpenSpec.ofChange fnExactIsAheadWrong)

/-- 'laws.FnExactIsSteady': WHATEVER THE INPUT: true; the input reads as it did. -/
def fnExactIsSteadySpec : ChangeSpec := { name := "fnExactIsSteady", fn := fun _ => fun
  | [d1, d2] => { results := [.lit (.bool true)], args := [d1, d2] }
  | _ => none }
def fnExactIsSteadyRow : OpenClaim := { program := "ytoigficcabmoeaa", sum := "ffe1c7d476397ec82bd4f87f3fe952afb9e8e81c4be19aa186e044ed3fc3c4c8", func := "loop.example/g03004/laws.FnExactIsSteady", spec := "fnExactIsSteady", apart := false }
def FnExactIsSteadySaid : Prop := fnExactIsSteadyRow.holds Try.pinned (OpenSpec.ofChange fnExactIsSteadySpec)

/-- ITS FALSE NEIGHBOUR: 'it returns false'. Refute it at one input. -/
def fnExactIsSteadyWrong : ChangeSpec := { name := "fnExactIsSteady", fn := fun _ => fun
  | [d1, d2] => { results := [.lit (.bool false)], args := [d1, d2] }
  | _ => none }
def FnExactIsSteadyWrongFalsely : Prop := fnExactIsSteadyRow.holds Try.pinned (OpenSpec.ofChange fnExactIsSteadyWrong)

/-- 'laws.FnExactCadenceOf': WHATEVER THE INPUT: true; the input reads as it did. -/
def fnExactCadenceOfSpec : ChangeSpec := { name := "fnExactCadenceOf", fn := fun _ => fun
  | [d1, d2, d3] => { results := [.lit (.bool true)], args := [d1, d2, d3] }
  | _ => none }
def fnExactCadenceOfRow : OpenClaim := { program := "ytoigficcabmoeaa", sum := "ffe1c7d476397ec82bd4f87f3fe952afb9e8e81c4be19aa186e044ed3fc3c4c8", func := "loop.example/g03004/laws.FnExactCadenceOf", spec := "fnExactCadenceOf", apart := false }
def FnExactCadenceOfSaid : Prop := fnExactCadenceOfRow.holds Try.pinned (OpenSpec.ofChange fnExactCadenceOfSpec)

/-- ITS FALSE NEIGHBOUR: 'it returns false'. Refute it at one input. -/
def fnExactCadenceOfWrong : ChangeSpec := { name := "fnExactCadenceOf", fn := fun _ => fun
  | [d1, d2, d3] => { results := [.lit (.bool false)], args := [d1, d2, d3] }
  | _ => none }
def FnExactCadenceOfWrongFalsely : Prop := fnExactCadenceOfRow.holds Try.pinned (OpenSpec.ofChange fnExactCadenceOfWrong)

/-- 'laws.FnExactPathCost': WHATEVER THE INPUT: true; the input reads as it did. -/
def fnExactPathCostSpec : ChangeSpec := { name := "fnExactPathCost", fn := fun _ => fun
  | [d1, d2, d3] => { results := [.lit (.bool true)], args := [d1, d2, d3] }
  | _ => none }
def fnExactPathCostRow : OpenClaim := { program := "ytoigficcabmoeaa", sum := "ffe1c7d476397ec82bd4f87f3fe952afb9e8e81c4be19aa186e044ed3fc3c4c8", func := "loop.example/g03004/laws.FnExactPathCost", spec := "fnExactPathCost", apart := false }
def FnExactPathCostSaid : Prop := fnExactPathCostRow.holds Try.pinned (OpenSpec.ofChange fnExactPathCostSpec)

/-- ITS FALSE NEIGHBOUR: 'it returns false'. Refute it at one input. -/
def fnExactPathCostWrong : ChangeSpec := { name := "fnExactPathCost", fn := fun _ => fun
  | [d1, d2, d3] => { results := [.lit (.bool false)], args := [d1, d2, d3] }
  | _ => none }
def FnExactPathCostWrongFalsely : Prop := fnExactPathCostRow.holds Try.pinned (OpenSpec.ofChange fnExactPathCostWrong)

/- THE SECOND FORM. 'bulk': how many values and letters a reading holds, each counted each time it is reached (what is shared counts as often as it is met; a slice's spare places count too). A statement '..UptoSaid' is the law's where the arguments, and the package variables that the reading takes, are together of bulk at most 1048576: NARROWER than '..Said'. Prove '..Said' where nothing that the law and all that it calls make is longer than what came in: it says more and counts as full. Else prove '..UptoSaid'. A law counts once. -/
mutual
def uptoBulk {H : Type} : DataW H → Nat
  | .lit (.string bytes) => bytes.length + 1
  | .lit _ => 1
  | .nil => 1
  | .ptr d => uptoBulk d + 1
  | .slice elems spare => uptoBulkAll elems + uptoBulkAll spare + 1
  | .agg parts => uptoBulkAll parts + 1
  | .iface _ d => uptoBulk d + 1
  | .map entries => uptoBulkEntries entries + 1
  | .held _ => 1
def uptoBulkAll {H : Type} : List (DataW H) → Nat
  | [] => 0
  | d :: r => uptoBulk d + uptoBulkAll r
def uptoBulkEntries {H : Type} : List (Lit × DataW H) → Nat
  | [] => 0
  | x :: r => uptoBulkEntry x + uptoBulkEntries r
def uptoBulkEntry {H : Type} : Lit × DataW H → Nat
  | (.string bytes, d) => bytes.length + uptoBulk d + 1
  | (_, d) => uptoBulk d + 1
 end
def uptoSmall : (H : Type) → List (DataW H) → Bool := fun _ ds => decide (uptoBulkAll ds ≤ 1048576)
def OpenSpec.upto (s : _root_.Go.ChangeSpec) : _root_.Go.OpenSpec := { _root_.Go.OpenSpec.ofChange s with cond := some uptoSmall }

/-- 'laws.FnExactIsFollower', WHERE WHAT IT READS IS OF BULK AT MOST 1048576: true; the input reads as it did. -/
def fnExactIsFollowerUptoRow : OpenClaim := { program := "ytoigficcabmoeaa", sum := "ffe1c7d476397ec82bd4f87f3fe952afb9e8e81c4be19aa186e044ed3fc3c4c8", func := "loop.example/g03004/laws.FnExactIsFollower", spec := "fnExactIsFollower", apart := false, narrowed := true }
def FnExactIsFollowerUptoSaid : Prop := fnExactIsFollowerUptoRow.holds Try.pinned (OpenSpec.upto fnExactIsFollowerSpec)

/-- 'laws.FnExactDegreeOf', WHERE WHAT IT READS IS OF BULK AT MOST 1048576: true; the input reads as it did. -/
def fnExactDegreeOfUptoRow : OpenClaim := { program := "ytoigficcabmoeaa", sum := "ffe1c7d476397ec82bd4f87f3fe952afb9e8e81c4be19aa186e044ed3fc3c4c8", func := "loop.example/g03004/laws.FnExactDegreeOf", spec := "fnExactDegreeOf", apart := false, narrowed := true }
def FnExactDegreeOfUptoSaid : Prop := fnExactDegreeOfUptoRow.holds Try.pinned (OpenSpec.upto fnExactDegreeOfSpec)

/-- 'laws.FnExactIsCue', WHERE WHAT IT READS IS OF BULK AT MOST 1048576: true; the input reads as it did. -/
def fnExactIsCueUptoRow : OpenClaim := { program := "ytoigficcabmoeaa", sum := "ffe1c7d476397ec82bd4f87f3fe952afb9e8e81c4be19aa186e044ed3fc3c4c8", func := "loop.example/g03004/laws.FnExactIsCue", spec := "fnExactIsCue", apart := false, narrowed := true }
def FnExactIsCueUptoSaid : Prop := fnExactIsCueUptoRow.holds Try.pinned (OpenSpec.upto fnExactIsCueSpec)

/-- 'laws.FnExactSurelyBetween', WHERE WHAT IT READS IS OF BULK AT MOST 1048576: true; the input reads as it did. -/
def fnExactSurelyBetweenUptoRow : OpenClaim := { program := "ytoigficcabmoeaa", sum := "ffe1c7d476397ec82bd4f87f3fe952afb9e8e81c4be19aa186e044ed3fc3c4c8", func := "loop.example/g03004/laws.FnExactSurelyBetween", spec := "fnExactSurelyBetween", apart := false, narrowed := true }
def FnExactSurelyBetweenUptoSaid : Prop := fnExactSurelyBetweenUptoRow.holds Try.pinned (OpenSpec.upto fnExactSurelyBetweenSpec)

/-- 'laws.FnExactStartFollower', WHERE WHAT IT READS IS OF BULK AT MOST 1048576: true; the input reads as it did. -/
def fnExactStartFollowerUptoRow : OpenClaim := { program := "ytoigficcabmoeaa", sum := "ffe1c7d476397ec82bd4f87f3fe952afb9e8e81c4be19aa186e044ed3fc3c4c8", func := "loop.example/g03004/laws.FnExactStartFollower", spec := "fnExactStartFollower", apart := false, narrowed := true }
def FnExactStartFollowerUptoSaid : Prop := fnExactStartFollowerUptoRow.holds Try.pinned (OpenSpec.upto fnExactStartFollowerSpec)

/-- 'laws.FnExactBestCost', WHERE WHAT IT READS IS OF BULK AT MOST 1048576: true; the input reads as it did. -/
def fnExactBestCostUptoRow : OpenClaim := { program := "ytoigficcabmoeaa", sum := "ffe1c7d476397ec82bd4f87f3fe952afb9e8e81c4be19aa186e044ed3fc3c4c8", func := "loop.example/g03004/laws.FnExactBestCost", spec := "fnExactBestCost", apart := false, narrowed := true }
def FnExactBestCostUptoSaid : Prop := fnExactBestCostUptoRow.holds Try.pinned (OpenSpec.upto fnExactBestCostSpec)

/-- 'laws.FnExactPositionOf', WHERE WHAT IT READS IS OF BULK AT MOST 1048576: true; the input reads as it did. -/
def fnExactPositionOfUptoRow : OpenClaim := { program := "ytoigficcabmoeaa", sum := "ffe1c7d476397ec82bd4f87f3fe952afb9e8e81c4be19aa186e044ed3fc3c4c8", func := "loop.example/g03004/laws.FnExactPositionOf", spec := "fnExactPositionOf", apart := false, narrowed := true }
def FnExactPositionOfUptoSaid : Prop := fnExactPositionOfUptoRow.holds Try.pinned (OpenSpec.upto fnExactPositionOfSpec)

/-- 'laws.FnExactAlignCost', WHERE WHAT IT READS IS OF BULK AT MOST 1048576: true; the input reads as it did. -/
def fnExactAlignCostUptoRow : OpenClaim := { program := "ytoigficcabmoeaa", sum := "ffe1c7d476397ec82bd4f87f3fe952afb9e8e81c4be19aa186e044ed3fc3c4c8", func := "loop.example/g03004/laws.FnExactAlignCost", spec := "fnExactAlignCost", apart := false, narrowed := true }
def FnExactAlignCostUptoSaid : Prop := fnExactAlignCostUptoRow.holds Try.pinned (OpenSpec.upto fnExactAlignCostSpec)

/-- 'laws.FnExactIsAhead', WHERE WHAT IT READS IS OF BULK AT MOST 1048576: true; the input reads as it did. -/
def fnExactIsAheadUptoRow : OpenClaim := { program := "ytoigficcabmoeaa", sum := "ffe1c7d476397ec82bd4f87f3fe952afb9e8e81c4be19aa186e044ed3fc3c4c8", func := "loop.example/g03004/laws.FnExactIsAhead", spec := "fnExactIsAhead", apart := false, narrowed := true }
def FnExactIsAheadUptoSaid : Prop := fnExactIsAheadUptoRow.holds Try.pinned (OpenSpec.upto fnExactIsAheadSpec)

/-- 'laws.FnExactIsSteady', WHERE WHAT IT READS IS OF BULK AT MOST 1048576: true; the input reads as it did. -/
def fnExactIsSteadyUptoRow : OpenClaim := { program := "ytoigficcabmoeaa", sum := "ffe1c7d476397ec82bd4f87f3fe952afb9e8e81c4be19aa186e044ed3fc3c4c8", func := "loop.example/g03004/laws.FnExactIsSteady", spec := "fnExactIsSteady", apart := false, narrowed := true }
def FnExactIsSteadyUptoSaid : Prop := fnExactIsSteadyUptoRow.holds Try.pinned (OpenSpec.upto fnExactIsSteadySpec)

/-- 'laws.FnExactCadenceOf', WHERE WHAT IT READS IS OF BULK AT MOST 1048576: true; the input reads as it did. -/
def fnExactCadenceOfUptoRow : OpenClaim := { program := "ytoigficcabmoeaa", sum := "ffe1c7d476397ec82bd4f87f3fe952afb9e8e81c4be19aa186e044ed3fc3c4c8", func := "loop.example/g03004/laws.FnExactCadenceOf", spec := "fnExactCadenceOf", apart := false, narrowed := true }
def FnExactCadenceOfUptoSaid : Prop := fnExactCadenceOfUptoRow.holds Try.pinned (OpenSpec.upto fnExactCadenceOfSpec)

/-- 'laws.FnExactPathCost', WHERE WHAT IT READS IS OF BULK AT MOST 1048576: true; the input reads as it did. -/
def fnExactPathCostUptoRow : OpenClaim := { program := "ytoigficcabmoeaa", sum := "ffe1c7d476397ec82bd4f87f3fe952afb9e8e81c4be19aa186e044ed3fc3c4c8", func := "loop.example/g03004/laws.FnExactPathCost", spec := "fnExactPathCost", apart := false, narrowed := true }
def FnExactPathCostUptoSaid : Prop := fnExactPathCostUptoRow.holds Try.pinned (OpenSpec.upto fnExactPathCostSpec)

end Rows
end Go.Proofs.Ytoigficcabmoeaa
