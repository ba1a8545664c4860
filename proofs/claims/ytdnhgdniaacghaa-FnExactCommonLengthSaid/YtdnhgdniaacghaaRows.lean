/-
  No cell of these rows narrows 'for every input' (looked for: loops, veiled, ifaces, maps, wideKeys, modest, calm, conditions, laid).
  DERIVED. THE GIVEN ROWS OF THIS SEAT. 6 by the template 'for every input the law returns true; each argument reads behind the call as it read before'; 0 by the template 'total and deterministic' (their statements: YtdnhgdniaacghaaTotals.lean).
  GIVEN WITH THE SEED: the statements are not yours to turn. If you find one false, say at which input.
  Laid BY PROGRAM, IN A SANDBOX (cutbox-rows.mjs): the forced cells as the released guide's own fill.sh prints them over the translation 58a3ccbbe474372a… (all of the seat's roots in one cut). By AI agents, Wed Nov 11 2026. No macro, syntax, notation, axiom, sorry.
-/
import Derived.Test.YtdnhgdniaacghaaChecked
import GoSem.Claim
import GoSem.ClaimJoined
import GoSem.ClaimMapViews
import Derived.JoinedTies
import Derived.KernelRfl
namespace Go.Proofs.Ytdnhgdniaacghaa
/- THE CELL 'sum', in the pinned program and in every row, IS THE sha256 OF THE DUMP (.gsa) THAT YtdnhgdniaacghaaProg.lean LOADS. Nothing in Lean hashes anything: it is a label: what it is worth is what the hold of that sum in a sandbox is worth. -/
noncomputable def Try.pinned : Pinned := { name := "ytdnhgdniaacghaa", sum := "58a3ccbbe474372ac41c98f17409ca24f13f625437af26b148f664f60915a6a0", checked := Try.checked }
namespace Rows
def none {H : Type} : Left H := { results := [], args := [] }

/-- 'laws.FnExactIsChord': WHATEVER THE INPUT: true; the input reads as it did. -/
def fnExactIsChordSpec : ChangeSpec := { name := "fnExactIsChord", fn := fun _ => fun
  | [d] => { results := [.lit (.bool true)], args := [d] }
  | _ => none }
def fnExactIsChordRow : OpenClaim := { program := "ytdnhgdniaacghaa", sum := "58a3ccbbe474372ac41c98f17409ca24f13f625437af26b148f664f60915a6a0", func := "loop.example/g03004/laws.FnExactIsChord", spec := "fnExactIsChord", apart := false }
def FnExactIsChordSaid : Prop := fnExactIsChordRow.holds Try.pinned (OpenSpec.ofChange fnExactIsChordSpec)

/-- ITS FALSE NEIGHBOUR: 'it returns false'. Refute it at one input. -/
def fnExactIsChordWrong : ChangeSpec := { name := "fnExactIsChord", fn := fun _ => fun
  | [d] => { results := [.lit (.bool false)], args := [d] }
  | _ => none }
def FnExactIsChordWrongFalsely : Prop := fnExactIsChordRow.holds Try.pinned (OpenSpec.ofChange fnExactIsChordWrong)

/-- 'laws.FnExactCountPages': WHATEVER THE INPUT: true; the input reads as it did. -/
def fnExactCountPagesSpec : ChangeSpec := { name := "fnExactCountPages", fn := fun _ => fun
  | [d] => { results := [.lit (.bool true)], args := [d] }
  | _ => none }
def fnExactCountPagesRow : OpenClaim := { program := "ytdnhgdniaacghaa", sum := "58a3ccbbe474372ac41c98f17409ca24f13f625437af26b148f664f60915a6a0", func := "loop.example/g03004/laws.FnExactCountPages", spec := "fnExactCountPages", apart := false }
def FnExactCountPagesSaid : Prop := fnExactCountPagesRow.holds Try.pinned (OpenSpec.ofChange fnExactCountPagesSpec)

/-- ITS FALSE NEIGHBOUR: 'it returns false'. Refute it at one input. -/
def fnExactCountPagesWrong : ChangeSpec := { name := "fnExactCountPages", fn := fun _ => fun
  | [d] => { results := [.lit (.bool false)], args := [d] }
  | _ => none }
def FnExactCountPagesWrongFalsely : Prop := fnExactCountPagesRow.holds Try.pinned (OpenSpec.ofChange fnExactCountPagesWrong)

/-- 'laws.FnExactChordText': WHATEVER THE INPUT: true; the input reads as it did. -/
def fnExactChordTextSpec : ChangeSpec := { name := "fnExactChordText", fn := fun _ => fun
  | [d] => { results := [.lit (.bool true)], args := [d] }
  | _ => none }
def fnExactChordTextRow : OpenClaim := { program := "ytdnhgdniaacghaa", sum := "58a3ccbbe474372ac41c98f17409ca24f13f625437af26b148f664f60915a6a0", func := "loop.example/g03004/laws.FnExactChordText", spec := "fnExactChordText", apart := false }
def FnExactChordTextSaid : Prop := fnExactChordTextRow.holds Try.pinned (OpenSpec.ofChange fnExactChordTextSpec)

/-- ITS FALSE NEIGHBOUR: 'it returns false'. Refute it at one input. -/
def fnExactChordTextWrong : ChangeSpec := { name := "fnExactChordText", fn := fun _ => fun
  | [d] => { results := [.lit (.bool false)], args := [d] }
  | _ => none }
def FnExactChordTextWrongFalsely : Prop := fnExactChordTextRow.holds Try.pinned (OpenSpec.ofChange fnExactChordTextWrong)

/-- 'laws.FnExactMoveChord': WHATEVER THE INPUT: true; the input reads as it did. -/
def fnExactMoveChordSpec : ChangeSpec := { name := "fnExactMoveChord", fn := fun _ => fun
  | [d1, d2] => { results := [.lit (.bool true)], args := [d1, d2] }
  | _ => none }
def fnExactMoveChordRow : OpenClaim := { program := "ytdnhgdniaacghaa", sum := "58a3ccbbe474372ac41c98f17409ca24f13f625437af26b148f664f60915a6a0", func := "loop.example/g03004/laws.FnExactMoveChord", spec := "fnExactMoveChord", apart := false }
def FnExactMoveChordSaid : Prop := fnExactMoveChordRow.holds Try.pinned (OpenSpec.ofChange fnExactMoveChordSpec)

/-- ITS FALSE NEIGHBOUR: 'it returns false'. Refute it at one input. -/
def fnExactMoveChordWrong : ChangeSpec := { name := "fnExactMoveChord", fn := fun _ => fun
  | [d1, d2] => { results := [.lit (.bool false)], args := [d1, d2] }
  | _ => none }
def FnExactMoveChordWrongFalsely : Prop := fnExactMoveChordRow.holds Try.pinned (OpenSpec.ofChange fnExactMoveChordWrong)

/-- 'laws.FnExactArePoints': WHATEVER THE INPUT: true; the input reads as it did. -/
def fnExactArePointsSpec : ChangeSpec := { name := "fnExactArePoints", fn := fun _ => fun
  | [d] => { results := [.lit (.bool true)], args := [d] }
  | _ => none }
def fnExactArePointsRow : OpenClaim := { program := "ytdnhgdniaacghaa", sum := "58a3ccbbe474372ac41c98f17409ca24f13f625437af26b148f664f60915a6a0", func := "loop.example/g03004/laws.FnExactArePoints", spec := "fnExactArePoints", apart := false }
def FnExactArePointsSaid : Prop := fnExactArePointsRow.holds Try.pinned (OpenSpec.ofChange fnExactArePointsSpec)

/-- ITS FALSE NEIGHBOUR: 'it returns false'. Refute it at one input. -/
def fnExactArePointsWrong : ChangeSpec := { name := "fnExactArePoints", fn := fun _ => fun
  | [d] => { results := [.lit (.bool false)], args := [d] }
  | _ => none }
def FnExactArePointsWrongFalsely : Prop := fnExactArePointsRow.holds Try.pinned (OpenSpec.ofChange fnExactArePointsWrong)

/-- 'laws.FnExactCommonLength': WHATEVER THE INPUT: true; the input reads as it did. -/
def fnExactCommonLengthSpec : ChangeSpec := { name := "fnExactCommonLength", fn := fun _ => fun
  | [d1, d2] => { results := [.lit (.bool true)], args := [d1, d2] }
  | _ => none }
def fnExactCommonLengthRow : OpenClaim := { program := "ytdnhgdniaacghaa", sum := "58a3ccbbe474372ac41c98f17409ca24f13f625437af26b148f664f60915a6a0", func := "loop.example/g03004/laws.FnExactCommonLength", spec := "fnExactCommonLength", apart := false }
def FnExactCommonLengthSaid : Prop := fnExactCommonLengthRow.holds Try.pinned (OpenSpec.ofChange fnExactCommonLengthSpec)

/-- ITS FALSE NEIGHBOUR: 'it returns false'. Refute it at one input. -/
def fnExactCommonLengthWrong : ChangeSpec := { name := "fnExactCommonLength", fn := fun _ => fun
  | [d1, d2] => { results := [.lit (.bool false)], args := [d1, d2] }
  | _ => none }
def FnExactCommonLengthWrongFalsely : Prop := fnExactCommonLengthRow.holds Try.pinned (OpenSpec.ofChange fnExactCommonLengthWrong)

/- THE SECOND FORM. 'bulk': how many values and letters a reading holds, each counted each time it is reached (what is shared counts as often as it is met; a slice's spare places count too). A statement '..UptoSaid' is the law's where the arguments, and the package variables that the reading takes, are together of bulk at most 1048576: NARROWER than '..Said'. Prove '..Said' where nothing that the law and all that it calls make is longer than what came in: it says more and counts as full. Else prove '..UptoSaid'. A law counts once. -/
mutual
def uptoBulk {H : Type} : DataW H → Nat
  | .lit (.string bytes) => bytes.length + 1
  | .lit _ => 1
  | .nil => 1
  | .ptr d => uptoBulk d + 1
  | .slice elems spare => uptoBulkAll elems + uptoBulkAll spare + 1
  | .agg parts => uptoBulkAll parts + 1
  | .iface _ d => uptoBulk d + 1
  | .map entries => uptoBulkEntries entries + 1
  | .held _ => 1
def uptoBulkAll {H : Type} : List (DataW H) → Nat
  | [] => 0
  | d :: r => uptoBulk d + uptoBulkAll r
def uptoBulkEntries {H : Type} : List (Lit × DataW H) → Nat
  | [] => 0
  | x :: r => uptoBulkEntry x + uptoBulkEntries r
def uptoBulkEntry {H : Type} : Lit × DataW H → Nat
  | (.string bytes, d) => bytes.length + uptoBulk d + 1
  | (_, d) => uptoBulk d + 1
 end
def uptoSmall : (H : Type) → List (DataW H) → Bool := fun _ ds => decide (uptoBulkAll ds ≤ 1048576)
def OpenSpec.upto (s : _root_.Go.ChangeSpec) : _root_.Go.OpenSpec := { _root_.Go.OpenSpec.ofChange s with cond := some uptoSmall }

/-- 'laws.FnExactIsChord', WHERE WHAT IT READS IS OF BULK AT MOST 1048576: true; the input reads as it did. -/
def fnExactIsChordUptoRow : OpenClaim := { program := "ytdnhgdniaacghaa", sum := "58a3ccbbe474372ac41c98f17409ca24f13f625437af26b148f664f60915a6a0", func := "loop.example/g03004/laws.FnExactIsChord", spec := "fnExactIsChord", apart := false, narrowed := true }
def FnExactIsChordUptoSaid : Prop := fnExactIsChordUptoRow.holds Try.pinned (OpenSpec.upto fnExactIsChordSpec)

/-- 'laws.FnExactCountPages', WHERE WHAT IT READS IS OF BULK AT MOST 1048576: true; the input reads as it did. -/
def fnExactCountPagesUptoRow : OpenClaim := { program := "ytdnhgdniaacghaa", sum := "58a3ccbbe474372ac41c98f17409ca24f13f625437af26b148f664f60915a6a0", func := "loop.example/g03004/laws.FnExactCountPages", spec := "fnExactCountPages", apart := false, narrowed := true }
def FnExactCountPagesUptoSaid : Prop := fnExactCountPagesUptoRow.holds Try.pinned (OpenSpec.upto fnExactCountPagesSpec)

/-- 'laws.FnExactChordText', WHERE WHAT IT READS IS OF BULK AT MOST 1048576: true; the input reads as it did. -/
def fnExactChordTextUptoRow : OpenClaim := { program := "ytdnhgdniaacghaa", sum := "58a3ccbbe474372ac41c98f17409ca24f13f625437af26b148f664f60915a6a0", func := "loop.example/g03004/laws.FnExactChordText", spec := "fnExactChordText", apart := false, narrowed := true }
def FnExactChordTextUptoSaid : Prop := fnExactChordTextUptoRow.holds Try.pinned (OpenSpec.upto fnExactChordTextSpec)

/-- 'laws.FnExactMoveChord', WHERE WHAT IT READS IS OF BULK AT MOST 1048576: true; the input reads as it did. -/
def fnExactMoveChordUptoRow : OpenClaim := { program := "ytdnhgdniaacghaa", sum := "58a3ccbbe474372ac41c98f17409ca24f13f625437af26b148f664f60915a6a0", func := "loop.example/g03004/laws.FnExactMoveChord", spec := "fnExactMoveChord", apart := false, narrowed := true }
def FnExactMoveChordUptoSaid : Prop := fnExactMoveChordUptoRow.holds Try.pinned (OpenSpec.upto fnExactMoveChordSpec)

/-- 'laws.FnExactArePoints', WHERE WHAT IT READS IS OF BULK AT MOST 1048576: true; the input reads as it did. -/
def fnExactArePointsUptoRow : OpenClaim := { program := "ytdnhgdniaacghaa", sum := "58a3ccbbe474372ac41c98f17409ca24f13f625437af26b148f664f60915a6a0", func := "loop.example/g03004/laws.FnExactArePoints", spec := "fnExactArePoints", apart := false, narrowed := true }
def FnExactArePointsUptoSaid : Prop := fnExactArePointsUptoRow.holds Try.pinned (OpenSpec.upto fnExactArePointsSpec)

/-- 'laws.FnExactCommonLength', WHERE WHAT IT READS IS OF BULK AT MOST 1048576: true; the input reads as it did. -/
def fnExactCommonLengthUptoRow : OpenClaim := { program := "ytdnhgdniaacghaa", sum := "58a3ccbbe474372ac41c98f17409ca24f13f625437af26b148f664f60915a6a0", func := "loop.example/g03004/laws.FnExactCommonLength", spec := "fnExactCommonLength", apart := false, narrowed := true }
def FnExactCommonLengthUptoSaid : Prop := fnExactCommonLengthUptoRow.holds Try.pinned (OpenSpec.upto fnExactCommonLengthSpec)

end Rows
end Go.Proofs.Ytdnhgdniaacghaa
