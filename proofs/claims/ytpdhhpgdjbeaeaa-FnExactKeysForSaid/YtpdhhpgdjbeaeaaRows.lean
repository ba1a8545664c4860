/-
  No cell of these rows narrows 'for every input' (looked for: loops, veiled, ifaces, maps, wideKeys, modest, calm, conditions, laid).
  DERIVED. THE GIVEN ROWS OF THIS SEAT. 6 by the template 'for every input the law returns true; each argument reads behind the call as it read before'; 0 by the template 'total and deterministic' (their statements: YtpdhhpgdjbeaeaaTotals.lean).
  GIVEN WITH THE SEED: the statements are not yours to turn. If you find one false, say at which input.
  Laid BY PROGRAM, IN A SANDBOX (cutbox-rows.mjs): the forced cells as the released guide's own fill.sh prints them over the translation ca9d6079a9d112de… (all of the seat's roots in one cut). By AI agents, Wed Nov 11 2026. No macro, syntax, notation, axiom, sorry.
-/
import Derived.Test.YtpdhhpgdjbeaeaaChecked
import GoSem.Claim
import GoSem.ClaimJoined
import GoSem.ClaimMapViews
import Derived.JoinedTies
import Derived.KernelRfl
namespace Go.Proofs.Ytpdhhpgdjbeaeaa
/- THE CELL 'sum', in the pinned program and in every row, IS THE sha256 OF THE DUMP (.gsa) THAT YtpdhhpgdjbeaeaaProg.lean LOADS. Nothing in Lean hashes anything: it is a label: what it is worth is what the hold of that sum in a sandbox is worth. -/
noncomputable def Try.pinned : Pinned := { name := "ytpdhhpgdjbeaeaa", sum := "ca9d6079a9d112deafee30be183510ea4406013dd7422b22948c95a7b24f0584", checked := Try.checked }
namespace Rows
def none {H : Type} : Left H := { results := [], args := [] }

/-- 'laws.FnExactClassesOf': WHATEVER THE INPUT: true; the input reads as it did. -/
def fnExactClassesOfSpec : ChangeSpec := { name := "fnExactClassesOf", fn := fun _ => fun
  | [d] => { results := [.lit (.bool true)], args := [d] }
  | _ => none }
def fnExactClassesOfRow : OpenClaim := { program := "ytpdhhpgdjbeaeaa", sum := "ca9d6079a9d112deafee30be183510ea4406013dd7422b22948c95a7b24f0584", func := "loop.example/g03004/laws.FnExactClassesOf", spec := "fnExactClassesOf", recurses := true, apart := false }
def FnExactClassesOfSaid : Prop := fnExactClassesOfRow.holds Try.pinned (OpenSpec.ofChange fnExactClassesOfSpec)

/-- ITS FALSE NEIGHBOUR: 'it returns false'. Refute it at one input. -/
def fnExactClassesOfWrong : ChangeSpec := { name := "fnExactClassesOf", fn := fun _ => fun
  | [d] => { results := [.lit (.bool false)], args := [d] }
  | _ => none }
def FnExactClassesOfWrongFalsely : Prop := fnExactClassesOfRow.holds Try.pinned (OpenSpec.ofChange fnExactClassesOfWrong)

/-- 'laws.FnExactTonesOf': WHATEVER THE INPUT: true; the input reads as it did. -/
def fnExactTonesOfSpec : ChangeSpec := { name := "fnExactTonesOf", fn := fun _ => fun
  | [d] => { results := [.lit (.bool true)], args := [d] }
  | _ => none }
def fnExactTonesOfRow : OpenClaim := { program := "ytpdhhpgdjbeaeaa", sum := "ca9d6079a9d112deafee30be183510ea4406013dd7422b22948c95a7b24f0584", func := "loop.example/g03004/laws.FnExactTonesOf", spec := "fnExactTonesOf", recurses := true, apart := false }
def FnExactTonesOfSaid : Prop := fnExactTonesOfRow.holds Try.pinned (OpenSpec.ofChange fnExactTonesOfSpec)

/-- ITS FALSE NEIGHBOUR: 'it returns false'. Refute it at one input. -/
def fnExactTonesOfWrong : ChangeSpec := { name := "fnExactTonesOf", fn := fun _ => fun
  | [d] => { results := [.lit (.bool false)], args := [d] }
  | _ => none }
def FnExactTonesOfWrongFalsely : Prop := fnExactTonesOfRow.holds Try.pinned (OpenSpec.ofChange fnExactTonesOfWrong)

/-- 'laws.FnExactChordOf': WHATEVER THE INPUT: true; the input reads as it did. -/
def fnExactChordOfSpec : ChangeSpec := { name := "fnExactChordOf", fn := fun _ => fun
  | [d] => { results := [.lit (.bool true)], args := [d] }
  | _ => none }
def fnExactChordOfRow : OpenClaim := { program := "ytpdhhpgdjbeaeaa", sum := "ca9d6079a9d112deafee30be183510ea4406013dd7422b22948c95a7b24f0584", func := "loop.example/g03004/laws.FnExactChordOf", spec := "fnExactChordOf", recurses := true, apart := false }
def FnExactChordOfSaid : Prop := fnExactChordOfRow.holds Try.pinned (OpenSpec.ofChange fnExactChordOfSpec)

/-- ITS FALSE NEIGHBOUR: 'it returns false'. Refute it at one input. -/
def fnExactChordOfWrong : ChangeSpec := { name := "fnExactChordOf", fn := fun _ => fun
  | [d] => { results := [.lit (.bool false)], args := [d] }
  | _ => none }
def FnExactChordOfWrongFalsely : Prop := fnExactChordOfRow.holds Try.pinned (OpenSpec.ofChange fnExactChordOfWrong)

/-- 'laws.FnExactIsOfKey': WHATEVER THE INPUT: true; the input reads as it did. -/
def fnExactIsOfKeySpec : ChangeSpec := { name := "fnExactIsOfKey", fn := fun _ => fun
  | [d1, d2] => { results := [.lit (.bool true)], args := [d1, d2] }
  | _ => none }
def fnExactIsOfKeyRow : OpenClaim := { program := "ytpdhhpgdjbeaeaa", sum := "ca9d6079a9d112deafee30be183510ea4406013dd7422b22948c95a7b24f0584", func := "loop.example/g03004/laws.FnExactIsOfKey", spec := "fnExactIsOfKey", unfollowed := true, recurses := true, apart := false }
def FnExactIsOfKeySaid : Prop := fnExactIsOfKeyRow.holds Try.pinned (OpenSpec.ofChange fnExactIsOfKeySpec)

/-- ITS FALSE NEIGHBOUR: 'it returns false'. Refute it at one input. -/
def fnExactIsOfKeyWrong : ChangeSpec := { name := "fnExactIsOfKey", fn := fun _ => fun
  | [d1, d2] => { results := [.lit (.bool false)], args := [d1, d2] }
  | _ => none }
def FnExactIsOfKeyWrongFalsely : Prop := fnExactIsOfKeyRow.holds Try.pinned (OpenSpec.ofChange fnExactIsOfKeyWrong)

/-- 'laws.FnExactKeysFor': WHATEVER THE INPUT: true; the input reads as it did. -/
def fnExactKeysForSpec : ChangeSpec := { name := "fnExactKeysFor", fn := fun _ => fun
  | [d] => { results := [.lit (.bool true)], args := [d] }
  | _ => none }
def fnExactKeysForRow : OpenClaim := { program := "ytpdhhpgdjbeaeaa", sum := "ca9d6079a9d112deafee30be183510ea4406013dd7422b22948c95a7b24f0584", func := "loop.example/g03004/laws.FnExactKeysFor", spec := "fnExactKeysFor", unfollowed := true, recurses := true, apart := false }
def FnExactKeysForSaid : Prop := fnExactKeysForRow.holds Try.pinned (OpenSpec.ofChange fnExactKeysForSpec)

/-- ITS FALSE NEIGHBOUR: 'it returns false'. Refute it at one input. -/
def fnExactKeysForWrong : ChangeSpec := { name := "fnExactKeysFor", fn := fun _ => fun
  | [d] => { results := [.lit (.bool false)], args := [d] }
  | _ => none }
def FnExactKeysForWrongFalsely : Prop := fnExactKeysForRow.holds Try.pinned (OpenSpec.ofChange fnExactKeysForWrong)

/-- 'laws.FnExactChordAt': WHATEVER THE INPUT: true; the input reads as it did. -/
def fnExactChordAtSpec : ChangeSpec := { name := "fnExactChordAt", fn := fun _ => fun
  | [d1, d2] => { results := [.lit (.bool true)], args := [d1, d2] }
  | _ => none }
def fnExactChordAtRow : OpenClaim := { program := "ytpdhhpgdjbeaeaa", sum := "ca9d6079a9d112deafee30be183510ea4406013dd7422b22948c95a7b24f0584", func := "loop.example/g03004/laws.FnExactChordAt", spec := "fnExactChordAt", recurses := true, apart := false }
def FnExactChordAtSaid : Prop := fnExactChordAtRow.holds Try.pinned (OpenSpec.ofChange fnExactChordAtSpec)

/-- ITS FALSE NEIGHBOUR: 'it returns false'. Refute it at one input. -/
def fnExactChordAtWrong : ChangeSpec := { name := "fnExactChordAt", fn := fun _ => fun
  | [d1, d2] => { results := [.lit (.bool false)], args := [d1, d2] }
  | _ => none }
def FnExactChordAtWrongFalsely : Prop := fnExactChordAtRow.holds Try.pinned (OpenSpec.ofChange fnExactChordAtWrong)

/- THE SECOND FORM. 'bulk': how many values and letters a reading holds, each counted each time it is reached (what is shared counts as often as it is met; a slice's spare places count too). A statement '..UptoSaid' is the law's where the arguments, and the package variables that the reading takes, are together of bulk at most 1048576: NARROWER than '..Said'. Prove '..Said' where nothing that the law and all that it calls make is longer than what came in: it says more and counts as full. Else prove '..UptoSaid'. A law counts once. -/
mutual
def uptoBulk {H : Type} : DataW H → Nat
  | .lit (.string bytes) => bytes.length + 1
  | .lit _ => 1
  | .nil => 1
  | .ptr d => uptoBulk d + 1
  | .slice elems spare => uptoBulkAll elems + uptoBulkAll spare + 1
  | .agg parts => uptoBulkAll parts + 1
  | .iface _ d => uptoBulk d + 1
  | .map entries => uptoBulkEntries entries + 1
  | .held _ => 1
def uptoBulkAll {H : Type} : List (DataW H) → Nat
  | [] => 0
  | d :: r => uptoBulk d + uptoBulkAll r
def uptoBulkEntries {H : Type} : List (Lit × DataW H) → Nat
  | [] => 0
  | x :: r => uptoBulkEntry x + uptoBulkEntries r
def uptoBulkEntry {H : Type} : Lit × DataW H → Nat
  | (.string bytes, d) => bytes.length + uptoBulk d + 1
  | (_, d) => uptoBulk d + 1
 end
def uptoSmall : (H : Type) → List (DataW H) → Bool := fun _ ds => decide (uptoBulkAll ds ≤ 1048576)
def OpenSpec.upto (s : _root_.Go.ChangeSpec) : _root_.Go.OpenSpec := { _root_.Go.OpenSpec.ofChange s with cond := some uptoSmall }

/-- 'laws.FnExactClassesOf', WHERE WHAT IT READS IS OF BULK AT MOST 1048576: true; the input reads as it did. -/
def fnExactClassesOfUptoRow : OpenClaim := { program := "ytpdhhpgdjbeaeaa", sum := "ca9d6079a9d112deafee30be183510ea4406013dd7422b22948c95a7b24f0584", func := "loop.example/g03004/laws.FnExactClassesOf", spec := "fnExactClassesOf", recurses := true, apart := false, narrowed := true }
def FnExactClassesOfUptoSaid : Prop := fnExactClassesOfUptoRow.holds Try.pinned (OpenSpec.upto fnExactClassesOfSpec)

/-- 'laws.FnExactTonesOf', WHERE WHAT IT READS IS OF BULK AT MOST 1048576: true; the input reads as it did. -/
def fnExactTonesOfUptoRow : OpenClaim := { program := "ytpdhhpgdjbeaeaa", sum := "ca9d6079a9d112deafee30be183510ea4406013dd7422b22948c95a7b24f0584", func := "loop.example/g03004/laws.FnExactTonesOf", spec := "fnExactTonesOf", recurses := true, apart := false, narrowed := true }
def FnExactTonesOfUptoSaid : Prop := fnExactTonesOfUptoRow.holds Try.pinned (OpenSpec.upto fnExactTonesOfSpec)

/-- 'laws.FnExactChordOf', WHERE WHAT IT READS IS OF BULK AT MOST 1048576: true; the input reads as it did. -/
def fnExactChordOfUptoRow : OpenClaim := { program := "ytpdhhpgdjbeaeaa", sum := "ca9d6079a9d112deafee30be183510ea4406013dd7422b22948c95a7b24f0584", func := "loop.example/g03004/laws.FnExactChordOf", spec := "fnExactChordOf", recurses := true, apart := false, narrowed := true }
def FnExactChordOfUptoSaid : Prop := fnExactChordOfUptoRow.holds Try.pinned (OpenSpec.upto fnExactChordOfSpec)

/-- 'laws.FnExactIsOfKey', WHERE WHAT IT READS IS OF BULK AT MOST 1048576: true; the input reads as it did. -/
def fnExactIsOfKeyUptoRow : OpenClaim := { program := "ytpdhhpgdjbeaeaa", sum := "ca9d6079a9d112deafee30be183510ea4406013dd7422b22948c95a7b24f0584", func := "loop.example/g03004/laws.FnExactIsOfKey", spec := "fnExactIsOfKey", unfollowed := true, recurses := true, apart := false, narrowed := true }
def FnExactIsOfKeyUptoSaid : Prop := fnExactIsOfKeyUptoRow.holds Try.pinned (OpenSpec.upto fnExactIsOfKeySpec)

/-- 'laws.FnExactKeysFor', WHERE WHAT IT READS IS OF BULK AT MOST 1048576: true; the input reads as it did. -/
def fnExactKeysForUptoRow : OpenClaim := { program := "ytpdhhpgdjbeaeaa", sum := "ca9d6079a9d112deafee30be183510ea4406013dd7422b22948c95a7b24f0584", func := "loop.example/g03004/laws.FnExactKeysFor", spec := "fnExactKeysFor", unfollowed := true, recurses := true, apart := false, narrowed := true }
def FnExactKeysForUptoSaid : Prop := fnExactKeysForUptoRow.holds Try.pinned (OpenSpec.upto fnExactKeysForSpec)

/-- 'laws.FnExactChordAt', WHERE WHAT IT READS IS OF BULK AT MOST 1048576: true; the input reads as it did. -/
def fnExactChordAtUptoRow : OpenClaim := { program := "ytpdhhpgdjbeaeaa", sum := "ca9d6079a9d112deafee30be183510ea4406013dd7422b22948c95a7b24f0584", func := "loop.example/g03004/laws.FnExactChordAt", spec := "fnExactChordAt", recurses := true, apart := false, narrowed := true }
def FnExactChordAtUptoSaid : Prop := fnExactChordAtUptoRow.holds Try.pinned (OpenSpec.upto fnExactChordAtSpec)

end Rows
end Go.Proofs.Ytpdhhpgdjbeaeaa
