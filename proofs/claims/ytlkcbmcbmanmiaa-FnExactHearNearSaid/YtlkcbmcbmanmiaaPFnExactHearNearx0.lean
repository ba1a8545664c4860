-- Written for this claim by a program of this repository (wip/tools/print2.py), out of the translation; Lean checks it.
import Derived.Test.YtlkcbmcbmanmiaaProg
import Derived.Below
import Derived.Deep.Draws
import Derived.Deep.AppendLies
import Derived.Maps.AppendAt
import Derived.OwnWalk
import Derived.Laws.BytesArg
import Derived.Laws.MakeOwn
import Derived.Laws.OwnMore
import Derived.Deep.OwnRows
import Derived.Tactics
import Derived.Lib.ConvBytes
import Derived.Laws.Slices
import Derived.WalkKit
import Derived.KernelRfl
import Derived.RowKit3
import Derived.Deep.LoopGhost
import Derived.Deep.QuietTactic
import Derived.BigQuiet
import Derived.WideLaws
import Derived.Deep.DeepCutAuto
import Derived.Deep.CutBlock
import Derived.Deep.RegionHeld3
import Derived.Laws.Rows
import Derived.Lib.AppendStr
import Derived.ArgAppend
import Derived.Laws.IdiomCopy
import Derived.OrdersHeld
import Derived.Laws.BitsLemmas
import Derived.RowKit
import Derived.Test.YtlkcbmcbmanmiaaLayMul
import Derived.Test.YtlkcbmcbmanmiaaRepeat
import Derived.Test.YtlkcbmcbmanmiaaLayContainsFunc
import Derived.Test.YtlkcbmcbmanmiaaWWords
import Derived.Test.YtlkcbmcbmanmiaaWLast
import Derived.Test.YtlkcbmcbmanmiaaWTab
import Derived.Test.YtlkcbmcbmanmiaaWFour
import Derived.Test.YtlkcbmcbmanmiaaWQPut
import Derived.Test.YtlkcbmcbmanmiaaWApart
import Derived.Test.YtlkcbmcbmanmiaaWArr
import Derived.Test.YtlkcbmcbmanmiaaWZeros
import Derived.Test.YtlkcbmcbmanmiaaWFoot
import Derived.Test.YtlkcbmcbmanmiaaWKept
import Derived.Test.YtlkcbmcbmanmiaaWShare
import Derived.Test.YtlkcbmcbmanmiaaWN
import Derived.Test.YtlkcbmcbmanmiaaWFootNe
import Derived.Test.YtlkcbmcbmanmiaaWAt
import Derived.Test.YtlkcbmcbmanmiaaWEqStruct
import Derived.Test.YtlkcbmcbmanmiaaWRepsOne
import Derived.Test.YtlkcbmcbmanmiaaWInv
import Derived.Test.YtlkcbmcbmanmiaaWInvWords
import Derived.Test.YtlkcbmcbmanmiaaWGuard
import Derived.Test.YtlkcbmcbmanmiaaWNEv
import Derived.Test.YtlkcbmcbmanmiaaWMore
namespace Go.Proofs.Ytlkcbmcbmanmiaa.PFnExactHearNear
open Go.RowKit Go.Proofs.YtlkcbmcbmanmiaaW.PrintWords Go.Proofs.YtlkcbmcbmanmiaaW.PrintLast Go.Proofs.YtlkcbmcbmanmiaaW.PrintMore
attribute [local go_sem] max2_int min2_int max_two min_two max_three min_three max_four min_four   -- for this text's walks alone
set_option linter.unusedVariables false
set_option linter.unusedSimpArgs false



def errW : Option Int → Value
  | none => .nilIface
  | some c => .iface 0 (.int .i64 c)
theorem errW_none : errW none = .nilIface := rfl
theorem errW_some (c : Int) : errW (some c) = .iface 0 (.int .i64 c) := rfl

theorem info3 : (Try.prog.info? 3).map (fun i => (i.zero, i.size, i.bytes)) = some (some (.int .i64 0), 1, 8) := by kernel_rfl
-- the values' own types

theorem ra {p q : Prop} (h : q) (f : q → p := by intro h_; (with_reducible repeat (first | apply Kd.R_alloc | apply Kd.R_drewN | apply Kd.R_drew)); exact h_) : p := f h
theorem ba {p q : Prop} (h : q) (f : q → p := by intro h_; (with_reducible repeat (first | refine blk_drewN ?_ _ | refine blk_drew ?_ | refine blk_alloc ?_ _)); exact h_) : p := f h
def bqL (n : Nat) : Nat → List Bool
  | 0 => []
  | k + 1 => (n % 2 == 1) :: bqL (n / 2) k
def bq (n k : Nat) : Array Bool := ⟨bqL n k⟩
theorem pb {p : Prop} (f : p := by simp only [Act.put, List.setIfInBounds_toArray, List.set_cons_zero, List.set_cons_succ, i64_w, i32_w]; rfl) : p := f
theorem pa {p : Prop} (f : p := by first | (simp only [putAll, Act.put, List.setIfInBounds_toArray, List.set_cons_zero, List.set_cons_succ]; done) | (simp only [putAll, Act.put, List.setIfInBounds_toArray, List.set_cons_zero, List.set_cons_succ]; rfl)) : p := f
theorem ma {p : Prop} (f : p := by (try simp only [List.map_toArray, List.map_cons, List.map_nil]); first | done | rfl | (simp only [List.length_drop, List.length_take]; rfl)) : p := f
theorem ca {p q : Prop} (h : q) (f : q → p := by intro h_; repeat (first | exact h_ | (with_reducible refine Kd.C_alloc ?_ _) | (with_reducible refine Kd.C_drewN ?_ _) | (with_reducible refine Kd.C_drew ?_))) : p := f h
theorem bb {w w1 : World} {g : Nat} {o : Obj} {q : Prop} (h : q) (hb : Below w.heap.size w w1) (f : q → w.heap[g]? = some o := by intro h_; (with_reducible repeat (first | refine blk_drewN ?_ _ | refine blk_drew ?_ | refine blk_alloc ?_ _)); exact h_) : w1.heap[g]? = some o := blk_below (f h) hb
theorem bl {w : World} {g : Nat} {o : Obj} {q : Prop} (h : q) (f : q → w.heap[g]? = some o := by intro h_; (with_reducible repeat (first | refine blk_drewN ?_ _ | refine blk_drew ?_ | refine blk_alloc ?_ _)); exact h_) : g < w.heap.size := blk_lt (f h)
theorem pq {P Q : Prop} (h : P) (f : P → Q := by intro h_; (try dsimp only at h_); (try dsimp only); simp only [h_, ne_eq, not_false_eq_true]) : Q := f h
theorem pk {P Q : Nat → Prop} (f : ∀ k_, P k_ → Q k_ := by intro k_ h_; (try dsimp only at h_); (try dsimp only); (repeat' (apply And.intro)) <;> simp only [h_, ne_eq, not_false_eq_true, and_self]) : ∀ k_, P k_ → Q k_ := f
end Go.Proofs.Ytlkcbmcbmanmiaa.PFnExactHearNear
