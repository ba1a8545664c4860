-- Written for this claim by a program of this repository (wip/tools/print2.py), out of the translation; Lean checks it.
import Derived.Test.YtlkicjkoejpmbaaPFnCadencesx0
import Derived.Test.YtlkicjkoejpmbaaPFnCadencesx1
import Derived.Test.YtlkicjkoejpmbaaPFnCadencesx3
import Derived.Test.YtlkicjkoejpmbaaPFnCadencesx4
import Derived.Test.YtlkicjkoejpmbaaPFnCadencesx5
import Derived.Test.YtlkicjkoejpmbaaPFnCadencesx6
import Derived.Test.YtlkicjkoejpmbaaPFnCadencesx7
import Derived.Test.YtlkicjkoejpmbaaPFnCadencesx8
namespace Go.Proofs.Ytlkicjkoejpmbaa.PFnCadences
open Go.RowKit Go.Proofs.YtlkicjkoejpmbaaW.PrintWords Go.Proofs.YtlkicjkoejpmbaaW.PrintLast Go.Proofs.YtlkicjkoejpmbaaW.PrintMore
attribute [local go_sem] max2_int min2_int max_two min_two max_three min_three max_four min_four   -- for this text's walks alone
set_option linter.unusedVariables false
set_option linter.unusedSimpArgs false
-- SHORT
theorem hbz_9 {p : Prop} (f : p := by repeat (first | (with_reducible first | exact HB.out | apply below_alloc | apply pw_below_drewN | apply below_drew1) | exact HB.out)) : p := f
theorem qv_9 {p : Prop} (f : p := by repeat (first | (with_reducible first | exact HB.out | apply below_alloc | apply pw_below_drewN | apply below_drew1 | refine below_set ?_ z07.out) | exact HB.out)) : p := f
theorem q3_9 {p : Prop} (f : p := by repeat (first | (with_reducible first | exact HB.out | apply below_alloc | apply pw_below_drewN | apply below_drew1 | refine below_set ?_ z07.out | refine below_set ?_ z08.out) | exact HB.out)) : p := f
theorem qf_9 {p : Prop} (f : p := by repeat (first | (with_reducible first | exact HB.out | apply below_alloc | apply pw_below_drewN | apply below_drew1 | refine below_set ?_ z07.out | refine below_set ?_ z08.out | refine below_set ?_ z09.out) | exact HB.out)) : p := f
theorem q5_9 {p : Prop} (f : p := by repeat (first | (with_reducible first | exact HB.out | apply below_alloc | apply pw_below_drewN | apply below_drew1 | refine below_set ?_ z07.out | refine below_set ?_ z08.out | refine below_set ?_ z09.out | refine below_set ?_ z0a.out) | exact HB.out)) : p := f
theorem q0_9 {p : Prop} (h : p) : Aside0 p := ⟨h⟩
/-! ### laws_FnCadences: function 3 -/
mutual
def laws_FnCadences.j0 : Nat → List Int → Int → ByteArray → Bool → Int → Int → Int → Int → Option (Bool)
 | 0, _, _, _, _, _, _, _, _ => none
 | k + 1, x0, x3, x6, x42, x402000, x402001, x403000, x403001 => if x42 = true then ((impl_MoveChord.f x402000 x402001 7).bind fun bt405 => ((impl_MoveChord.f x403000 x403001 7).bind fun bt409 => (if bt405.2.2 = true then (if bt409.2.2 = true then ((impl_CadenceOf.f k (wrap64 (x3 + 1)) bt405.1 bt405.2.1 bt409.1 bt409.2.1).bind fun t413 => (laws_FnCadences.j1 k x0 x3 bt405.2.2 (t413.toList != x6.toList) x402000 x402001 bt405.1 bt405.2.1)) else (laws_FnCadences.j1 k x0 x3 bt405.2.2 false x402000 x402001 bt405.1 bt405.2.1)) else (laws_FnCadences.j1 k x0 x3 bt405.2.2 false x402000 x402001 bt405.1 bt405.2.1)))) else (laws_FnCadences.j2 k x0)
def laws_FnCadences.j2 : Nat → List Int → Option (Bool)
 | 0, _ => none
 | k + 1, x0 => (spec_DrawPhrasesOf.f k x0).bind fun bt418 => ((impl_PhrasesOf.f k bt418.1 bt418.2).bind fun t422 => (laws_FnCadences.l0 k x0 bt418.1 bt418.2 t422 0))
def laws_FnCadences.l0 : Nat → List Int → Int → List (S25) → List Int → Int → Option (Bool)
 | 0, _, _, _, _, _ => none
 | k + 1, x0, x11, x12, x13, x14 => if x14 < (x13.length : Int) then (if 0 ≤ x14 then (if (rd x13 x14) < 1 then (some false) else (if (rd x13 x14) ≥ (x12.length : Int) then (some false) else (if 0 ≤ (rd x13 x14) then (if (rd x13 x14) < (x12.length : Int) then ((impl_DegreeOf.f k x11 ((rd_T25 x12 (rd x13 x14)).f0) ((rd_T25 x12 (rd x13 x14)).f1)).bind fun t429 => (if t429 = 1 then (laws_FnCadences.l0 k x0 x11 x12 x13 (wrap64 (x14 + 1))) else (some false))) else (none)) else (none)))) else (none)) else ((spec_DrawKeysFor.f k x0).bind fun t430 => ((impl_KeysFor.f k t430).bind fun t433 => (laws_FnCadences.l1 k x13 t430 t433 0)))
def laws_FnCadences.l1 : Nat → List Int → List (S25) → List Int → Int → Option (Bool)
 | 0, _, _, _, _ => none
 | k + 1, x13, x15, x16, x17 => if x17 < (x16.length : Int) then (laws_FnCadences.l2 k x13 x15 x16 x17 0) else ((laws_ascends.f k x13).bind fun t436 => (if t436 = true then ((laws_ascends.f k x16).bind fun t437 => (some t437)) else (some false)))
def laws_FnCadences.l2 : Nat → List Int → List (S25) → List Int → Int → Int → Option (Bool)
 | 0, _, _, _, _, _ => none
 | k + 1, x13, x15, x16, x17, x18 => if x18 < (x15.length : Int) then (if 0 ≤ x17 then (if x17 < (x16.length : Int) then (if 0 ≤ x18 then ((impl_IsOfKey.f k (rd x16 x17) ((rd_T25 x15 x18).f0) ((rd_T25 x15 x18).f1)).bind fun t440 => (if t440 = true then (laws_FnCadences.l2 k x13 x15 x16 x17 (wrap64 (x18 + 1))) else (some false))) else (none)) else (none)) else (none)) else (laws_FnCadences.l1 k x13 x15 x16 (wrap64 (x17 + 1)))
def laws_FnCadences.j1 : Nat → List Int → Int → Bool → Bool → Int → Int → Int → Int → Option (Bool)
 | 0, _, _, _, _, _, _, _, _ => none
 | k + 1, x0, x3, x8, x65, x402000, x402001, x409000, x409001 => if x65 = true then (some false) else (if x8 = true then ((impl_IsOfKey.f k (wrap64 (x3 + 1)) x409000 x409001).bind fun t414 => ((impl_IsOfKey.f k x3 x402000 x402001).bind fun t415 => (if (t414 != t415) = true then (some false) else ((impl_DegreeOf.f k (wrap64 (x3 + 1)) x409000 x409001).bind fun t416 => ((impl_DegreeOf.f k x3 x402000 x402001).bind fun t417 => (if t416 = t417 then (laws_FnCadences.j2 k x0) else (some false))))))) else (laws_FnCadences.j2 k x0))
end
def laws_FnCadences.f (k : Nat) (l0 : List Int) : Option (Bool) := (laws_big.f l0).bind fun t395 => (if t395 = true then (some true) else ((spec_DrawCadenceOf.f k l0).bind fun bt396 => ((impl_CadenceOf.f k bt396.1 bt396.2.1 bt396.2.2.1 bt396.2.2.2.1 bt396.2.2.2.2).bind fun t403 => ((spec_CadenceOf.f k bt396.1 bt396.2.1 bt396.2.2.1 bt396.2.2.2.1 bt396.2.2.2.2).bind fun t404 => (if t403.toList = t404.toList then (if bt396.1 ≥ (-7) then (laws_FnCadences.j0 k l0 bt396.1 t403 (decide (bt396.1 ≤ 6)) bt396.2.1 bt396.2.2.1 bt396.2.2.2.1 bt396.2.2.2.2) else (laws_FnCadences.j0 k l0 bt396.1 t403 false bt396.2.1 bt396.2.2.1 bt396.2.2.2.1 bt396.2.2.2.2)) else (some false))))))
theorem laws_FnCadences.mono_l : ∀ k, (∀ y0 y1 y2 y3 y4 y5 y6 y7, LeO (laws_FnCadences.j0 k y0 y1 y2 y3 y4 y5 y6 y7) (laws_FnCadences.j0 (k + 1) y0 y1 y2 y3 y4 y5 y6 y7)) ∧ (∀ y0, LeO (laws_FnCadences.j2 k y0) (laws_FnCadences.j2 (k + 1) y0)) ∧ (∀ y0 y1 y2 y3 y4, LeO (laws_FnCadences.l0 k y0 y1 y2 y3 y4) (laws_FnCadences.l0 (k + 1) y0 y1 y2 y3 y4)) ∧ (∀ y0 y1 y2 y3, LeO (laws_FnCadences.l1 k y0 y1 y2 y3) (laws_FnCadences.l1 (k + 1) y0 y1 y2 y3)) ∧ (∀ y0 y1 y2 y3 y4, LeO (laws_FnCadences.l2 k y0 y1 y2 y3 y4) (laws_FnCadences.l2 (k + 1) y0 y1 y2 y3 y4)) ∧ (∀ y0 y1 y2 y3 y4 y5 y6 y7, LeO (laws_FnCadences.j1 k y0 y1 y2 y3 y4 y5 y6 y7) (laws_FnCadences.j1 (k + 1) y0 y1 y2 y3 y4 y5 y6 y7))
 | 0 => ⟨fun _ _ _ _ _ _ _ _ r h => by simp [laws_FnCadences.j0] at h, fun _ r h => by simp [laws_FnCadences.j2] at h, fun _ _ _ _ _ r h => by simp [laws_FnCadences.l0] at h, fun _ _ _ _ r h => by simp [laws_FnCadences.l1] at h, fun _ _ _ _ _ r h => by simp [laws_FnCadences.l2] at h, fun _ _ _ _ _ _ _ _ r h => by simp [laws_FnCadences.j1] at h⟩
 | k + 1 => by
  obtain ⟨ih0, ih1, ih2, ih3, ih4, ih5⟩ := laws_FnCadences.mono_l k; refine ⟨?_, ?_, ?_, ?_, ?_, ?_⟩
  · intro y0 y1 y2 y3 y4 y5 y6 y7
    unfold laws_FnCadences.j0
    repeat' first
    | (with_reducible exact ih0 _ _ _ _ _ _ _ _)
    | (with_reducible exact ih1 _)
    | (with_reducible exact ih2 _ _ _ _ _)
    | (with_reducible exact ih3 _ _ _ _)
    | (with_reducible exact ih4 _ _ _ _ _)
    | (with_reducible exact ih5 _ _ _ _ _ _ _ _)
    | (with_reducible exact impl_CadenceOf.mono _ _ _ _ _ _)
    | (with_reducible exact impl_DegreeOf.mono _ _ _ _)
    | (with_reducible exact impl_IsOfKey.mono _ _ _ _)
    | (with_reducible exact impl_KeysFor.mono _ _)
    | (with_reducible exact impl_PhrasesOf.mono _ _ _)
    | (with_reducible exact laws_ascends.mono _ _)
    | (with_reducible exact spec_CadenceOf.mono _ _ _ _ _ _)
    | (with_reducible exact spec_DrawCadenceOf.mono _ _)
    | (with_reducible exact spec_DrawKeysFor.mono _ _)
    | (with_reducible exact spec_DrawPhrasesOf.mono _ _)
    | (with_reducible exact LeO.refl _)
    | (with_reducible exact LeO.none _)
    | (with_reducible refine LeO.ite ?_ ?_)
    | (with_reducible refine LeO.bind ?_ (fun _ => ?_))
    | exact ih0 _ _ _ _ _ _ _ _
    | exact ih1 _
    | exact ih2 _ _ _ _ _
    | exact ih3 _ _ _ _
    | exact ih4 _ _ _ _ _
    | exact ih5 _ _ _ _ _ _ _ _
    | exact impl_CadenceOf.mono _ _ _ _ _ _
    | exact impl_DegreeOf.mono _ _ _ _
    | exact impl_IsOfKey.mono _ _ _ _
    | exact impl_KeysFor.mono _ _
    | exact impl_PhrasesOf.mono _ _ _
    | exact laws_ascends.mono _ _
    | exact spec_CadenceOf.mono _ _ _ _ _ _
    | exact spec_DrawCadenceOf.mono _ _
    | exact spec_DrawKeysFor.mono _ _
    | exact spec_DrawPhrasesOf.mono _ _
    | exact LeO.none _
    | refine LeO.ite ?_ ?_
    | refine LeO.bind ?_ (fun _ => ?_)
  · intro y0
    unfold laws_FnCadences.j2
    repeat' first
    | (with_reducible exact ih0 _ _ _ _ _ _ _ _)
    | (with_reducible exact ih1 _)
    | (with_reducible exact ih2 _ _ _ _ _)
    | (with_reducible exact ih3 _ _ _ _)
    | (with_reducible exact ih4 _ _ _ _ _)
    | (with_reducible exact ih5 _ _ _ _ _ _ _ _)
    | (with_reducible exact impl_CadenceOf.mono _ _ _ _ _ _)
    | (with_reducible exact impl_DegreeOf.mono _ _ _ _)
    | (with_reducible exact impl_IsOfKey.mono _ _ _ _)
    | (with_reducible exact impl_KeysFor.mono _ _)
    | (with_reducible exact impl_PhrasesOf.mono _ _ _)
    | (with_reducible exact laws_ascends.mono _ _)
    | (with_reducible exact spec_CadenceOf.mono _ _ _ _ _ _)
    | (with_reducible exact spec_DrawCadenceOf.mono _ _)
    | (with_reducible exact spec_DrawKeysFor.mono _ _)
    | (with_reducible exact spec_DrawPhrasesOf.mono _ _)
    | (with_reducible exact LeO.refl _)
    | (with_reducible exact LeO.none _)
    | (with_reducible refine LeO.ite ?_ ?_)
    | (with_reducible refine LeO.bind ?_ (fun _ => ?_))
    | exact ih0 _ _ _ _ _ _ _ _
    | exact ih1 _
    | exact ih2 _ _ _ _ _
    | exact ih3 _ _ _ _
    | exact ih4 _ _ _ _ _
    | exact ih5 _ _ _ _ _ _ _ _
    | exact impl_CadenceOf.mono _ _ _ _ _ _
    | exact impl_DegreeOf.mono _ _ _ _
    | exact impl_IsOfKey.mono _ _ _ _
    | exact impl_KeysFor.mono _ _
    | exact impl_PhrasesOf.mono _ _ _
    | exact laws_ascends.mono _ _
    | exact spec_CadenceOf.mono _ _ _ _ _ _
    | exact spec_DrawCadenceOf.mono _ _
    | exact spec_DrawKeysFor.mono _ _
    | exact spec_DrawPhrasesOf.mono _ _
    | exact LeO.none _
    | refine LeO.ite ?_ ?_
    | refine LeO.bind ?_ (fun _ => ?_)
  · intro y0 y1 y2 y3 y4
    unfold laws_FnCadences.l0
    repeat' first
    | (with_reducible exact ih0 _ _ _ _ _ _ _ _)
    | (with_reducible exact ih1 _)
    | (with_reducible exact ih2 _ _ _ _ _)
    | (with_reducible exact ih3 _ _ _ _)
    | (with_reducible exact ih4 _ _ _ _ _)
    | (with_reducible exact ih5 _ _ _ _ _ _ _ _)
    | (with_reducible exact impl_CadenceOf.mono _ _ _ _ _ _)
    | (with_reducible exact impl_DegreeOf.mono _ _ _ _)
    | (with_reducible exact impl_IsOfKey.mono _ _ _ _)
    | (with_reducible exact impl_KeysFor.mono _ _)
    | (with_reducible exact impl_PhrasesOf.mono _ _ _)
    | (with_reducible exact laws_ascends.mono _ _)
    | (with_reducible exact spec_CadenceOf.mono _ _ _ _ _ _)
    | (with_reducible exact spec_DrawCadenceOf.mono _ _)
    | (with_reducible exact spec_DrawKeysFor.mono _ _)
    | (with_reducible exact spec_DrawPhrasesOf.mono _ _)
    | (with_reducible exact LeO.refl _)
    | (with_reducible exact LeO.none _)
    | (with_reducible refine LeO.ite ?_ ?_)
    | (with_reducible refine LeO.bind ?_ (fun _ => ?_))
    | exact ih0 _ _ _ _ _ _ _ _
    | exact ih1 _
    | exact ih2 _ _ _ _ _
    | exact ih3 _ _ _ _
    | exact ih4 _ _ _ _ _
    | exact ih5 _ _ _ _ _ _ _ _
    | exact impl_CadenceOf.mono _ _ _ _ _ _
    | exact impl_DegreeOf.mono _ _ _ _
    | exact impl_IsOfKey.mono _ _ _ _
    | exact impl_KeysFor.mono _ _
    | exact impl_PhrasesOf.mono _ _ _
    | exact laws_ascends.mono _ _
    | exact spec_CadenceOf.mono _ _ _ _ _ _
    | exact spec_DrawCadenceOf.mono _ _
    | exact spec_DrawKeysFor.mono _ _
    | exact spec_DrawPhrasesOf.mono _ _
    | exact LeO.none _
    | refine LeO.ite ?_ ?_
    | refine LeO.bind ?_ (fun _ => ?_)
  · intro y0 y1 y2 y3
    unfold laws_FnCadences.l1
    repeat' first
    | (with_reducible exact ih0 _ _ _ _ _ _ _ _)
    | (with_reducible exact ih1 _)
    | (with_reducible exact ih2 _ _ _ _ _)
    | (with_reducible exact ih3 _ _ _ _)
    | (with_reducible exact ih4 _ _ _ _ _)
    | (with_reducible exact ih5 _ _ _ _ _ _ _ _)
    | (with_reducible exact impl_CadenceOf.mono _ _ _ _ _ _)
    | (with_reducible exact impl_DegreeOf.mono _ _ _ _)
    | (with_reducible exact impl_IsOfKey.mono _ _ _ _)
    | (with_reducible exact impl_KeysFor.mono _ _)
    | (with_reducible exact impl_PhrasesOf.mono _ _ _)
    | (with_reducible exact laws_ascends.mono _ _)
    | (with_reducible exact spec_CadenceOf.mono _ _ _ _ _ _)
    | (with_reducible exact spec_DrawCadenceOf.mono _ _)
    | (with_reducible exact spec_DrawKeysFor.mono _ _)
    | (with_reducible exact spec_DrawPhrasesOf.mono _ _)
    | (with_reducible exact LeO.refl _)
    | (with_reducible exact LeO.none _)
    | (with_reducible refine LeO.ite ?_ ?_)
    | (with_reducible refine LeO.bind ?_ (fun _ => ?_))
    | exact ih0 _ _ _ _ _ _ _ _
    | exact ih1 _
    | exact ih2 _ _ _ _ _
    | exact ih3 _ _ _ _
    | exact ih4 _ _ _ _ _
    | exact ih5 _ _ _ _ _ _ _ _
    | exact impl_CadenceOf.mono _ _ _ _ _ _
    | exact impl_DegreeOf.mono _ _ _ _
    | exact impl_IsOfKey.mono _ _ _ _
    | exact impl_KeysFor.mono _ _
    | exact impl_PhrasesOf.mono _ _ _
    | exact laws_ascends.mono _ _
    | exact spec_CadenceOf.mono _ _ _ _ _ _
    | exact spec_DrawCadenceOf.mono _ _
    | exact spec_DrawKeysFor.mono _ _
    | exact spec_DrawPhrasesOf.mono _ _
    | exact LeO.none _
    | refine LeO.ite ?_ ?_
    | refine LeO.bind ?_ (fun _ => ?_)
  · intro y0 y1 y2 y3 y4
    unfold laws_FnCadences.l2
    repeat' first
    | (with_reducible exact ih0 _ _ _ _ _ _ _ _)
    | (with_reducible exact ih1 _)
    | (with_reducible exact ih2 _ _ _ _ _)
    | (with_reducible exact ih3 _ _ _ _)
    | (with_reducible exact ih4 _ _ _ _ _)
    | (with_reducible exact ih5 _ _ _ _ _ _ _ _)
    | (with_reducible exact impl_CadenceOf.mono _ _ _ _ _ _)
    | (with_reducible exact impl_DegreeOf.mono _ _ _ _)
    | (with_reducible exact impl_IsOfKey.mono _ _ _ _)
    | (with_reducible exact impl_KeysFor.mono _ _)
    | (with_reducible exact impl_PhrasesOf.mono _ _ _)
    | (with_reducible exact laws_ascends.mono _ _)
    | (with_reducible exact spec_CadenceOf.mono _ _ _ _ _ _)
    | (with_reducible exact spec_DrawCadenceOf.mono _ _)
    | (with_reducible exact spec_DrawKeysFor.mono _ _)
    | (with_reducible exact spec_DrawPhrasesOf.mono _ _)
    | (with_reducible exact LeO.refl _)
    | (with_reducible exact LeO.none _)
    | (with_reducible refine LeO.ite ?_ ?_)
    | (with_reducible refine LeO.bind ?_ (fun _ => ?_))
    | exact ih0 _ _ _ _ _ _ _ _
    | exact ih1 _
    | exact ih2 _ _ _ _ _
    | exact ih3 _ _ _ _
    | exact ih4 _ _ _ _ _
    | exact ih5 _ _ _ _ _ _ _ _
    | exact impl_CadenceOf.mono _ _ _ _ _ _
    | exact impl_DegreeOf.mono _ _ _ _
    | exact impl_IsOfKey.mono _ _ _ _
    | exact impl_KeysFor.mono _ _
    | exact impl_PhrasesOf.mono _ _ _
    | exact laws_ascends.mono _ _
    | exact spec_CadenceOf.mono _ _ _ _ _ _
    | exact spec_DrawCadenceOf.mono _ _
    | exact spec_DrawKeysFor.mono _ _
    | exact spec_DrawPhrasesOf.mono _ _
    | exact LeO.none _
    | refine LeO.ite ?_ ?_
    | refine LeO.bind ?_ (fun _ => ?_)
  · intro y0 y1 y2 y3 y4 y5 y6 y7
    unfold laws_FnCadences.j1
    repeat' first
    | (with_reducible exact ih0 _ _ _ _ _ _ _ _)
    | (with_reducible exact ih1 _)
    | (with_reducible exact ih2 _ _ _ _ _)
    | (with_reducible exact ih3 _ _ _ _)
    | (with_reducible exact ih4 _ _ _ _ _)
    | (with_reducible exact ih5 _ _ _ _ _ _ _ _)
    | (with_reducible exact impl_CadenceOf.mono _ _ _ _ _ _)
    | (with_reducible exact impl_DegreeOf.mono _ _ _ _)
    | (with_reducible exact impl_IsOfKey.mono _ _ _ _)
    | (with_reducible exact impl_KeysFor.mono _ _)
    | (with_reducible exact impl_PhrasesOf.mono _ _ _)
    | (with_reducible exact laws_ascends.mono _ _)
    | (with_reducible exact spec_CadenceOf.mono _ _ _ _ _ _)
    | (with_reducible exact spec_DrawCadenceOf.mono _ _)
    | (with_reducible exact spec_DrawKeysFor.mono _ _)
    | (with_reducible exact spec_DrawPhrasesOf.mono _ _)
    | (with_reducible exact LeO.refl _)
    | (with_reducible exact LeO.none _)
    | (with_reducible refine LeO.ite ?_ ?_)
    | (with_reducible refine LeO.bind ?_ (fun _ => ?_))
    | exact ih0 _ _ _ _ _ _ _ _
    | exact ih1 _
    | exact ih2 _ _ _ _ _
    | exact ih3 _ _ _ _
    | exact ih4 _ _ _ _ _
    | exact ih5 _ _ _ _ _ _ _ _
    | exact impl_CadenceOf.mono _ _ _ _ _ _
    | exact impl_DegreeOf.mono _ _ _ _
    | exact impl_IsOfKey.mono _ _ _ _
    | exact impl_KeysFor.mono _ _
    | exact impl_PhrasesOf.mono _ _ _
    | exact laws_ascends.mono _ _
    | exact spec_CadenceOf.mono _ _ _ _ _ _
    | exact spec_DrawCadenceOf.mono _ _
    | exact spec_DrawKeysFor.mono _ _
    | exact spec_DrawPhrasesOf.mono _ _
    | exact LeO.none _
    | refine LeO.ite ?_ ?_
    | refine LeO.bind ?_ (fun _ => ?_)
theorem laws_FnCadences.mono : ∀ a0 k, LeO (laws_FnCadences.f k a0) (laws_FnCadences.f (k + 1) a0) := by
 intro a0 k; obtain ⟨ih0, ih1, ih2, ih3, ih4, ih5⟩ := laws_FnCadences.mono_l k; unfold laws_FnCadences.f
 repeat' first
  | (with_reducible exact ih0 _ _ _ _ _ _ _ _)
  | (with_reducible exact ih1 _)
  | (with_reducible exact ih2 _ _ _ _ _)
  | (with_reducible exact ih3 _ _ _ _)
  | (with_reducible exact ih4 _ _ _ _ _)
  | (with_reducible exact ih5 _ _ _ _ _ _ _ _)
  | (with_reducible exact impl_CadenceOf.mono _ _ _ _ _ _)
  | (with_reducible exact impl_DegreeOf.mono _ _ _ _)
  | (with_reducible exact impl_IsOfKey.mono _ _ _ _)
  | (with_reducible exact impl_KeysFor.mono _ _)
  | (with_reducible exact impl_PhrasesOf.mono _ _ _)
  | (with_reducible exact laws_ascends.mono _ _)
  | (with_reducible exact spec_CadenceOf.mono _ _ _ _ _ _)
  | (with_reducible exact spec_DrawCadenceOf.mono _ _)
  | (with_reducible exact spec_DrawKeysFor.mono _ _)
  | (with_reducible exact spec_DrawPhrasesOf.mono _ _)
  | (with_reducible exact LeO.refl _)
  | (with_reducible exact LeO.none _)
  | (with_reducible refine LeO.ite ?_ ?_)
  | (with_reducible refine LeO.bind ?_ (fun _ => ?_))
  | exact ih0 _ _ _ _ _ _ _ _
  | exact ih1 _
  | exact ih2 _ _ _ _ _
  | exact ih3 _ _ _ _
  | exact ih4 _ _ _ _ _
  | exact ih5 _ _ _ _ _ _ _ _
  | exact impl_CadenceOf.mono _ _ _ _ _ _
  | exact impl_DegreeOf.mono _ _ _ _
  | exact impl_IsOfKey.mono _ _ _ _
  | exact impl_KeysFor.mono _ _
  | exact impl_PhrasesOf.mono _ _ _
  | exact laws_ascends.mono _ _
  | exact spec_CadenceOf.mono _ _ _ _ _ _
  | exact spec_DrawCadenceOf.mono _ _
  | exact spec_DrawKeysFor.mono _ _
  | exact spec_DrawPhrasesOf.mono _ _
  | exact LeO.none _
  | refine LeO.ite ?_ ?_
  | refine LeO.bind ?_ (fun _ => ?_)
def laws_FnCadences.T12 : Bool × List (List Nat × List Nat) := (true, [([], []), ([0], [0]), ([1], [1]), ([2, 1], [1, 2]), ([1], [1]), ([3, 4, 1, 1], [1, 3, 4]), ([1], [1]), ([1], [1]), ([6, 7, 5, 1], [1, 6, 7]), ([5, 8, 1], [1, 5, 8]), ([9, 8, 1], [1, 9]), ([10], [10]), ([11, 10], [10, 11]), ([10], [10]), ([12, 13, 10, 10], [10, 12, 13]), ([10], [10]), ([10], [10]), ([15, 16, 14, 10], [10, 15, 16]), ([14, 17, 10], [10, 14, 17]), ([10, 18, 1], [1, 10, 18]), ([1, 19], [1, 19])])
def laws_FnCadences.B12 : List Nat := [0, 1, 3, 7, 3, 31, 3, 3, 255, 511, 1023, 2047, 4095, 2047, 16383, 2047, 2047, 131071, 262143, 524287, 1048575]
theorem laws_FnCadences.tab12 : rtab .any (opsOf Try.f3 12) = laws_FnCadences.T12 := by kernel_rfl
theorem laws_FnCadences.bits12 : waitsOk laws_FnCadences.T12.2 laws_FnCadences.B12 = true := by kernel_rfl
def laws_FnCadences.T29 : Bool × List (List Nat × List Nat) := (true, [([], []), ([], []), ([0, 1], [0, 1]), ([2], [2]), ([], []), ([], []), ([4, 5], [4, 5]), ([6], [6]), ([3, 7], [3, 7]), ([8], [8])])
def laws_FnCadences.B29 : List Nat := [0, 0, 3, 7, 0, 0, 48, 112, 255, 511]
theorem laws_FnCadences.tab29 : rtab .any (opsOf Try.f3 29) = laws_FnCadences.T29 := by kernel_rfl
theorem laws_FnCadences.bits29 : waitsOk laws_FnCadences.T29.2 laws_FnCadences.B29 = true := by kernel_rfl
set_option maxHeartbeats 8000000 in
set_option maxRecDepth 100000 in
theorem laws_FnCadences.calls_true (k : Nat) (A0 : Option Addr) (c0 : Nat) (l0 : List Int) (w : World) (hr0 : Kd.C (Kd.int .u8) w A0 l0.length l0) (hc0 : l0.length ≤ c0) (h : laws_FnCadences.f k l0 = some true) :
 Calls Try.prog 3 #[.slice A0 l0.length c0] w fun e w' => e = .returned (.bool true) ∧ Below w.heap.size w w' := by
 have hu25 := Try.underlying25; have HR0 := q0_9 hr0; have HC0 := q0_9 hc0; clear hr0 hc0; have HB := q0_9 (Below.refl w.heap.size w); (have H : ((laws_big.f l0).bind fun t395 => (if t395 = true then (some true) else ((spec_DrawCadenceOf.f k l0).bind fun bt396 => ((impl_CadenceOf.f k bt396.1 bt396.2.1 bt396.2.2.1 bt396.2.2.2.1 bt396.2.2.2.2).bind fun t403 => ((spec_CadenceOf.f k bt396.1 bt396.2.1 bt396.2.2.1 bt396.2.2.2.1 bt396.2.2.2.2).bind fun t404 => (if t403.toList = t404.toList then (if bt396.1 ≥ (-7) then (laws_FnCadences.j0 k l0 bt396.1 t403 (decide (bt396.1 ≤ 6)) bt396.2.1 bt396.2.2.1 bt396.2.2.2.1 bt396.2.2.2.2) else (laws_FnCadences.j0 k l0 bt396.1 t403 false bt396.2.1 bt396.2.2.1 bt396.2.2.2.1 bt396.2.2.2.2)) else (some false))))))) = some true := h); clear h; replace H := Option.bind_eq_some_iff.mp H; obtain ⟨t395, A20, H⟩ := H; (try dsimp only at H); have A2 := q0_9 A20; clear A20
 by_cases c3 : t395 = true
 · subst c3
   (have H1 : (some true) = some true := rfl); clear H; have H := H1; clear H1 H; go_enter Try.func3, Try.ntmps3; (go_wp2_with (first | ((with_reducible refine gate_callee (f := 5) rfl ?_); refine goesL_ (some 20) rfl rfl Try.func5 (by kernel_rfl) rfl #[.slice A0 l0.length c0] rfl ma ?_; (with_reducible refine (laws_big.calls _ _ l0 true _ ?side1 ?side2 A2.out).mono ?_); (case side1 => repeat (first | exact HR0.out | (with_reducible refine Kd.C_alloc ?_ _) | (with_reducible refine Kd.C_drewN ?_ _) | (with_reducible refine Kd.C_drew ?_))); (case side2 => exact HC0.out); rintro e w' ⟨rfl, ⟨nd, rfl⟩⟩; refine ⟨_, rfl, ?_⟩))); go_ret; (exact ⟨by first | rfl | (simp [errW_none, errW_some] <;> rfl) | (simp [*, errW_none, errW_some] <;> rfl), by exact (hbz_9)⟩)
 · replace c3 := Bool.eq_false_iff.mpr c3
   subst c3; (have H1 : ((spec_DrawCadenceOf.f k l0).bind fun bt396 => ((impl_CadenceOf.f k bt396.1 bt396.2.1 bt396.2.2.1 bt396.2.2.2.1 bt396.2.2.2.2).bind fun t403 => ((spec_CadenceOf.f k bt396.1 bt396.2.1 bt396.2.2.1 bt396.2.2.2.1 bt396.2.2.2.2).bind fun t404 => (if t403.toList = t404.toList then (if bt396.1 ≥ (-7) then (laws_FnCadences.j0 k l0 bt396.1 t403 (decide (bt396.1 ≤ 6)) bt396.2.1 bt396.2.2.1 bt396.2.2.2.1 bt396.2.2.2.2) else (laws_FnCadences.j0 k l0 bt396.1 t403 false bt396.2.1 bt396.2.2.1 bt396.2.2.2.1 bt396.2.2.2.2)) else (some false))))) = some true := by rw [if_neg (show ¬ (false = true) by decide)] at H; exact H); clear H; have H := H1; clear H1; replace H := Option.bind_eq_some_iff.mp H; obtain ⟨⟨t396, t397, t398, t399, t400⟩, A40, H⟩ := H; (try dsimp only at H); have A4 := q0_9 A40; clear A40; replace H := Option.bind_eq_some_iff.mp H; obtain ⟨t403, A50, H⟩ := H; (try dsimp only at H); have A5 := q0_9 A50; clear A50; replace H := Option.bind_eq_some_iff.mp H; obtain ⟨t404, A60, H⟩ := H; (try dsimp only at H); have A6 := q0_9 A60; clear A60
   by_cases c7 : t403.toList = t404.toList
   · rw [if_pos c7] at H
     (have c7b0 : (t403.toList == t404.toList) = true := beq_iff_eq.mpr c7); (have c7b1 : (t403.toList != t404.toList) = false := bne_eq_false_iff_eq.mpr c7); clear c7; have HC8 := q0_9 H; clear H; go_enter Try.func3, Try.ntmps3
     (go_upto_region 7 with (first | ((with_reducible refine gate_callee (f := 5) rfl ?_); refine goesL_ (some 20) rfl rfl Try.func5 (by kernel_rfl) rfl #[.slice A0 l0.length c0] rfl ma ?_; (with_reducible refine (laws_big.calls _ _ l0 false _ ?side1 ?side2 A2.out).mono ?_); (case side1 => repeat (first | exact HR0.out | (with_reducible refine Kd.C_alloc ?_ _) | (with_reducible refine Kd.C_drewN ?_ _) | (with_reducible refine Kd.C_drew ?_))); (case side2 => exact HC0.out); rintro e w' ⟨rfl, ⟨nd, rfl⟩⟩; refine ⟨_, rfl, ?_⟩) | ((with_reducible refine gate_callee (f := 6) rfl ?_); refine goesL_ (some 23) rfl rfl Try.func6 (by kernel_rfl) rfl #[.slice A0 l0.length c0] rfl ma ?_; (with_reducible refine (spec_DrawCadenceOf.calls k _ _ l0 t396 t397 t398 t399 t400 _ ?side1 ?side2 A4.out).mono ?_); (case side1 => repeat (first | exact HR0.out | (with_reducible refine Kd.C_alloc ?_ _) | (with_reducible refine Kd.C_drewN ?_ _) | (with_reducible refine Kd.C_drew ?_))); (case side2 => exact HC0.out); rintro e w9 ⟨rfl, hb⟩; refine ⟨_, rfl, ?_⟩; have n0_ := q0_9 (below_step (hbz_9) hb); clear HB; have HB := n0_; clear n0_; (try clear hb); (try clear hb2); (try clear hk); (try clear hi)) | ((with_reducible refine gate_dst (N := 4) rfl ?_); (try (refine gate_guard (by rfl) ?_; dsimp only)); refine box_event ?hg (N := 4) ?hd (cs := #[.int .i64 0, .int .i64 0]) (t := 25) ?hr ?_; (case hd => rfl); (case hg => rfl); (case hr => first | (go_simp; done) | (go_simp; rfl)); intro q9 hg w10 hbox hb; have n0_ := q0_9 (below_step (hbz_9) hb); have n1_ := q0_9 (hbox); have n2_ := q0_9 ((by rw [hg]; exact (below_size (hbz_9)) : w.heap.size ≤ q9)); have n3_ := q0_9 ((by rw [hg]; exact (below_size (hbz_9)) : w.heap.size ≤ q9)); clear HB; have HB := n0_; have q1 := n1_; have GW401 := n2_; have z07 := n3_; clear n0_ n1_ n2_ n3_; clear hb hbox hg) | ((with_reducible refine gate_dst (N := 5) rfl ?_); (try (refine gate_guard (by rfl) ?_; dsimp only)); refine box_event ?hg (N := 5) ?hd (cs := #[.int .i64 0, .int .i64 0]) (t := 25) ?hr ?_; (case hd => rfl); (case hg => rfl); (case hr => first | (go_simp; done) | (go_simp; rfl)); intro qa hg w11 hbox hb; have n0_ := q0_9 (bb q1.out hb); have n1_ := q0_9 (below_step (qv_9) hb); have n2_ := q0_9 (hbox); have n3_ := q0_9 ((by rw [hg]; exact (below_size (qv_9)) : w.heap.size ≤ qa)); have n4_ := q0_9 ((by rw [hg]; exact (below_size (qv_9)) : w.heap.size ≤ qa)); have n5_ := q0_9 ((by rw [hg]; exact Nat.ne_of_lt (bl q1.out) : q9 ≠ qa)); have n6_ := q0_9 ((by rw [hg]; exact Nat.ne_of_gt (bl q1.out) : qa ≠ q9)); clear q1; clear HB; have q1 := n0_; have HB := n1_; have q2 := n2_; have GW402 := n3_; have z08 := n4_; have qk := n5_; have ql := n6_; clear n0_ n1_ n2_ n3_ n4_ n5_ n6_; clear hb hbox hg; have hnb12 := qk.out; have hnc12 := ql.out; have hcz13_0 : w11.cell? ⟨q9, 0, none⟩ = some (.int .i64 0) := (blk_cell q1.out 0).trans rfl; have hcz13_1 : w11.cell? ⟨q9, 1, none⟩ = some (.int .i64 0) := (blk_cell q1.out 1).trans rfl; have hfz13_0 := blk_frozen q1.out 0; have hfz13_1 := blk_frozen q1.out 1; have hcz14_0 : w11.cell? ⟨qa, 0, none⟩ = some (.int .i64 0) := (blk_cell q2.out 0).trans rfl; have hcz14_1 : w11.cell? ⟨qa, 1, none⟩ = some (.int .i64 0) := (blk_cell q2.out 1).trans rfl; have hfz14_0 := blk_frozen q2.out 0; have hfz14_1 := blk_frozen q2.out 1) | ((with_reducible refine gate_callee (f := 7) rfl ?_); refine goesL_ (some 30) rfl rfl Try.func7 (by kernel_rfl) rfl #[.int .i64 t396, .agg #[.int .i64 t397, .int .i64 t398], .agg #[.int .i64 t399, .int .i64 t400]] rfl ma ?_; (with_reducible refine (impl_CadenceOf.calls k t396 t397 t398 t399 t400 t403 _ A5.out).mono ?_); rintro e w15 ⟨rfl, hb⟩; refine ⟨_, rfl, ?_⟩; have n0_ := q0_9 (blk_below (g := q9) (o := .cells #[.int .i64 t397, .int .i64 t398] 25 (0, 0)) (by refine ba ?_; refine blk_far ?_ qk.out _; refine ba ?_; refine blk_far ?_ qk.out _; refine ba ?_; refine blk_put (cs := #[.int .i64 t397, .int .i64 0]) ?_ 1 _ rfl; refine ba ?_; refine blk_put (cs := #[.int .i64 0, .int .i64 0]) ?_ 0 _ rfl; refine ba ?_; exact q1.out) hb); have n1_ := q0_9 (blk_below (g := qa) (o := .cells #[.int .i64 t399, .int .i64 t400] 25 (0, 0)) (by refine ba ?_; refine blk_put (cs := #[.int .i64 t399, .int .i64 0]) ?_ 1 _ rfl; refine ba ?_; refine blk_put (cs := #[.int .i64 0, .int .i64 0]) ?_ 0 _ rfl; refine ba ?_; refine blk_far ?_ ql.out _; refine ba ?_; refine blk_far ?_ ql.out _; refine ba ?_; exact q2.out) hb); have n2_ := q0_9 (below_step (q3_9) hb); clear q1; clear q2; clear HB; have q1 := n0_; have q2 := n1_; have HB := n2_; clear n0_ n1_ n2_; (try clear hb); (try clear hb2); (try clear hk); (try clear hi); have hcz16_0 : w15.cell? ⟨q9, 0, none⟩ = some (.int .i64 t397) := (blk_cell q1.out 0).trans rfl; have hcz16_1 : w15.cell? ⟨q9, 1, none⟩ = some (.int .i64 t398) := (blk_cell q1.out 1).trans rfl; have hfz16_0 := blk_frozen q1.out 0; have hfz16_1 := blk_frozen q1.out 1; have hcz17_0 : w15.cell? ⟨qa, 0, none⟩ = some (.int .i64 t399) := (blk_cell q2.out 0).trans rfl; have hcz17_1 : w15.cell? ⟨qa, 1, none⟩ = some (.int .i64 t400) := (blk_cell q2.out 1).trans rfl; have hfz17_0 := blk_frozen q2.out 0; have hfz17_1 := blk_frozen q2.out 1) | ((with_reducible refine gate_callee (f := 8) rfl ?_); refine goesL_ (some 35) rfl rfl Try.func8 (by kernel_rfl) rfl #[.int .i64 t396, .agg #[.int .i64 t397, .int .i64 t398], .agg #[.int .i64 t399, .int .i64 t400]] rfl ma ?_; (with_reducible refine (spec_CadenceOf.calls k t396 t397 t398 t399 t400 t404 _ A6.out).mono ?_); rintro e w18 ⟨rfl, hb⟩; refine ⟨_, rfl, ?_⟩; have n0_ := q0_9 (bb q1.out hb); have n1_ := q0_9 (bb q2.out hb); have n2_ := q0_9 (below_step (q3_9) hb); clear q1; clear q2; clear HB; have q1 := n0_; have q2 := n1_; have HB := n2_; clear n0_ n1_ n2_; (try clear hb); (try clear hb2); (try clear hk); (try clear hi))))
     ((try simp only [Act.put, List.setIfInBounds_toArray, List.set_cons_zero, List.set_cons_succ])); (go_cut [42] (fun v42 wc => ∃ (kq : Nat) (x42_7 : Bool), v42 = .bool x42_7 ∧ Aside0 (laws_FnCadences.j0 kq l0 t396 t403 x42_7 t397 t398 t399 t400 = some true) ∧ Aside0 (kq ≤ k) ∧ Aside0 (wc.heap[q9]? = some (.cells #[.int .i64 t397, .int .i64 t398] 25 (0, 0))) ∧ Aside0 (wc.heap[qa]? = some (.cells #[.int .i64 t399, .int .i64 t400] 25 (0, 0))) ∧ Aside0 (Below w.heap.size w wc)))
     case first =>
      have H := HC8.out; clear HC8
      by_cases c19 : t396 ≥ (-7)
      · rw [if_pos c19] at H
        (have c19b0 : decide ((-7) ≤ t396) = true := decide_eq_true c19); clear c19; ((first | rw [c19b0] | (simp only [i64_w, i32_w]; rw [c19b0]) | skip)); (have H' := q0_9 H); clear H; (go_wp2); (go_meet)
        case rel => exact ⟨_, (decide (t396 ≤ 6)), (by first | rfl | (simp; done) | (simp [*]; done)), H', ⟨by first | omega | exact Nat.le_refl _⟩, ⟨by refine ba ?_; exact q1.out⟩, ⟨by refine ba ?_; exact q2.out⟩, ⟨by exact (q3_9)⟩⟩
      · rw [if_neg c19] at H
        (have c19b0 : decide ((-7) ≤ t396) = false := decide_eq_false c19); clear c19; ((first | rw [c19b0] | (simp only [i64_w, i32_w]; rw [c19b0]) | skip)); (have H' := q0_9 H); clear H; (go_wp2); (go_meet)
        case rel => exact ⟨_, (false), (by first | rfl | (simp; done) | (simp [*]; done)), H', ⟨by first | omega | exact Nat.le_refl _⟩, ⟨by refine ba ?_; exact q1.out⟩, ⟨by refine ba ?_; exact q2.out⟩, ⟨by exact (q3_9)⟩⟩
     case rest =>
      clear HC8; (try clear c1); (try clear p2); (try clear c3); (try clear c5); (try clear c6); (try clear c7); (try clear c7b0); (try clear c7b1); (try clear c8); (try clear c12); (try clear c19); (try clear c19b0); (try clear hcz13_0); (try clear hcz13_1); (try clear hcz14_0); (try clear hcz14_1); (try clear hcz16_0); (try clear hcz16_1); (try clear hcz17_0); (try clear hcz17_1); (try clear hfz13_0); (try clear hfz13_1); (try clear hfz14_0); (try clear hfz14_1); (try clear hfz16_0); (try clear hfz16_1); (try clear hfz17_0); (try clear hfz17_1); obtain ⟨kq, x42_7, rfl, HA, HJ7, q1, q2, HB⟩ := hcut
      cases kq with
      | zero => exact absurd HA.out (by simp [laws_FnCadences.j0])
      | succ kj7 =>
       have H := HA.out; clear HA; (simp only [laws_FnCadences.j0] at H); have HC20 := q0_9 H; clear H; (go_upto_if 42 with (fail)); (go_cut [] (fun wc => ∃ (kq : Nat), Aside0 (laws_FnCadences.j2 kq l0 = some true) ∧ Aside0 (kq ≤ kj7) ∧ Aside0 (wc.heap[q9]? = some (.cells #[.int .i64 t397, .int .i64 t398] 25 (0, 0))) ∧ Aside0 (wc.heap[qa]? = some (.cells #[.int .i64 t399, .int .i64 t400] 25 (0, 0))) ∧ Aside0 (Below w.heap.size w wc)))
       case first =>
        have H := HC20.out; clear HC20
        by_cases c21 : x42_7 = true
        · subst c21
          have H1 := H; rw [if_pos rfl] at H1; clear H; have H := H1; clear H1; replace H := Option.bind_eq_some_iff.mp H; obtain ⟨⟨t405, t406, t407⟩, A220, H⟩ := H; (try dsimp only at H); have A22 := q0_9 A220; clear A220; replace H := Option.bind_eq_some_iff.mp H; obtain ⟨⟨t409, t410, t411⟩, A230, H⟩ := H; (try dsimp only at H); have A23 := q0_9 A230; clear A230; have HC24 := q0_9 H; clear H; have hnb25 := qk.out; have hnc25 := ql.out; (have hcz26_0 : wc.cell? ⟨q9, 0, none⟩ = some (.int .i64 t397) := (blk_cell q1.out 0).trans rfl); (have hcz26_1 : wc.cell? ⟨q9, 1, none⟩ = some (.int .i64 t398) := (blk_cell q1.out 1).trans rfl); have hfz26_0 := blk_frozen q1.out 0; have hfz26_1 := blk_frozen q1.out 1
          (go_upto_region 10 with (first | ((with_reducible refine gate_callee (f := 9) rfl ?_); refine goesL_ (some 45) rfl rfl Try.func9 (by kernel_rfl) rfl #[.agg #[.int .i64 t397, .int .i64 t398], .int .i64 7] rfl ma ?_; (with_reducible refine (impl_MoveChord.calls t397 t398 7 t405 t406 t407 _ A22.out).mono ?_); rintro e w27 ⟨rfl, hb⟩; refine ⟨_, rfl, ?_⟩; have n0_ := q0_9 (bb q1.out hb); have n1_ := q0_9 (bb q2.out hb); have n2_ := q0_9 (below_step (q3_9) hb); clear q1; clear q2; clear HB; have q1 := n0_; have q2 := n1_; have HB := n2_; clear n0_ n1_ n2_; (try clear hb); (try clear hb2); (try clear hk); (try clear hi)) | ((with_reducible refine gate_dst (N := 7) rfl ?_); (try (refine gate_guard (by rfl) ?_; dsimp only)); refine box_event ?hg (N := 7) ?hd (cs := #[.int .i64 0, .int .i64 0]) (t := 25) ?hr ?_; (case hd => rfl); (case hg => rfl); (case hr => first | (go_simp; done) | (go_simp; rfl)); intro qe hg w28 hbox hb; have n0_ := q0_9 (bb q1.out hb); have n1_ := q0_9 (bb q2.out hb); have n2_ := q0_9 (below_step (q3_9) hb); have n3_ := q0_9 (hbox); have n4_ := q0_9 ((by rw [hg]; exact (below_size (q3_9)) : w.heap.size ≤ qe)); have n5_ := q0_9 ((by rw [hg]; exact (below_size (q3_9)) : w.heap.size ≤ qe)); have n6_ := q0_9 ((by rw [hg]; exact Nat.ne_of_lt (bl q1.out) : q9 ≠ qe)); have n7_ := q0_9 ((by rw [hg]; exact Nat.ne_of_gt (bl q1.out) : qe ≠ q9)); have n8_ := q0_9 ((by rw [hg]; exact Nat.ne_of_lt (bl q2.out) : qa ≠ qe)); have n9_ := q0_9 ((by rw [hg]; exact Nat.ne_of_gt (bl q2.out) : qe ≠ qa)); clear q1; clear q2; clear HB; have q1 := n0_; have q2 := n1_; have HB := n2_; have q6 := n3_; have GW408 := n4_; have z09 := n5_; have qm := n6_; have qq := n7_; have qn := n8_; have qr := n9_; clear n0_ n1_ n2_ n3_ n4_ n5_ n6_ n7_ n8_ n9_; clear hb hbox hg; have hnb29 := qq.out; have hnc29 := qm.out; have hnb30 := qr.out; have hnc30 := qn.out; have hcz31_0 : w28.cell? ⟨qe, 0, none⟩ = some (.int .i64 0) := (blk_cell q6.out 0).trans rfl; have hcz31_1 : w28.cell? ⟨qe, 1, none⟩ = some (.int .i64 0) := (blk_cell q6.out 1).trans rfl; have hfz31_0 := blk_frozen q6.out 0; have hfz31_1 := blk_frozen q6.out 1; have hcz32_0 : w28.cell? ⟨qa, 0, none⟩ = some (.int .i64 t399) := (blk_cell q2.out 0).trans rfl; have hcz32_1 : w28.cell? ⟨qa, 1, none⟩ = some (.int .i64 t400) := (blk_cell q2.out 1).trans rfl; have hfz32_0 := blk_frozen q2.out 0; have hfz32_1 := blk_frozen q2.out 1) | ((with_reducible refine gate_callee (f := 9) rfl ?_); refine goesL_ (some 50) rfl rfl Try.func9 (by kernel_rfl) rfl #[.agg #[.int .i64 t399, .int .i64 t400], .int .i64 7] rfl ma ?_; (with_reducible refine (impl_MoveChord.calls t399 t400 7 t409 t410 t411 _ A23.out).mono ?_); rintro e w33 ⟨rfl, hb⟩; refine ⟨_, rfl, ?_⟩; have n0_ := q0_9 (blk_below (g := q9) (o := .cells #[.int .i64 t397, .int .i64 t398] 25 (0, 0)) (by refine ba ?_; refine blk_far ?_ qm.out _; refine ba ?_; refine blk_far ?_ qm.out _; refine ba ?_; exact q1.out) hb); have n1_ := q0_9 (blk_below (g := qa) (o := .cells #[.int .i64 t399, .int .i64 t400] 25 (0, 0)) (by refine ba ?_; refine blk_far ?_ qn.out _; refine ba ?_; refine blk_far ?_ qn.out _; refine ba ?_; exact q2.out) hb); have n2_ := q0_9 (blk_below (g := qe) (o := .cells #[.int .i64 t405, .int .i64 t406] 25 (0, 0)) (by refine ba ?_; refine blk_put (cs := #[.int .i64 t405, .int .i64 0]) ?_ 1 _ rfl; refine ba ?_; refine blk_put (cs := #[.int .i64 0, .int .i64 0]) ?_ 0 _ rfl; refine ba ?_; exact q6.out) hb); have n3_ := q0_9 (below_step (qf_9) hb); clear q1; clear q2; clear q6; clear HB; have q1 := n0_; have q2 := n1_; have q6 := n2_; have HB := n3_; clear n0_ n1_ n2_ n3_; (try clear hb); (try clear hb2); (try clear hk); (try clear hi)) | ((with_reducible refine gate_dst (N := 9) rfl ?_); (try (refine gate_guard (by rfl) ?_; dsimp only)); refine box_event ?hg (N := 9) ?hd (cs := #[.int .i64 0, .int .i64 0]) (t := 25) ?hr ?_; (case hd => rfl); (case hg => rfl); (case hr => first | (go_simp; done) | (go_simp; rfl)); intro qh hg w34 hbox hb; have n0_ := q0_9 (bb q1.out hb); have n1_ := q0_9 (bb q2.out hb); have n2_ := q0_9 (bb q6.out hb); have n3_ := q0_9 (below_step (qf_9) hb); have n4_ := q0_9 (hbox); have n5_ := q0_9 ((by rw [hg]; exact (below_size (qf_9)) : w.heap.size ≤ qh)); have n6_ := q0_9 ((by rw [hg]; exact (below_size (qf_9)) : w.heap.size ≤ qh)); have n7_ := q0_9 ((by rw [hg]; exact Nat.ne_of_lt (bl q1.out) : q9 ≠ qh)); have n8_ := q0_9 ((by rw [hg]; exact Nat.ne_of_gt (bl q1.out) : qh ≠ q9)); have n9_ := q0_9 ((by rw [hg]; exact Nat.ne_of_lt (bl q2.out) : qa ≠ qh)); have n10_ := q0_9 ((by rw [hg]; exact Nat.ne_of_gt (bl q2.out) : qh ≠ qa)); have n11_ := q0_9 ((by rw [hg]; exact Nat.ne_of_lt (bl q6.out) : qe ≠ qh)); have n12_ := q0_9 ((by rw [hg]; exact Nat.ne_of_gt (bl q6.out) : qh ≠ qe)); clear q1; clear q2; clear q6; clear HB; have q1 := n0_; have q2 := n1_; have q6 := n2_; have HB := n3_; have q7 := n4_; have GW412 := n5_; have z0a := n6_; have qb := n7_; have qs := n8_; have qc := n9_; have qt := n10_; have qd := n11_; have qu := n12_; clear n0_ n1_ n2_ n3_ n4_ n5_ n6_ n7_ n8_ n9_ n10_ n11_ n12_; clear hb hbox hg; have hnb35 := qs.out; have hnc35 := qb.out; have hnb36 := qt.out; have hnc36 := qc.out; have hnb37 := qu.out; have hnc37 := qd.out; have hcz38_0 : w34.cell? ⟨qh, 0, none⟩ = some (.int .i64 0) := (blk_cell q7.out 0).trans rfl; have hcz38_1 : w34.cell? ⟨qh, 1, none⟩ = some (.int .i64 0) := (blk_cell q7.out 1).trans rfl; have hfz38_0 := blk_frozen q7.out 0; have hfz38_1 := blk_frozen q7.out 1)))
          ((try simp only [Act.put, List.setIfInBounds_toArray, List.set_cons_zero, List.set_cons_succ])); (go_cut [65] (fun v65 wc => ∃ (kq : Nat) (x65_23 : Bool), v65 = .bool x65_23 ∧ Aside0 (laws_FnCadences.j1 kq l0 t396 t407 x65_23 t397 t398 t405 t406 = some true) ∧ Aside0 (kq ≤ kj7) ∧ Aside0 (wc.heap[q9]? = some (.cells #[.int .i64 t397, .int .i64 t398] 25 (0, 0))) ∧ Aside0 (wc.heap[qa]? = some (.cells #[.int .i64 t399, .int .i64 t400] 25 (0, 0))) ∧ Aside0 (wc.heap[qe]? = some (.cells #[.int .i64 t405, .int .i64 t406] 25 (0, 0))) ∧ Aside0 (wc.heap[qh]? = some (.cells #[.int .i64 t409, .int .i64 t410] 25 (0, 0))) ∧ Aside0 (Below w.heap.size w wc)))
          case first =>
           have H := HC24.out; clear HC24
           by_cases c39 : t407 = true
           · subst c39
             have H1 := H; rw [if_pos rfl] at H1; clear H; have H := H1; clear H1
             by_cases c40 : t411 = true
             · subst c40
               have H1 := H; rw [if_pos rfl] at H1; clear H; have H := H1; clear H1; replace H := Option.bind_eq_some_iff.mp H; obtain ⟨t413, A410, H⟩ := H; (try dsimp only at H); have A41 := q0_9 A410; clear A410; (have H' := q0_9 H); clear H; have hnb42 := qq.out; have hnc42 := qm.out; have hnb43 := qr.out; have hnc43 := qn.out; have hnb44 := qd.out; have hnc44 := qu.out; (have hcz45_0 : w34.cell? ⟨qe, 0, none⟩ = some (.int .i64 t405) := (blk_cell q6.out 0).trans rfl); (have hcz45_1 : w34.cell? ⟨qe, 1, none⟩ = some (.int .i64 t406) := (blk_cell q6.out 1).trans rfl); have hfz45_0 := blk_frozen q6.out 0; have hfz45_1 := blk_frozen q6.out 1; have hnb46 := qs.out; have hnc46 := qb.out; have hnb47 := qt.out; have hnc47 := qc.out; (have hcz48_0 : w34.cell? ⟨qh, 0, none⟩ = some (.int .i64 0) := (blk_cell q7.out 0).trans rfl); (have hcz48_1 : w34.cell? ⟨qh, 1, none⟩ = some (.int .i64 0) := (blk_cell q7.out 1).trans rfl); have hfz48_0 := blk_frozen q7.out 0; have hfz48_1 := blk_frozen q7.out 1; (go_wp2_with (first | (go_at_call 7; (with_reducible refine (impl_CadenceOf.calls kj7 (wrap64 (t396 + 1)) t405 t406 t409 t410 t413 _ A41.out).mono ?_); rintro e w49 ⟨rfl, hb⟩; have n0_ := q0_9 (blk_below (g := q9) (o := .cells #[.int .i64 t397, .int .i64 t398] 25 (0, 0)) (by refine ba ?_; refine blk_far ?_ qb.out _; refine ba ?_; refine blk_far ?_ qb.out _; refine ba ?_; exact q1.out) hb); have n1_ := q0_9 (blk_below (g := qa) (o := .cells #[.int .i64 t399, .int .i64 t400] 25 (0, 0)) (by refine ba ?_; refine blk_far ?_ qc.out _; refine ba ?_; refine blk_far ?_ qc.out _; refine ba ?_; exact q2.out) hb); have n2_ := q0_9 (blk_below (g := qe) (o := .cells #[.int .i64 t405, .int .i64 t406] 25 (0, 0)) (by refine ba ?_; refine blk_far ?_ qd.out _; refine ba ?_; refine blk_far ?_ qd.out _; refine ba ?_; exact q6.out) hb); have n3_ := q0_9 (blk_below (g := qh) (o := .cells #[.int .i64 t409, .int .i64 t410] 25 (0, 0)) (by refine ba ?_; refine blk_put (cs := #[.int .i64 t409, .int .i64 0]) ?_ 1 _ rfl; refine ba ?_; refine blk_put (cs := #[.int .i64 0, .int .i64 0]) ?_ 0 _ rfl; refine ba ?_; exact q7.out) hb); have n4_ := q0_9 (below_step (q5_9) hb); clear q1; clear q2; clear q6; clear q7; clear HB; have q1 := n0_; have q2 := n1_; have q6 := n2_; have q7 := n3_; have HB := n4_; clear n0_ n1_ n2_ n3_ n4_; (try clear hb); (try clear hb2); (try clear hk); (try clear hi)))); (go_meet)
               case rel => exact ⟨_, ((t413.toList != t403.toList)), (by first | rfl | (simp; done) | (simp [*]; done)), H', ⟨by have := HJ7.out; first | omega | exact Nat.le_refl _⟩, ⟨by refine ba ?_; exact q1.out⟩, ⟨by refine ba ?_; exact q2.out⟩, ⟨by refine ba ?_; exact q6.out⟩, ⟨by refine ba ?_; exact q7.out⟩, ⟨by exact (q5_9)⟩⟩
             · replace c40 := Bool.eq_false_iff.mpr c40
               subst c40; (have H1 : (laws_FnCadences.j1 kj7 l0 t396 true false t397 t398 t405 t406) = some true := by rw [if_neg (show ¬ (false = true) by decide)] at H; exact H); clear H; have H := H1; clear H1; (have H' := q0_9 H); clear H; (go_wp2); (go_meet)
               case rel => exact ⟨_, (false), (by first | rfl | (simp; done) | (simp [*]; done)), H', ⟨by have := HJ7.out; first | omega | exact Nat.le_refl _⟩, ⟨by refine ba ?_; refine blk_far ?_ qb.out _; refine ba ?_; refine blk_far ?_ qb.out _; refine ba ?_; exact q1.out⟩, ⟨by refine ba ?_; refine blk_far ?_ qc.out _; refine ba ?_; refine blk_far ?_ qc.out _; refine ba ?_; exact q2.out⟩, ⟨by refine ba ?_; refine blk_far ?_ qd.out _; refine ba ?_; refine blk_far ?_ qd.out _; refine ba ?_; exact q6.out⟩, ⟨by refine ba ?_; refine blk_put (cs := #[.int .i64 t409, .int .i64 0]) ?_ 1 _ rfl; refine ba ?_; refine blk_put (cs := #[.int .i64 0, .int .i64 0]) ?_ 0 _ rfl; refine ba ?_; exact q7.out⟩, ⟨by exact (q5_9)⟩⟩
           · replace c39 := Bool.eq_false_iff.mpr c39
             subst c39; (have H1 : (laws_FnCadences.j1 kj7 l0 t396 false false t397 t398 t405 t406) = some true := by rw [if_neg (show ¬ (false = true) by decide)] at H; exact H); clear H; have H := H1; clear H1; (have H' := q0_9 H); clear H; (go_wp2); (go_meet)
             case rel => exact ⟨_, (false), (by first | rfl | (simp; done) | (simp [*]; done)), H', ⟨by have := HJ7.out; first | omega | exact Nat.le_refl _⟩, ⟨by refine ba ?_; refine blk_far ?_ qb.out _; refine ba ?_; refine blk_far ?_ qb.out _; refine ba ?_; exact q1.out⟩, ⟨by refine ba ?_; refine blk_far ?_ qc.out _; refine ba ?_; refine blk_far ?_ qc.out _; refine ba ?_; exact q2.out⟩, ⟨by refine ba ?_; refine blk_far ?_ qd.out _; refine ba ?_; refine blk_far ?_ qd.out _; refine ba ?_; exact q6.out⟩, ⟨by refine ba ?_; refine blk_put (cs := #[.int .i64 t409, .int .i64 0]) ?_ 1 _ rfl; refine ba ?_; refine blk_put (cs := #[.int .i64 0, .int .i64 0]) ?_ 0 _ rfl; refine ba ?_; exact q7.out⟩, ⟨by exact (q5_9)⟩⟩
          case rest =>
           clear HC24; (try clear c1); (try clear c2); (try clear p2); (try clear c3); (try clear c4); (try clear c5); (try clear c6); (try clear p6); (try clear c7); (try clear c7b0); (try clear c7b1); (try clear c8); (try clear c9); (try clear c12); (try clear c19); (try clear c19b0); (try clear c21); (try clear c25); (try clear c29); (try clear c30); (try clear c35); (try clear c36); (try clear c37); (try clear c39); (try clear c40); (try clear c42); (try clear c43); (try clear c44); (try clear c46); (try clear c47); (try clear hcz13_0); (try clear hcz13_1); (try clear hcz14_0); (try clear hcz14_1); (try clear hcz16_0); (try clear hcz16_1); (try clear hcz17_0); (try clear hcz17_1); (try clear hcz26_0); (try clear hcz26_1); (try clear hcz31_0); (try clear hcz31_1); (try clear hcz32_0); (try clear hcz32_1); (try clear hcz38_0); (try clear hcz38_1); (try clear hcz45_0); (try clear hcz45_1); (try clear hcz48_0); (try clear hcz48_1); (try clear hfz13_0); (try clear hfz13_1); (try clear hfz14_0); (try clear hfz14_1); (try clear hfz16_0); (try clear hfz16_1); (try clear hfz17_0); (try clear hfz17_1); (try clear hfz26_0); (try clear hfz26_1); (try clear hfz31_0); (try clear hfz31_1); (try clear hfz32_0); (try clear hfz32_1); (try clear hfz38_0); (try clear hfz38_1); (try clear hfz45_0); (try clear hfz45_1); (try clear hfz48_0); (try clear hfz48_1); (try clear p2); obtain ⟨kq, x65_23, rfl, HA, HJ23, q1, q2, q6, q7, HB⟩ := hcut
           cases kq with
           | zero => exact absurd HA.out (by simp [laws_FnCadences.j1])
           | succ kj23 =>
            have H := HA.out; clear HA; (simp only [laws_FnCadences.j1] at H)
            by_cases c50 : x65_23 = true
            · subst c50
              have H1 := H; rw [if_pos rfl] at H1; clear H; have H := H1; clear H1; exact absurd H (by simp)
            · replace c50 := Bool.eq_false_iff.mpr c50
              subst c50; (have H1 : (if t407 = true then ((impl_IsOfKey.f kj23 (wrap64 (t396 + 1)) t405 t406).bind fun t414 => ((impl_IsOfKey.f kj23 t396 t397 t398).bind fun t415 => (if (t414 != t415) = true then (some false) else ((impl_DegreeOf.f kj23 (wrap64 (t396 + 1)) t405 t406).bind fun t416 => ((impl_DegreeOf.f kj23 t396 t397 t398).bind fun t417 => (if t416 = t417 then (laws_FnCadences.j2 kj23 l0) else (some false))))))) else (laws_FnCadences.j2 kj23 l0)) = some true := by rw [if_neg (show ¬ (false = true) by decide)] at H; exact H); clear H; have H := H1; clear H1
              by_cases c51 : t407 = true
              · subst c51
                have H1 := H; rw [if_pos rfl] at H1; clear H; have H := H1; clear H1; replace H := Option.bind_eq_some_iff.mp H; obtain ⟨t414, A520, H⟩ := H; (try dsimp only at H); have A52 := q0_9 A520; clear A520; replace H := Option.bind_eq_some_iff.mp H; obtain ⟨t415, A530, H⟩ := H; (try dsimp only at H); have A53 := q0_9 A530; clear A530
                by_cases c54 : (t414 != t415) = true
                · rw [if_pos c54] at H
                  (have c54b0 : (t414 != t415) = true := c54); ((try (have c54b1 : decide (t414 = t415) = false := by simpa using c54))); ((try (have c54b2 : (t414 == t415) = false := by simpa using c54))); ((try (have c54b3 : ¬ (t414 = t415) := by simpa using c54))); clear c54; exact absurd H (by simp)
                · rw [if_neg c54] at H
                  have c54b0 : (t414 != t415) = false := by simpa using c54
                  ((try (have c54b1 : decide (t414 = t415) = true := by simpa using c54))); ((try (have c54b2 : (t414 == t415) = true := by simpa using c54))); clear c54; replace H := Option.bind_eq_some_iff.mp H; obtain ⟨t416, A580, H⟩ := H; (try dsimp only at H); have A58 := q0_9 A580; clear A580; replace H := Option.bind_eq_some_iff.mp H; obtain ⟨t417, A590, H⟩ := H; (try dsimp only at H); have A59 := q0_9 A590; clear A590
                  by_cases c60 : t416 = t417
                  · rw [if_pos c60] at H
                    (have c60b0 : (t416 == t417) = true := beq_iff_eq.mpr c60); (have c60b1 : (t416 != t417) = false := bne_eq_false_iff_eq.mpr c60); clear c60; (have H' := q0_9 H); clear H; (try go_wp2); have n0_ := q0_9 (blk_drew q1.out); have n1_ := q0_9 (blk_drew q2.out); have n2_ := q0_9 (blk_drew q6.out); have n3_ := q0_9 (blk_drew q7.out); have n4_ := q0_9 (below_drew1 HB.out); clear q1 q2 q6 q7 HB; have q1 := n0_; have q2 := n1_; have q6 := n2_; have q7 := n3_; have HB := n4_; clear n0_ n1_ n2_ n3_ n4_; refine start_ (n := 21) (S := fun w' => w'.cell? ⟨qe, 0, none⟩ = some (.int .i64 t405) ∧ w'.cell? ⟨qe, 1, none⟩ = some (.int .i64 t406) ∧ w'.cell? ⟨q9, 0, none⟩ = some (.int .i64 t397) ∧ w'.cell? ⟨q9, 1, none⟩ = some (.int .i64 t398)) (ds := []) (bq 0 21) (by kernel_rfl) rfl rfl ⟨(blk_cell q6.out 0).trans rfl, (blk_cell q6.out 1).trans rfl, (blk_cell q1.out 0).trans rfl, (blk_cell q1.out 1).trans rfl⟩ (fun hHeld => ?_); refine with_tabW laws_FnCadences.tab12 laws_FnCadences.bits12 (fun HT_ HW_ => ?_); generalize wc.drew = w61 at q1 q2 q6 q7 HB hHeld ⊢; refine pure_ (i := 0) (N := some 66) (v := ?_) (a' := ?_) (bq 1 21) rfl rfl (any_of HT_.out (by kernel_rfl)) (fun _ _ _ h => h) (Or.inl ⟨by rfl, ?_⟩) ?_ ?_; rotate_left; (intro w'; go_simp; with_reducible rfl); rotate_left; (exact pb); refine pure_ (i := 1) (N := some 67) (v := ?_) (a' := ?_) (bq 3 21) rfl rfl (any_of HT_.out (by kernel_rfl)) (fun _ _ _ h => h) (Or.inl ⟨by rfl, ?_⟩) ?_ ?_; rotate_left; (intro w'; go_simp; with_reducible rfl); rotate_left; (exact pb); refine pure_ (i := 2) (N := some 68) (v := ?_) (a' := ?_) (bq 7 21) rfl rfl (any_of HT_.out (by kernel_rfl)) (fun _ _ _ h => h) (Or.inl ⟨by rfl, ?_⟩) ?_ ?_; rotate_left; (intro w'; go_simp; with_reducible rfl); rotate_left; (exact pb); refine pure_ (i := 3) (N := some 69) (v := ?_) (a' := ?_) (bq 15 21) rfl rfl (any_of HT_.out (by kernel_rfl)) (fun _ _ _ h => h) (Or.inl ⟨by rfl, ?_⟩) ?_ ?_; rotate_left; (intro w'; go_simp; with_reducible rfl); rotate_left; (exact pb); refine pure_ (i := 6) (N := some 72) (v := ?_) (a' := ?_) (bq 79 21) rfl rfl (any_of HT_.out (by kernel_rfl)) (fun _ _ _ h => h) (Or.inl ⟨by rfl, ?_⟩) ?_ ?_; rotate_left; (intro w'; go_simp; with_reducible rfl); rotate_left; (exact pb); refine take_ (i := 4) (N := some 70) (v := ?_) (a' := ?_) (bq 95 21) rfl rfl (take_ofW HT_.out HW_.out (by kernel_rfl)) (fun _ _ _ h => h) (Or.inl ⟨by rfl, ?_⟩) hHeld ?_ ?_; rotate_left; (rintro w' ⟨s0, s1, s2, s3⟩; go_simp; with_reducible rfl); rotate_left; (exact pb); refine take_ (i := 7) (N := some 73) (v := ?_) (a' := ?_) (bq 223 21) rfl rfl (take_ofW HT_.out HW_.out (by kernel_rfl)) (fun _ _ _ h => h) (Or.inl ⟨by rfl, ?_⟩) hHeld ?_ ?_; rotate_left; (rintro w' ⟨s0, s1, s2, s3⟩; go_simp; with_reducible rfl); rotate_left; (exact pb); refine one_ (i := 5) (N := some 71) (bq 255 21) rfl rfl (one_of HT_.out (by kernel_rfl)) (by decide) (fun K hK => ?_)
                    refine goes_ Try.func10 (by kernel_rfl) rfl #[.int .i64 (wrap64 (t396 + 1)), .agg #[.int .i64 t405, .int .i64 t406]] (by rfl) rfl rfl ma ?_; (with_reducible refine (impl_IsOfKey.calls kj23 (wrap64 (t396 + 1)) t405 t406 t414 _ A52.out).mono ?_); rintro e w62 ⟨rfl, hb⟩; refine ⟨_, rfl, ?_⟩; have n0_ := q0_9 (bb q1.out hb); have n1_ := q0_9 (bb q2.out hb); have n2_ := q0_9 (bb q6.out hb); have n3_ := q0_9 (bb q7.out hb); have n4_ := q0_9 (below_step (q5_9) hb); clear q1 q2 q6 q7 HB; have q1 := n0_; have q2 := n1_; have q6 := n2_; have q7 := n3_; have HB := n4_; clear n0_ n1_ n2_ n3_ n4_; ((try clear hb)); ((try clear hb2)); ((try clear hk)); ((try clear hi)); refine hK.out _ _ ⟨(blk_cell q6.out 0).trans rfl, (blk_cell q6.out 1).trans rfl, (blk_cell q1.out 0).trans rfl, (blk_cell q1.out 1).trans rfl⟩ (fun hHeld => ?_); clear hK K; refine norm_ (a' := ?_) ?_ ?_; rotate_left; ((show Act.put _ (some 71) _ = _); simp only [Act.put, List.setIfInBounds_toArray, List.set_cons_zero, List.set_cons_succ, i64_w, i32_w]; rfl); refine one_ (i := 8) (N := some 74) (bq 511 21) rfl rfl (one_of HT_.out (by kernel_rfl)) (by decide) (fun K hK => ?_); refine goes_ Try.func10 (by kernel_rfl) rfl #[.int .i64 t396, .agg #[.int .i64 t397, .int .i64 t398]] (by rfl) rfl rfl ma ?_; (with_reducible refine (impl_IsOfKey.calls kj23 t396 t397 t398 t415 _ A53.out).mono ?_); rintro e w63 ⟨rfl, hb⟩; refine ⟨_, rfl, ?_⟩; have n0_ := q0_9 (bb q1.out hb); have n1_ := q0_9 (bb q2.out hb); have n2_ := q0_9 (bb q6.out hb); have n3_ := q0_9 (bb q7.out hb); have n4_ := q0_9 (below_step (q5_9) hb); clear q1 q2 q6 q7 HB; have q1 := n0_; have q2 := n1_; have q6 := n2_; have q7 := n3_; have HB := n4_; clear n0_ n1_ n2_ n3_ n4_; ((try clear hb)); ((try clear hb2)); ((try clear hk)); ((try clear hi)); refine hK.out _ _ ⟨(blk_cell q6.out 0).trans rfl, (blk_cell q6.out 1).trans rfl, (blk_cell q1.out 0).trans rfl, (blk_cell q1.out 1).trans rfl⟩ (fun hHeld => ?_); clear hK K; refine norm_ (a' := ?_) ?_ ?_; rotate_left; ((show Act.put _ (some 74) _ = _); simp only [Act.put, List.setIfInBounds_toArray, List.set_cons_zero, List.set_cons_succ, i64_w, i32_w]; rfl); refine pure_ (i := 9) (N := some 75) (v := ?_) (a' := ?_) (bq 1023 21) rfl rfl (any_of HT_.out (by kernel_rfl)) (fun _ _ _ h => h) (Or.inl ⟨by rfl, ?_⟩) ?_ ?_; rotate_left; (intro w'; go_simp; with_reducible rfl); rotate_left; (exact pb); refine pure_ (i := 10) (N := some 76) (v := ?_) (a' := ?_) (bq 2047 21) rfl rfl (any_of HT_.out (by kernel_rfl)) (fun _ _ _ h => h) (Or.inl ⟨by rfl, ?_⟩) ?_ ?_; rotate_left; (intro w'; go_simp; with_reducible rfl); rotate_left; (exact pb); refine pure_ (i := 11) (N := some 77) (v := ?_) (a' := ?_) (bq 4095 21) rfl rfl (any_of HT_.out (by kernel_rfl)) (fun _ _ _ h => h) (Or.inl ⟨by rfl, ?_⟩) ?_ ?_; rotate_left; (intro w'; go_simp; with_reducible rfl)
                    rotate_left; (exact pb); refine pure_ (i := 12) (N := some 78) (v := ?_) (a' := ?_) (bq 8191 21) rfl rfl (any_of HT_.out (by kernel_rfl)) (fun _ _ _ h => h) (Or.inl ⟨by rfl, ?_⟩) ?_ ?_; rotate_left; (intro w'; go_simp; with_reducible rfl); rotate_left; (exact pb); refine pure_ (i := 15) (N := some 81) (v := ?_) (a' := ?_) (bq 40959 21) rfl rfl (any_of HT_.out (by kernel_rfl)) (fun _ _ _ h => h) (Or.inl ⟨by rfl, ?_⟩) ?_ ?_; rotate_left; (intro w'; go_simp; with_reducible rfl); rotate_left; (exact pb); refine take_ (i := 13) (N := some 79) (v := ?_) (a' := ?_) (bq 49151 21) rfl rfl (take_ofW HT_.out HW_.out (by kernel_rfl)) (fun _ _ _ h => h) (Or.inl ⟨by rfl, ?_⟩) hHeld ?_ ?_; rotate_left; (rintro w' ⟨s0, s1, s2, s3⟩; go_simp; with_reducible rfl); rotate_left; (exact pb); refine take_ (i := 16) (N := some 82) (v := ?_) (a' := ?_) (bq 114687 21) rfl rfl (take_ofW HT_.out HW_.out (by kernel_rfl)) (fun _ _ _ h => h) (Or.inl ⟨by rfl, ?_⟩) hHeld ?_ ?_; rotate_left; (rintro w' ⟨s0, s1, s2, s3⟩; go_simp; with_reducible rfl); rotate_left; (exact pb); refine one_ (i := 14) (N := some 80) (bq 131071 21) rfl rfl (one_of HT_.out (by kernel_rfl)) (by decide) (fun K hK => ?_); refine goes_ Try.func11 (by kernel_rfl) rfl #[.int .i64 (wrap64 (t396 + 1)), .agg #[.int .i64 t405, .int .i64 t406]] (by rfl) rfl rfl ma ?_; (with_reducible refine (impl_DegreeOf.calls kj23 (wrap64 (t396 + 1)) t405 t406 t416 _ A58.out).mono ?_); rintro e w64 ⟨rfl, hb⟩; refine ⟨_, rfl, ?_⟩; have n0_ := q0_9 (bb q1.out hb); have n1_ := q0_9 (bb q2.out hb); have n2_ := q0_9 (bb q6.out hb); have n3_ := q0_9 (bb q7.out hb); have n4_ := q0_9 (below_step (q5_9) hb); clear q1 q2 q6 q7 HB; have q1 := n0_; have q2 := n1_; have q6 := n2_; have q7 := n3_; have HB := n4_; clear n0_ n1_ n2_ n3_ n4_; ((try clear hb)); ((try clear hb2)); ((try clear hk)); ((try clear hi)); refine hK.out _ _ ⟨(blk_cell q6.out 0).trans rfl, (blk_cell q6.out 1).trans rfl, (blk_cell q1.out 0).trans rfl, (blk_cell q1.out 1).trans rfl⟩ (fun hHeld => ?_); clear hK K; refine norm_ (a' := ?_) ?_ ?_; rotate_left; ((show Act.put _ (some 80) _ = _); simp only [Act.put, List.setIfInBounds_toArray, List.set_cons_zero, List.set_cons_succ, i64_w, i32_w]; rfl); refine one_ (i := 17) (N := some 83) (bq 262143 21) rfl rfl (one_of HT_.out (by kernel_rfl)) (by decide) (fun K hK => ?_); refine goes_ Try.func11 (by kernel_rfl) rfl #[.int .i64 t396, .agg #[.int .i64 t397, .int .i64 t398]] (by rfl) rfl rfl ma ?_; (with_reducible refine (impl_DegreeOf.calls kj23 t396 t397 t398 t417 _ A59.out).mono ?_); rintro e w65 ⟨rfl, hb⟩; refine ⟨_, rfl, ?_⟩; have n0_ := q0_9 (bb q1.out hb); have n1_ := q0_9 (bb q2.out hb); have n2_ := q0_9 (bb q6.out hb); have n3_ := q0_9 (bb q7.out hb); have n4_ := q0_9 (below_step (q5_9) hb); clear q1 q2 q6 q7 HB; have q1 := n0_; have q2 := n1_; have q6 := n2_
                    have q7 := n3_; have HB := n4_; clear n0_ n1_ n2_ n3_ n4_; ((try clear hb)); ((try clear hb2)); ((try clear hk)); ((try clear hi)); refine hK.out _ _ ⟨(blk_cell q6.out 0).trans rfl, (blk_cell q6.out 1).trans rfl, (blk_cell q1.out 0).trans rfl, (blk_cell q1.out 1).trans rfl⟩ (fun hHeld => ?_); clear hK K; refine norm_ (a' := ?_) ?_ ?_; rotate_left; ((show Act.put _ (some 83) _ = _); simp only [Act.put, List.setIfInBounds_toArray, List.set_cons_zero, List.set_cons_succ, i64_w, i32_w]; rfl); refine pure_ (i := 18) (N := some 84) (v := ?_) (a' := ?_) (bq 524287 21) rfl rfl (any_of HT_.out (by kernel_rfl)) (fun _ _ _ h => h) (Or.inl ⟨by rfl, ?_⟩) ?_ ?_; rotate_left; (intro w'; go_simp; with_reducible rfl); rotate_left; (exact pb); refine pure_ (i := 19) (N := some 85) (v := ?_) (a' := ?_) (bq 1048575 21) rfl rfl (any_of HT_.out (by kernel_rfl)) (fun _ _ _ h => h) (Or.inl ⟨by rfl, ?_⟩) ?_ ?_; rotate_left; (intro w'; go_simp; with_reducible rfl); rotate_left; (exact pb); refine pure_ (i := 20) (N := some 86) (v := ?_) (a' := ?_) (bq 2097151 21) rfl rfl (any_of HT_.out (by kernel_rfl)) (fun _ _ _ h => h) (Or.inl ⟨by rfl, ?_⟩) ?_ ?_; rotate_left; (intro w'; go_simp; with_reducible rfl); rotate_left; (exact pb); refine done_ (done_of HT_.out (by kernel_rfl)) ?_; (try go_wp2); (go_meet)
                    case rel => exact ⟨_, H', ⟨by have := HJ7.out; have := HJ23.out; first | omega | exact Nat.le_refl _⟩, ⟨by refine ba ?_; exact q1.out⟩, ⟨by refine ba ?_; exact q2.out⟩, ⟨by exact (q5_9)⟩⟩
                  · rw [if_neg c60] at H
                    (have c60b0 : (t416 == t417) = false := beq_eq_false_iff_ne.mpr c60); (have c60b1 : (t416 != t417) = true := bne_iff_ne.mpr c60); exact absurd H (by simp)
              · replace c51 := Bool.eq_false_iff.mpr c51
                subst c51; (have H1 : (laws_FnCadences.j2 kj23 l0) = some true := by rw [if_neg (show ¬ (false = true) by decide)] at H; exact H); clear H; have H := H1; clear H1; (have H' := q0_9 H); clear H; (try go_wp2); have n0_ := q0_9 (blk_drew q1.out); have n1_ := q0_9 (blk_drew q2.out); have n2_ := q0_9 (blk_drew q6.out); have n3_ := q0_9 (blk_drew q7.out); have n4_ := q0_9 (below_drew1 HB.out); clear q1 q2 q6 q7 HB; have q1 := n0_; have q2 := n1_; have q6 := n2_; have q7 := n3_; have HB := n4_; clear n0_ n1_ n2_ n3_ n4_; refine start_ (n := 21) (S := fun w' => True) (ds := []) (bq 0 21) (by kernel_rfl) rfl rfl trivial (fun hHeld => ?_); refine with_tabW laws_FnCadences.tab12 laws_FnCadences.bits12 (fun HT_ HW_ => ?_); generalize wc.drew = w71 at q1 q2 q6 q7 HB hHeld ⊢; refine pure_ (i := 0) (N := some 66) (v := ?_) (a' := ?_) (bq 1 21) rfl rfl (any_of HT_.out (by kernel_rfl)) (fun _ _ _ h => h) (Or.inl ⟨by rfl, ?_⟩) ?_ ?_; rotate_left; (intro w'; go_simp; with_reducible rfl); rotate_left; (exact pb); refine pure_ (i := 1) (N := some 67) (v := ?_) (a' := ?_) (bq 3 21) rfl rfl (any_of HT_.out (by kernel_rfl)) (fun _ _ _ h => h) (Or.inl ⟨by rfl, ?_⟩) ?_ ?_; rotate_left; (intro w'; go_simp; with_reducible rfl); rotate_left; (exact pb); refine pure_ (i := 2) (N := some 68) (v := undef) (a' := ?_) (bq 7 21) rfl rfl (any_of HT_.out (by kernel_rfl)) (fun _ _ _ h => h) (Or.inr ⟨by rfl, rfl⟩) ?_ ?_; rotate_left; (exact pb); refine pure_ (i := 3) (N := some 69) (v := undef) (a' := ?_) (bq 15 21) rfl rfl (any_of HT_.out (by kernel_rfl)) (fun _ _ _ h => h) (Or.inr ⟨by rfl, rfl⟩) ?_ ?_; rotate_left; (exact pb); refine pure_ (i := 4) (N := some 70) (v := undef) (a' := ?_) (bq 31 21) rfl rfl (any_of HT_.out (by kernel_rfl)) (fun _ _ _ h => h) (Or.inr ⟨by rfl, rfl⟩) ?_ ?_; rotate_left; (exact pb); refine pure_ (i := 5) (N := some 71) (v := undef) (a' := ?_) (bq 63 21) rfl rfl (any_of HT_.out (by kernel_rfl)) (fun _ _ _ h => h) (Or.inr ⟨by rfl, rfl⟩) ?_ ?_; rotate_left; (exact pb); refine pure_ (i := 6) (N := some 72) (v := undef) (a' := ?_) (bq 127 21) rfl rfl (any_of HT_.out (by kernel_rfl)) (fun _ _ _ h => h) (Or.inr ⟨by rfl, rfl⟩) ?_ ?_; rotate_left; (exact pb); refine pure_ (i := 7) (N := some 73) (v := undef) (a' := ?_) (bq 255 21) rfl rfl (any_of HT_.out (by kernel_rfl)) (fun _ _ _ h => h) (Or.inr ⟨by rfl, rfl⟩) ?_ ?_; rotate_left; (exact pb); refine pure_ (i := 8) (N := some 74) (v := undef) (a' := ?_) (bq 511 21) rfl rfl (any_of HT_.out (by kernel_rfl)) (fun _ _ _ h => h) (Or.inr ⟨by rfl, rfl⟩) ?_ ?_; rotate_left; (exact pb); refine pure_ (i := 9) (N := some 75) (v := undef) (a' := ?_) (bq 1023 21) rfl rfl (any_of HT_.out (by kernel_rfl)) (fun _ _ _ h => h) (Or.inr ⟨by rfl, rfl⟩) ?_ ?_; rotate_left; (exact pb); refine pure_ (i := 10) (N := some 76) (v := undef) (a' := ?_) (bq 2047 21) rfl rfl (any_of HT_.out (by kernel_rfl)) (fun _ _ _ h => h) (Or.inr ⟨by rfl, rfl⟩) ?_ ?_; rotate_left; (exact pb)
                refine pure_ (i := 11) (N := some 77) (v := undef) (a' := ?_) (bq 4095 21) rfl rfl (any_of HT_.out (by kernel_rfl)) (fun _ _ _ h => h) (Or.inr ⟨by rfl, rfl⟩) ?_ ?_; rotate_left; (exact pb); refine pure_ (i := 12) (N := some 78) (v := undef) (a' := ?_) (bq 8191 21) rfl rfl (any_of HT_.out (by kernel_rfl)) (fun _ _ _ h => h) (Or.inr ⟨by rfl, rfl⟩) ?_ ?_; rotate_left; (exact pb); refine pure_ (i := 13) (N := some 79) (v := undef) (a' := ?_) (bq 16383 21) rfl rfl (any_of HT_.out (by kernel_rfl)) (fun _ _ _ h => h) (Or.inr ⟨by rfl, rfl⟩) ?_ ?_; rotate_left; (exact pb); refine pure_ (i := 14) (N := some 80) (v := undef) (a' := ?_) (bq 32767 21) rfl rfl (any_of HT_.out (by kernel_rfl)) (fun _ _ _ h => h) (Or.inr ⟨by rfl, rfl⟩) ?_ ?_; rotate_left; (exact pb); refine pure_ (i := 15) (N := some 81) (v := undef) (a' := ?_) (bq 65535 21) rfl rfl (any_of HT_.out (by kernel_rfl)) (fun _ _ _ h => h) (Or.inr ⟨by rfl, rfl⟩) ?_ ?_; rotate_left; (exact pb); refine pure_ (i := 16) (N := some 82) (v := undef) (a' := ?_) (bq 131071 21) rfl rfl (any_of HT_.out (by kernel_rfl)) (fun _ _ _ h => h) (Or.inr ⟨by rfl, rfl⟩) ?_ ?_; rotate_left; (exact pb); refine pure_ (i := 17) (N := some 83) (v := undef) (a' := ?_) (bq 262143 21) rfl rfl (any_of HT_.out (by kernel_rfl)) (fun _ _ _ h => h) (Or.inr ⟨by rfl, rfl⟩) ?_ ?_; rotate_left; (exact pb); refine pure_ (i := 18) (N := some 84) (v := undef) (a' := ?_) (bq 524287 21) rfl rfl (any_of HT_.out (by kernel_rfl)) (fun _ _ _ h => h) (Or.inr ⟨by rfl, rfl⟩) ?_ ?_; rotate_left; (exact pb); refine pure_ (i := 19) (N := some 85) (v := undef) (a' := ?_) (bq 1048575 21) rfl rfl (any_of HT_.out (by kernel_rfl)) (fun _ _ _ h => h) (Or.inr ⟨by rfl, rfl⟩) ?_ ?_; rotate_left; (exact pb); refine pure_ (i := 20) (N := some 86) (v := ?_) (a' := ?_) (bq 2097151 21) rfl rfl (any_of HT_.out (by kernel_rfl)) (fun _ _ _ h => h) (Or.inl ⟨by rfl, ?_⟩) ?_ ?_; rotate_left; (intro w'; go_simp; with_reducible rfl); rotate_left; (exact pb); refine done_ (done_of HT_.out (by kernel_rfl)) ?_; (try go_wp2); (go_meet)
                case rel => exact ⟨_, H', ⟨by have := HJ7.out; have := HJ23.out; first | omega | exact Nat.le_refl _⟩, ⟨by refine ba ?_; exact q1.out⟩, ⟨by refine ba ?_; exact q2.out⟩, ⟨by exact (q5_9)⟩⟩
        · replace c21 := Bool.eq_false_iff.mpr c21
          subst c21; (have H1 : (laws_FnCadences.j2 kj7 l0) = some true := by rw [if_neg (show ¬ (false = true) by decide)] at H; exact H); clear H; have H := H1; clear H1; (have H' := q0_9 H); clear H; (go_wp2); (go_meet)
          case rel => exact ⟨_, H', ⟨by have := HJ7.out; first | omega | exact Nat.le_refl _⟩, ⟨by refine ba ?_; exact q1.out⟩, ⟨by refine ba ?_; exact q2.out⟩, ⟨by exact (q3_9)⟩⟩
       case rest =>
        clear HC20; (try clear c1); (try clear c2); (try clear p2); (try clear c5); (try clear c6); (try clear p6); (try clear c10); (try clear c11); (try clear c21); (try clear c51); (try clear c60); (try clear c60b0); (try clear c60b1); (try clear p64); obtain ⟨kq, HA, HJ19, q1, q2, HB⟩ := hcut
        cases kq with
        | zero => exact absurd HA.out (by simp [laws_FnCadences.j2])
        | succ kj19 =>
         have H := HA.out; clear HA; (simp only [laws_FnCadences.j2] at H); replace H := Option.bind_eq_some_iff.mp H; obtain ⟨⟨t418, t419⟩, A720, H⟩ := H; (try dsimp only at H); have A72 := q0_9 A720; clear A720; replace H := Option.bind_eq_some_iff.mp H; obtain ⟨t422, A730, H⟩ := H; (try dsimp only at H); have A73 := q0_9 A730; clear A730; (have H' := q0_9 H); clear H; (go_wp2_with (first | ((with_reducible refine gate_callee (f := 12) rfl ?_); refine goesL_ (some 89) rfl rfl Try.func12 (by kernel_rfl) rfl #[.slice A0 l0.length c0] rfl ma ?_; (with_reducible refine (spec_DrawPhrasesOf.calls kj19 _ _ l0 t418 t419 _ ?side1 ?side2 A72.out).mono ?_); (case side1 => exact ca (Kd.C_below HR0.out HB.out)); (case side2 => exact HC0.out); rintro e w74 ⟨v420, rfl, ho0, hb⟩; refine ⟨_, rfl, ?_⟩; have n0_ := q0_9 (Kd.R_lower (Kd.R_newB (Kd.R_newB ho0 (g := q9) (o := .cells #[.int .i64 t397, .int .i64 t398] 25 (0, 0)) (ba q1.out)) (g := qa) (o := .cells #[.int .i64 t399, .int .i64 t400] 25 (0, 0)) (ba q2.out)) (below_size (q3_9))); have n1_ := q0_9 (bb q1.out hb); have n2_ := q0_9 (bb q2.out hb); have n3_ := q0_9 (below_step (q3_9) hb); clear q1; clear q2; clear HB; have qo := n0_; have q1 := n1_; have q2 := n2_; have HB := n3_; clear n0_ n1_ n2_ n3_; (try clear hb); (try clear hb2); (try clear hk); (try clear hi); (try clear ho0); obtain ⟨z00, z01, eo75⟩ := Kd.R_slice qo.out; subst eo75) | ((with_reducible refine gate_callee (f := 13) rfl ?_); refine goesL_ (some 94) rfl rfl Try.func13 (by kernel_rfl) rfl #[.int .i64 t418, .slice z00 t419.length z01] rfl ma ?_; (with_reducible refine (impl_PhrasesOf.calls kj19 t418 _ _ t419 t422 _ ?side1 ?side2 A73.out).mono ?_); (case side1 => exact ca (Kd.R_reads' qo.out).2.2); (case side2 => exact (Kd.R_reads' qo.out).2.1); rintro e w76 ⟨v423, rfl, ho0, hb⟩; refine ⟨_, rfl, ?_⟩; have n0_ := q0_9 (Kd.R_below (ra qo.out) hb); have n1_ := q0_9 (Kd.R_lower ho0 (below_size (q3_9))); have n2_ := q0_9 (bb q1.out hb); have n3_ := q0_9 (bb q2.out hb); have n4_ := q0_9 (below_step (q3_9) hb); clear qo; clear q1; clear q2; clear HB; have qo := n0_; have z02 := n1_; have q1 := n2_; have q2 := n3_; have HB := n4_; clear n0_ n1_ n2_ n3_ n4_; (try clear hb); (try clear hb2); (try clear hk); (try clear hi); (try clear ho0)))); (go_loopg [14] kj19 (fun kq v14 w' => ∃ (x14_3 : Int), v14 = .int .i64 x14_3 ∧ Aside0 (laws_FnCadences.l0 kq l0 t418 t419 t422 x14_3 = some true) ∧ Aside0 (kq ≤ kj19) ∧ Aside0 (Kd.R k25 25 w' w.heap.size (fun k_ => k_ ≠ q9 ∧ k_ ≠ qa) (.slice z00 t419.length z01) t419) ∧ Aside0 (Kd.R (Kd.int .i64) 3 w' w.heap.size (fun _ => True) v423 t422) ∧ Aside0 (w'.heap[q9]? = some (.cells #[.int .i64 t397, .int .i64 t398] 25 (0, 0))) ∧ Aside0 (w'.heap[qa]? = some (.cells #[.int .i64 t399, .int .i64 t400] 25 (0, 0))) ∧ Aside0 (Below w.heap.size w w')))
         case atStart => exact ⟨(0), (by first | rfl | (simp; done) | (simp [*]; done)), H', ⟨Nat.le_refl _⟩, ⟨by refine ra ?_; exact Kd.R_mono qo.out (fun _ hk => ⟨hk.1.2, hk.2⟩)⟩, ⟨by refine ra ?_; exact z02.out⟩, ⟨by refine ba ?_; exact q1.out⟩, ⟨by refine ba ?_; exact q2.out⟩, ⟨by exact (q3_9)⟩⟩
         case round =>
          clear H'; (try clear c1); (try clear c2); (try clear p2); (try clear c5); (try clear c6); (try clear p6); (try clear c10); (try clear c11); (try clear c12); (try clear c13); (try clear c21); (try clear c51); (try clear c60); (try clear c60b0); (try clear c60b1); (try clear p64); (try clear p2); (try clear p6); (try clear p64); obtain ⟨x14_3, rfl, HA, HK3, qi, q8, q1, q2, HB⟩ := hrel
          cases gk with
          | zero => exact absurd HA.out (by simp [laws_FnCadences.l0])
          | succ k3 =>
           have H := HA.out; clear HA; (simp only [laws_FnCadences.l0] at H)
           by_cases c77 : x14_3 < (t422.length : Int)
           · rw [if_pos c77] at H
             (have c77b0 : decide (x14_3 < (t422.length : Int)) = true := decide_eq_true c77); clear c77
             by_cases c78 : 0 ≤ x14_3
             · rw [if_pos c78] at H
               (have c78b0 : decide (0 ≤ x14_3) = true := decide_eq_true c78); clear c78
               by_cases c79 : (rd t422 x14_3) < 1
               · rw [if_pos c79] at H
                 (have c79b0 : decide ((rd t422 x14_3) < 1) = true := decide_eq_true c79); clear c79; exact absurd H (by simp)
               · rw [if_neg c79] at H
                 (have c79b0 : decide ((rd t422 x14_3) < 1) = false := decide_eq_false c79); clear c79
                 by_cases c81 : (rd t422 x14_3) ≥ (t419.length : Int)
                 · rw [if_pos c81] at H
                   (have c81b0 : decide ((t419.length : Int) ≤ (rd t422 x14_3)) = true := decide_eq_true c81); clear c81; exact absurd H (by simp)
                 · rw [if_neg c81] at H
                   (have c81b0 : decide ((t419.length : Int) ≤ (rd t422 x14_3)) = false := decide_eq_false c81); clear c81
                   by_cases c83 : 0 ≤ (rd t422 x14_3)
                   · rw [if_pos c83] at H
                     (have c83b0 : decide (0 ≤ (rd t422 x14_3)) = true := decide_eq_true c83); clear c83
                     by_cases c84 : (rd t422 x14_3) < (t419.length : Int)
                     · rw [if_pos c84] at H
                       (have c84b0 : decide ((rd t422 x14_3) < (t419.length : Int)) = true := decide_eq_true c84); clear c84; replace H := Option.bind_eq_some_iff.mp H; obtain ⟨t429, A850, H⟩ := H; (try dsimp only at H); have A85 := q0_9 A850; clear A850
                       by_cases c86 : t429 = 1
                       · rw [if_pos c86] at H
                         (have c86b0 : (t429 == 1) = true := beq_iff_eq.mpr c86); (have c86b1 : (t429 != 1) = false := bne_eq_false_iff_eq.mpr c86); clear c86; (have H' := q0_9 H); clear H; obtain ⟨z0d, z0e, eo87⟩ := Kd.R_slice q8.out; subst eo87; (have p425 : 0 ≤ (x14_3 : Int) := of_decide_eq_true (by first | (with_reducible assumption) | assumption)); (have q425 : x14_3 < (t422.length : Int) := of_decide_eq_true (by first | (with_reducible assumption) | assumption)); obtain ⟨ad425, e425, hx425_0⟩ := Kd.at_int (Kd.R_reads' q8.out).2.2 x14_3 p425 q425
                         cases e425
                         replace p425 := eq_true p425; replace q425 := eq_true q425; (have p426 : 0 ≤ (x14_3 : Int) := of_decide_eq_true (by first | (with_reducible assumption) | assumption)); (have q426 : x14_3 < (t422.length : Int) := of_decide_eq_true (by first | (with_reducible assumption) | assumption)); obtain ⟨ad426, e426, hx426_0⟩ := Kd.at_int (Kd.R_reads' q8.out).2.2 x14_3 p426 q426; obtain rfl : ad425 = ad426 := (by injection e426); replace p426 := eq_true p426; replace q426 := eq_true q426; (have p427 : 0 ≤ (x14_3 : Int) := of_decide_eq_true (by first | (with_reducible assumption) | assumption)); (have q427 : x14_3 < (t422.length : Int) := of_decide_eq_true (by first | (with_reducible assumption) | assumption)); obtain ⟨ad427, e427, hx427_0⟩ := Kd.at_int (Kd.R_reads' q8.out).2.2 x14_3 p427 q427; obtain rfl : ad425 = ad427 := (by injection e427); replace p427 := eq_true p427; replace q427 := eq_true q427; (have p428 : 0 ≤ ((rd t422 x14_3) : Int) := of_decide_eq_true (by first | (with_reducible assumption) | assumption)); (have q428 : (rd t422 x14_3) < (t419.length : Int) := of_decide_eq_true (by first | (with_reducible assumption) | assumption)); obtain ⟨ad428, e428, hx428_0, hx428_1⟩ := at_T25 (Kd.R_reads' qi.out).2.2 (rd t422 x14_3) p428 q428
                         cases e428
                         replace p428 := eq_true p428; replace q428 := eq_true q428; (go_wp2_with (first | (go_at_call 11; (with_reducible refine (impl_DegreeOf.calls k3 t418 ((rd_T25 t419 (rd t422 x14_3)).f0) ((rd_T25 t419 (rd t422 x14_3)).f1) t429 _ A85.out).mono ?_); rintro e w88 ⟨rfl, hb⟩; have n0_ := q0_9 (Kd.R_below (ra qi.out) hb); have n1_ := q0_9 (Kd.R_below (ra q8.out) hb); have n2_ := q0_9 (bb q1.out hb); have n3_ := q0_9 (bb q2.out hb); have n4_ := q0_9 (below_step (q3_9) hb); clear qi; clear q8; clear q1; clear q2; clear HB; have qi := n0_; have q8 := n1_; have q1 := n2_; have q2 := n3_; have HB := n4_; clear n0_ n1_ n2_ n3_ n4_; (try clear hb); (try clear hb2); (try clear hk); (try clear hi)))); (go_roundg k3)
                         case measure => have := HJ7.out; have := HJ19.out; have := HK3.out; omega
                         case rel => exact ⟨(wrap64 (x14_3 + 1)), (by first | rfl | (simp; done) | (simp [*]; done)), H', ⟨by have := HJ7.out; have := HJ19.out; have := HK3.out; omega⟩, ⟨by refine ra ?_; exact qi.out⟩, ⟨by refine ra ?_; exact q8.out⟩, ⟨by refine ba ?_; exact q1.out⟩, ⟨by refine ba ?_; exact q2.out⟩, ⟨by exact (q3_9)⟩⟩
                       · rw [if_neg c86] at H
                         (have c86b0 : (t429 == 1) = false := beq_eq_false_iff_ne.mpr c86); (have c86b1 : (t429 != 1) = true := bne_iff_ne.mpr c86); exact absurd H (by simp)
                     · rw [if_neg c84] at H
                       exact absurd H (by simp)
                   · rw [if_neg c83] at H
                     exact absurd H (by simp)
             · rw [if_neg c78] at H
               exact absurd H (by simp)
           · rw [if_neg c77] at H
             (have c77b0 : decide (x14_3 < (t422.length : Int)) = false := decide_eq_false c77); clear c77; replace H := Option.bind_eq_some_iff.mp H; obtain ⟨t430, A910, H⟩ := H; (try dsimp only at H); have A91 := q0_9 A910; clear A910; replace H := Option.bind_eq_some_iff.mp H; obtain ⟨t433, A920, H⟩ := H; (try dsimp only at H); have A92 := q0_9 A920; clear A920; (have H' := q0_9 H); clear H; obtain ⟨qw, qx, eo93⟩ := Kd.R_slice q8.out; subst eo93; (go_wp2_with (first | ((with_reducible refine gate_callee (f := 14) rfl ?_); refine goesL_ (some 128) rfl rfl Try.func14 (by kernel_rfl) rfl #[.slice A0 l0.length c0] rfl ma ?_; (with_reducible refine (spec_DrawKeysFor.calls k3 _ _ l0 t430 _ ?side1 ?side2 A91.out).mono ?_); (case side1 => exact ca (Kd.C_below HR0.out HB.out)); (case side2 => exact HC0.out); rintro e w94 ⟨v431, rfl, ho0, hb⟩; refine ⟨_, rfl, ?_⟩; have n0_ := q0_9 (Kd.R_elder' (ra qi.out) (Kd.R_base ho0) hb); have n1_ := q0_9 (Kd.R_below (ra q8.out) hb); have n2_ := q0_9 (Kd.R_lower (Kd.R_newB (Kd.R_newB (Kd.R_new' ho0 (Kd.R_lt (ra qi.out))) (g := q9) (o := .cells #[.int .i64 t397, .int .i64 t398] 25 (0, 0)) (ba q1.out)) (g := qa) (o := .cells #[.int .i64 t399, .int .i64 t400] 25 (0, 0)) (ba q2.out)) (below_size (q3_9))); have n3_ := q0_9 (bb q1.out hb); have n4_ := q0_9 (bb q2.out hb); have n5_ := q0_9 (below_step (q3_9) hb); clear qi; clear q8; clear q1; clear q2; clear HB; have qi := n0_; have q8 := n1_; have qp := n2_; have q1 := n3_; have q2 := n4_; have HB := n5_; clear n0_ n1_ n2_ n3_ n4_ n5_; (try clear hb); (try clear hb2); (try clear hk); (try clear hi); (try clear ho0); obtain ⟨qy, qz, eo95⟩ := Kd.R_slice qp.out; subst eo95) | ((with_reducible refine gate_callee (f := 15) rfl ?_); refine goesL_ (some 130) rfl rfl Try.func15 (by kernel_rfl) rfl #[.slice qy t430.length qz] rfl ma ?_; (with_reducible refine (impl_KeysFor.calls k3 _ _ t430 t433 _ ?side1 ?side2 A92.out).mono ?_); (case side1 => exact ca (Kd.R_reads' qp.out).2.2); (case side2 => exact (Kd.R_reads' qp.out).2.1); rintro e w96 ⟨v434, rfl, ho0, hb⟩; refine ⟨_, rfl, ?_⟩; have n0_ := q0_9 (Kd.R_below (ra qi.out) hb); have n1_ := q0_9 (Kd.R_elder' (ra q8.out) (Kd.R_base ho0) hb); have n2_ := q0_9 (Kd.R_below (ra qp.out) hb); have n3_ := q0_9 (Kd.R_lower (Kd.R_new' ho0 (Kd.R_lt (ra q8.out))) (below_size (q3_9))); have n4_ := q0_9 (bb q1.out hb); have n5_ := q0_9 (bb q2.out hb); have n6_ := q0_9 (below_step (q3_9) hb); clear qi; clear q8; clear qp; clear q1; clear q2; clear HB; have qi := n0_; have q8 := n1_; have qp := n2_; have z03 := n3_; have q1 := n4_; have q2 := n5_; have HB := n6_; clear n0_ n1_ n2_ n3_ n4_ n5_ n6_; (try clear hb); (try clear hb2); (try clear hk); (try clear hi); (try clear ho0))))
             (go_loopg [17] k3 (fun kq v17 w' => ∃ (x17_4 : Int), v17 = .int .i64 x17_4 ∧ Aside0 (laws_FnCadences.l1 kq t422 t430 t433 x17_4 = some true) ∧ Aside0 (kq ≤ k3) ∧ Aside0 (Kd.R (Kd.int .i64) 3 w' w.heap.size (fun k_ => some k_ ≠ (v434 : Value).ownBlock) (.slice qw t422.length qx) t422) ∧ Aside0 (Kd.R k25 25 w' w.heap.size (fun k_ => k_ ≠ q9 ∧ k_ ≠ qa) (.slice qy t430.length qz) t430) ∧ Aside0 (Kd.R (Kd.int .i64) 3 w' w.heap.size (fun k_ => some k_ ≠ ((.slice qw t422.length qx) : Value).ownBlock) v434 t433) ∧ Aside0 (w'.heap[q9]? = some (.cells #[.int .i64 t397, .int .i64 t398] 25 (0, 0))) ∧ Aside0 (w'.heap[qa]? = some (.cells #[.int .i64 t399, .int .i64 t400] 25 (0, 0))) ∧ Aside0 (Below w.heap.size w w')))
             case atStart => exact ⟨(0), (by first | rfl | (simp; done) | (simp [*]; done)), H', ⟨Nat.le_refl _⟩, ⟨by refine ra ?_; exact Kd.R_mono q8.out (fun _ hk => hk.2)⟩, ⟨by refine ra ?_; exact Kd.R_mono qp.out (fun _ hk => ⟨hk.1.2, hk.2⟩)⟩, ⟨by refine ra ?_; exact Kd.R_mono z03.out (fun _ hk => hk.2)⟩, ⟨by refine ba ?_; exact q1.out⟩, ⟨by refine ba ?_; exact q2.out⟩, ⟨by exact (q3_9)⟩⟩
             case round =>
              clear H'; (try clear c1); (try clear c2); (try clear p2); (try clear p4); (try clear q4); (try clear hx4); (try clear c5); (try clear c6); (try clear p6); (try clear c7); (try clear c8); (try clear c10); (try clear c11); (try clear c12); (try clear c13); (try clear c14); (try clear c15); (try clear c21); (try clear p42); (try clear q42); (try clear hx42); (try clear c51); (try clear c60); (try clear c60b0); (try clear c60b1); (try clear p64); (try clear c77); (try clear c77b0); (try clear c78); (try clear c78b0); (try clear c79); (try clear c79b0); (try clear c81); (try clear c81b0); (try clear c83); (try clear c83b0); (try clear c84); (try clear c84b0); (try clear c86); (try clear c86b0); (try clear c86b1); (try clear hx425_0); (try clear hx426_0); (try clear hx427_0); (try clear hx428_0); (try clear hx428_1); (try clear p2); (try clear p425); (try clear p426); (try clear p427); (try clear p428); (try clear p6); (try clear p64); (try clear q425); (try clear q426); (try clear q427); (try clear q428); obtain ⟨x17_4, rfl, HA, HK4, q8, qj, qg, q1, q2, HB⟩ := hrel
              cases gk with
              | zero => exact absurd HA.out (by simp [laws_FnCadences.l1])
              | succ k4 =>
               have H := HA.out; clear HA; (simp only [laws_FnCadences.l1] at H)
               by_cases c97 : x17_4 < (t433.length : Int)
               · rw [if_pos c97] at H
                 (have c97b0 : decide (x17_4 < (t433.length : Int)) = true := decide_eq_true c97); clear c97; (have H' := q0_9 H); clear H; obtain ⟨z04, z05, eo98⟩ := Kd.R_slice qg.out; subst eo98; (go_wp2); (go_loopg [18] k4 (fun kq v18 w' => ∃ (x18_5 : Int), v18 = .int .i64 x18_5 ∧ Aside0 (laws_FnCadences.l2 kq t422 t430 t433 x17_4 x18_5 = some true) ∧ Aside0 (kq ≤ k4) ∧ Aside0 (Kd.R (Kd.int .i64) 3 w' w.heap.size (fun k_ => some k_ ≠ ((.slice z04 t433.length z05) : Value).ownBlock) (.slice qw t422.length qx) t422) ∧ Aside0 (Kd.R k25 25 w' w.heap.size (fun k_ => k_ ≠ q9 ∧ k_ ≠ qa) (.slice qy t430.length qz) t430) ∧ Aside0 (Kd.R (Kd.int .i64) 3 w' w.heap.size (fun k_ => some k_ ≠ ((.slice qw t422.length qx) : Value).ownBlock) (.slice z04 t433.length z05) t433) ∧ Aside0 (w'.heap[q9]? = some (.cells #[.int .i64 t397, .int .i64 t398] 25 (0, 0))) ∧ Aside0 (w'.heap[qa]? = some (.cells #[.int .i64 t399, .int .i64 t400] 25 (0, 0))) ∧ Aside0 (Below w.heap.size w w')))
                 case atStart => exact ⟨(0), (by first | rfl | (simp; done) | (simp [*]; done)), H', ⟨Nat.le_refl _⟩, ⟨by refine ra ?_; exact q8.out⟩, ⟨by refine ra ?_; exact qj.out⟩, ⟨by refine ra ?_; exact qg.out⟩, ⟨by refine ba ?_; exact q1.out⟩, ⟨by refine ba ?_; exact q2.out⟩, ⟨by exact (q3_9)⟩⟩
                 case round =>
                  clear H'; (try clear c1); (try clear c2); (try clear p2); (try clear p4); (try clear q4); (try clear hx4); (try clear c5); (try clear c6); (try clear p6); (try clear c7); (try clear c8); (try clear c9); (try clear c10); (try clear c11); (try clear c12); (try clear c13); (try clear c14); (try clear c15); (try clear c21); (try clear p42); (try clear q42); (try clear hx42); (try clear c51); (try clear c60); (try clear c60b0); (try clear c60b1); (try clear p64); (try clear c77); (try clear c77b0); (try clear c78); (try clear c78b0); (try clear c79); (try clear c79b0); (try clear c81); (try clear c81b0); (try clear c83); (try clear c83b0); (try clear c84); (try clear c84b0); (try clear c86); (try clear c86b0); (try clear c86b1); (try clear c97); (try clear c97b0); (try clear hx425_0); (try clear hx426_0); (try clear hx427_0); (try clear hx428_0); (try clear hx428_1); (try clear p2); (try clear p4); (try clear p42); (try clear p425); (try clear p426); (try clear p427); (try clear p428); (try clear p6); (try clear p64); (try clear q4); (try clear q42); (try clear q425); (try clear q426); (try clear q427); (try clear q428); obtain ⟨x18_5, rfl, HA, HK5, q8, qj, qg, q1, q2, HB⟩ := hrel
                  cases gk with
                  | zero => exact absurd HA.out (by simp [laws_FnCadences.l2])
                  | succ k5 =>
                   have H := HA.out; clear HA; (simp only [laws_FnCadences.l2] at H)
                   by_cases c99 : x18_5 < (t430.length : Int)
                   · rw [if_pos c99] at H
                     (have c99b0 : decide (x18_5 < (t430.length : Int)) = true := decide_eq_true c99); clear c99
                     by_cases c100 : 0 ≤ x17_4
                     · rw [if_pos c100] at H
                       (have c100b0 : decide (0 ≤ x17_4) = true := decide_eq_true c100); clear c100
                       by_cases c101 : x17_4 < (t433.length : Int)
                       · rw [if_pos c101] at H
                         (have c101b0 : decide (x17_4 < (t433.length : Int)) = true := decide_eq_true c101); clear c101
                         by_cases c102 : 0 ≤ x18_5
                         · rw [if_pos c102] at H
                           (have c102b0 : decide (0 ≤ x18_5) = true := decide_eq_true c102); clear c102; replace H := Option.bind_eq_some_iff.mp H; obtain ⟨t440, A1030, H⟩ := H; (try dsimp only at H); have A103 := q0_9 A1030; clear A1030
                           by_cases c104 : t440 = true
                           · subst c104
                             have H1 := H; rw [if_pos rfl] at H1; clear H; have H := H1; clear H1; (have H' := q0_9 H); clear H; (try go_wp2); have n0_ := q0_9 (Kd.R_drew q8.out); have n1_ := q0_9 (Kd.R_drew qj.out); have n2_ := q0_9 (Kd.R_drew qg.out); have n3_ := q0_9 (blk_drew q1.out); have n4_ := q0_9 (blk_drew q2.out); have n5_ := q0_9 (below_drew1 HB.out); clear q8 qj qg q1 q2 HB; have q8 := n0_; have qj := n1_; have qg := n2_; have q1 := n3_; have q2 := n4_; have HB := n5_; clear n0_ n1_ n2_ n3_ n4_ n5_; (have p438 : 0 ≤ (x17_4 : Int) := of_decide_eq_true (by first | (with_reducible assumption) | assumption)); (have q438 : x17_4 < (t433.length : Int) := of_decide_eq_true (by first | (with_reducible assumption) | assumption)); obtain ⟨ad438, e438, hx438_0⟩ := Kd.at_int (Kd.R_reads' qg.out).2.2 x17_4 p438 q438
                             cases e438
                             replace p438 := eq_true p438; replace q438 := eq_true q438; (have p439 : 0 ≤ (x18_5 : Int) := of_decide_eq_true (by first | (with_reducible assumption) | assumption)); (have q439 : x18_5 < (t430.length : Int) := of_decide_eq_true (by first | (with_reducible assumption) | assumption)); obtain ⟨ad439, e439, hx439_0, hx439_1⟩ := at_T25 (Kd.R_reads' qj.out).2.2 x18_5 p439 q439
                             cases e439
                             replace p439 := eq_true p439; replace q439 := eq_true q439; refine start_ (n := 10) (S := fun w' => w'.cell? (ad438.add (x17_4).toNat) = some (.int .i64 (rd t433 x17_4)) ∧ w'.cell? (ad439.add ((x18_5).toNat * 2)) = some (.int .i64 ((rd_T25 t430 x18_5).f0)) ∧ w'.cell? ⟨(ad439.add ((x18_5).toNat * 2)).block, (ad439.add ((x18_5).toNat * 2)).off + 1, none⟩ = some (.int .i64 ((rd_T25 t430 x18_5).f1))) (ds := []) (bq 0 10) (by kernel_rfl) rfl rfl ⟨hx438_0, hx439_0, hx439_1⟩ (fun hHeld => ?_); refine with_tabW laws_FnCadences.tab29 laws_FnCadences.bits29 (fun HT_ HW_ => ?_); generalize wr.drew = w105 at q8 qj qg q1 q2 HB hx438_0 hx439_0 hx439_1 hHeld ⊢; refine pure_ (i := 0) (N := some 143) (v := ?_) (a' := ?_) (bq 1 10) rfl rfl (any_of HT_.out (by kernel_rfl)) (fun _ _ _ h => h) (Or.inl ⟨by rfl, ?_⟩) ?_ ?_; rotate_left; (intro w'; go_simp; with_reducible rfl); rotate_left; (exact pb); refine pure_ (i := 1) (N := some 144) (v := ?_) (a' := ?_) (bq 3 10) rfl rfl (any_of HT_.out (by kernel_rfl)) (fun _ _ _ h => h) (Or.inl ⟨by rfl, ?_⟩) ?_ ?_; rotate_left; (intro w'; go_simp; with_reducible rfl); rotate_left; (exact pb); refine pure_ (i := 2) (N := some 145) (v := ?_) (a' := ?_) (bq 7 10) rfl rfl (any_of HT_.out (by kernel_rfl)) (fun _ _ _ h => h) (Or.inl ⟨by rfl, ?_⟩) ?_ ?_; rotate_left; (intro w'; go_simp; with_reducible rfl); rotate_left; (exact pb); refine pure_ (i := 4) (N := some 147) (v := ?_) (a' := ?_) (bq 23 10) rfl rfl (any_of HT_.out (by kernel_rfl)) (fun _ _ _ h => h) (Or.inl ⟨by rfl, ?_⟩) ?_ ?_; rotate_left; (intro w'; go_simp; with_reducible rfl); rotate_left; (exact pb); refine pure_ (i := 5) (N := some 148) (v := ?_) (a' := ?_) (bq 55 10) rfl rfl (any_of HT_.out (by kernel_rfl)) (fun _ _ _ h => h) (Or.inl ⟨by rfl, ?_⟩) ?_ ?_; rotate_left; (intro w'; go_simp; with_reducible rfl); rotate_left; (exact pb); refine pure_ (i := 6) (N := some 149) (v := ?_) (a' := ?_) (bq 119 10) rfl rfl (any_of HT_.out (by kernel_rfl)) (fun _ _ _ h => h) (Or.inl ⟨by rfl, ?_⟩) ?_ ?_; rotate_left; (intro w'; go_simp; with_reducible rfl); rotate_left; (exact pb); refine take_ (i := 3) (N := some 146) (v := ?_) (a' := ?_) (bq 127 10) rfl rfl (take_ofW HT_.out HW_.out (by kernel_rfl)) (fun _ _ _ h => h) (Or.inl ⟨by rfl, ?_⟩) hHeld ?_ ?_; rotate_left; (rintro w' ⟨s0, s1, s2⟩; go_simp; with_reducible rfl); rotate_left; (exact pb); refine take_ (i := 7) (N := some 150) (v := ?_) (a' := ?_) (bq 255 10) rfl rfl (take_ofW HT_.out HW_.out (by kernel_rfl)) (fun _ _ _ h => h) (Or.inl ⟨by rfl, ?_⟩) hHeld ?_ ?_; rotate_left; (rintro w' ⟨s0, s1, s2⟩; go_simp; with_reducible rfl); rotate_left; (exact pb); refine one_ (i := 8) (N := some 151) (bq 511 10) rfl rfl (one_of HT_.out (by kernel_rfl)) (by decide) (fun K hK => ?_); refine goes_ Try.func10 (by kernel_rfl) rfl #[.int .i64 (rd t433 x17_4), .agg #[.int .i64 ((rd_T25 t430 x18_5).f0), .int .i64 ((rd_T25 t430 x18_5).f1)]] (by rfl) rfl rfl ma ?_
                             (with_reducible refine (impl_IsOfKey.calls k5 (rd t433 x17_4) ((rd_T25 t430 x18_5).f0) ((rd_T25 t430 x18_5).f1) true _ A103.out).mono ?_); rintro e w106 ⟨rfl, hb⟩; have HS0_ := (hb.cell (World.block_lt_of_cell? _ _ (hHeld.1))).trans (hHeld.1); have HS1_ := (hb.cell (World.block_lt_of_cell? _ _ (hHeld.2.1))).trans (hHeld.2.1); have HS2_ := (hb.cell (World.block_lt_of_cell? _ _ (hHeld.2.2))).trans (hHeld.2.2); refine ⟨_, rfl, ?_⟩; have n0_ := q0_9 (Kd.R_below (ra q8.out) hb); have n1_ := q0_9 (Kd.R_below (ra qj.out) hb); have n2_ := q0_9 (Kd.R_below (ra qg.out) hb); have n3_ := q0_9 (bb q1.out hb); have n4_ := q0_9 (bb q2.out hb); have n5_ := q0_9 (below_step (q3_9) hb); clear q8 qj qg q1 q2 HB; have q8 := n0_; have qj := n1_; have qg := n2_; have q1 := n3_; have q2 := n4_; have HB := n5_; clear n0_ n1_ n2_ n3_ n4_ n5_; ((try clear hb)); ((try clear hb2)); ((try clear hk)); ((try clear hi)); refine hK.out _ _ ⟨HS0_, HS1_, HS2_⟩ (fun hHeld => ?_); clear hK K; refine norm_ (a' := ?_) ?_ ?_; rotate_left; ((show Act.put _ (some 151) _ = _); simp only [Act.put, List.setIfInBounds_toArray, List.set_cons_zero, List.set_cons_succ, i64_w, i32_w]; rfl); refine pure_ (i := 9) (N := some 152) (v := ?_) (a' := ?_) (bq 1023 10) rfl rfl (any_of HT_.out (by kernel_rfl)) (fun _ _ _ h => h) (Or.inl ⟨by rfl, ?_⟩) ?_ ?_; rotate_left; (intro w'; go_simp; with_reducible rfl); rotate_left; (exact pb); refine done_ (done_of HT_.out (by kernel_rfl)) ?_; (try go_wp2); (go_roundg k5)
                             case measure => have := HJ7.out; have := HJ19.out; have := HK3.out; have := HK4.out; have := HK5.out; omega
                             case rel => exact ⟨(wrap64 (x18_5 + 1)), (by first | rfl | (simp; done) | (simp [*]; done)), H', ⟨by have := HJ7.out; have := HJ19.out; have := HK3.out; have := HK4.out; have := HK5.out; omega⟩, ⟨by refine ra ?_; exact q8.out⟩, ⟨by refine ra ?_; exact qj.out⟩, ⟨by refine ra ?_; exact qg.out⟩, ⟨by refine ba ?_; exact q1.out⟩, ⟨by refine ba ?_; exact q2.out⟩, ⟨by exact (q3_9)⟩⟩
                           · replace c104 := Bool.eq_false_iff.mpr c104
                             subst c104; (have H1 : (some false) = some true := by rw [if_neg (show ¬ (false = true) by decide)] at H; exact H); clear H; have H := H1; clear H1; exact absurd H (by simp)
                         · rw [if_neg c102] at H
                           exact absurd H (by simp)
                       · rw [if_neg c101] at H
                         exact absurd H (by simp)
                     · rw [if_neg c100] at H
                       exact absurd H (by simp)
                   · rw [if_neg c99] at H
                     (have c99b0 : decide (x18_5 < (t430.length : Int)) = false := decide_eq_false c99); clear c99; (have H' := q0_9 H); clear H; (go_wp2); (go_roundg k5)
                     case measure => have := HJ7.out; have := HJ19.out; have := HK3.out; have := HK4.out; have := HK5.out; omega
                     case rel => exact ⟨(wrap64 (x17_4 + 1)), (by first | rfl | (simp; done) | (simp [*]; done)), H', ⟨by have := HJ7.out; have := HJ19.out; have := HK3.out; have := HK4.out; have := HK5.out; omega⟩, ⟨by refine ra ?_; exact q8.out⟩, ⟨by refine ra ?_; exact qj.out⟩, ⟨by refine ra ?_; exact qg.out⟩, ⟨by refine ba ?_; exact q1.out⟩, ⟨by refine ba ?_; exact q2.out⟩, ⟨by exact (q3_9)⟩⟩
               · rw [if_neg c97] at H
                 (have c97b0 : decide (x17_4 < (t433.length : Int)) = false := decide_eq_false c97); clear c97; replace H := Option.bind_eq_some_iff.mp H; obtain ⟨t436, A1090, H⟩ := H; (try dsimp only at H); have A109 := q0_9 A1090; clear A1090
                 by_cases c110 : t436 = true
                 · subst c110
                   have H1 := H; rw [if_pos rfl] at H1; clear H; have H := H1; clear H1; replace H := Option.bind_eq_some_iff.mp H; obtain ⟨t437, A1110, H⟩ := H; (try dsimp only at H); have A111 := q0_9 A1110; clear A1110; obtain rfl := Option.some.inj H; obtain ⟨z0b, z0c, eo112⟩ := Kd.R_slice qg.out; subst eo112; (go_wp2_with (first | ((with_reducible refine gate_callee (f := 16) rfl ?_); refine goesL_ (some 154) rfl rfl Try.func16 (by kernel_rfl) rfl #[.slice qw t422.length qx] rfl ma ?_; (with_reducible refine (laws_ascends.calls k4 _ _ t422 true _ ?side1 ?side2 A109.out).mono ?_); (case side1 => exact ca (Kd.R_reads' q8.out).2.2); (case side2 => exact (Kd.R_reads' q8.out).2.1); rintro e w' ⟨rfl, ⟨nd, rfl⟩⟩; refine ⟨_, rfl, ?_⟩) | (go_at_call 16; (with_reducible refine (laws_ascends.calls k4 _ _ t433 true _ ?side1 ?side2 A111.out).mono ?_); (case side1 => exact ca (Kd.R_reads' qg.out).2.2); (case side2 => exact (Kd.R_reads' qg.out).2.1); rintro e w' ⟨rfl, ⟨nd, rfl⟩⟩))); go_ret; (exact ⟨by first | rfl | (simp [errW_none, errW_some] <;> rfl) | (simp [*, errW_none, errW_some] <;> rfl), by exact (q3_9)⟩)
                 · replace c110 := Bool.eq_false_iff.mpr c110
                   subst c110; (have H1 : (some false) = some true := by rw [if_neg (show ¬ (false = true) by decide)] at H; exact H); clear H; have H := H1; clear H1; exact absurd H (by simp)
   · rw [if_neg c7] at H
     (have c7b0 : (t403.toList == t404.toList) = false := beq_eq_false_iff_ne.mpr c7); (have c7b1 : (t403.toList != t404.toList) = true := bne_iff_ne.mpr c7); exact absurd H (by simp)
end Go.Proofs.Ytlkicjkoejpmbaa.PFnCadences
