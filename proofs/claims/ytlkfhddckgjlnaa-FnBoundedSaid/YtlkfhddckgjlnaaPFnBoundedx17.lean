-- Written for this claim by a program of this repository (wip/tools/print2.py), out of the translation; Lean checks it.
import Derived.Test.YtlkfhddckgjlnaaPFnBoundedx0
import Derived.Test.YtlkfhddckgjlnaaPFnBoundedx1
import Derived.Test.YtlkfhddckgjlnaaPFnBoundedx4
import Derived.Test.YtlkfhddckgjlnaaPFnBoundedx6
import Derived.Test.YtlkfhddckgjlnaaPFnBoundedx9
import Derived.Test.YtlkfhddckgjlnaaPFnBoundedx16
namespace Go.Proofs.Ytlkfhddckgjlnaa.PFnBounded
open Go.RowKit Go.Proofs.YtlkfhddckgjlnaaW.PrintWords Go.Proofs.YtlkfhddckgjlnaaW.PrintLast Go.Proofs.YtlkfhddckgjlnaaW.PrintMore
attribute [local go_sem] max2_int min2_int max_two min_two max_three min_three max_four min_four   -- for this text's walks alone
set_option linter.unusedVariables false
set_option linter.unusedSimpArgs false
-- SHORT
theorem qn_17 {p : Prop} (f : p := by repeat (first | (with_reducible first | exact HB.out | apply below_alloc | apply pw_below_drewN | apply below_drew1) | exact HB.out)) : p := f
theorem qb_17 {p : Prop} (f : p := by repeat (first | (with_reducible first | exact HB.out | apply below_alloc | apply pw_below_drewN | apply below_drew1 | refine below_set ?_ qs.out) | exact HB.out)) : p := f
theorem qc_17 {p : Prop} (f : p := by repeat (first | (with_reducible first | exact HB.out | apply below_alloc | apply pw_below_drewN | apply below_drew1 | refine below_set ?_ qs.out | refine below_set ?_ qt.out) | exact HB.out)) : p := f
theorem q0_17 {p : Prop} (h : p) : Aside0 p := ⟨h⟩
/-! ### laws_FnBounded: function 4 -/
mutual
def laws_FnBounded.j0 : Nat → List Int → Bool → Option (Bool)
 | 0, _, _ => none
 | k + 1, x0, x30 => if x30 = true then (some false) else ((spec_DrawStepNear.f k x0).bind fun bt497 => ((impl_WorkOf.f k bt497.1 bt497.2.1 bt497.2.2.1 bt497.2.2.2.2).bind fun t507 => ((impl_StepNear.f k bt497.1 bt497.2.1 bt497.2.2.1 bt497.2.2.2.1 bt497.2.2.2.2).bind fun bt508 => (if t507 = 0 then (if (bt508.1.length : Int) = (bt497.2.1.length : Int) then (some (bt508.2 == bt497.2.2.1)) else (some false)) else (laws_FnBounded.l0 k bt497.2.2.2.2 t507 0 0 bt497.2.1 bt497.2.2.1 bt508.1 bt508.2)))))
def laws_FnBounded.l0 : Nat → Int → Int → Int → Int → List Int → Int → List Int → Int → Option (Bool)
 | 0, _, _, _, _, _, _, _, _ => none
 | k + 1, x9, x10, x12, x13, x507000, x507001, x513000, x513001 => if x13 < (x513000.length : Int) then (if 0 ≤ x13 then (if (rd x513000 x13) < 0 then (laws_FnBounded.j2 k x9 x10 x12 x13 true x507000 x507001 x513000 x513001) else (laws_FnBounded.j2 k x9 x10 x12 x13 (decide ((rd x513000 x13) > 500)) x507000 x507001 x513000 x513001)) else (none)) else (if x10 ≤ (wrap64 ((wrap64 (2 * x9)) + 1)) then (if x12 ≤ x10 then (some (x513001 == (wrap64 (x507001 + 1)))) else (some false)) else (some false))
def laws_FnBounded.j2 : Nat → Int → Int → Int → Int → Bool → List Int → Int → List Int → Int → Option (Bool)
 | 0, _, _, _, _, _, _, _, _, _ => none
 | k + 1, x9, x10, x12, x13, x83, x507000, x507001, x513000, x513001 => if x83 = true then (some false) else (if 0 ≤ x13 then (if x13 < (x513000.length : Int) then (if (rd x513000 x13) < 500 then (laws_FnBounded.l0 k x9 x10 (wrap64 (x12 + 1)) (wrap64 (x13 + 1)) x507000 x507001 x513000 x513001) else (laws_FnBounded.l0 k x9 x10 x12 (wrap64 (x13 + 1)) x507000 x507001 x513000 x513001)) else (none)) else (none))
end
def laws_FnBounded.f (k : Nat) (l0 : List Int) : Option (Bool) := (laws_big.f l0).bind fun t488 => (if t488 = true then (some true) else ((spec_DrawSamePlace.f k l0).bind fun bt489 => (if (bt489.2.1.length : Int) < 40 then ((impl_SamePlace.f k bt489.1 bt489.2.1 40).bind fun t496 => (laws_FnBounded.j0 k l0 (!t496))) else (laws_FnBounded.j0 k l0 false))))
theorem laws_FnBounded.mono_l : ∀ k, (∀ y0 y1, LeO (laws_FnBounded.j0 k y0 y1) (laws_FnBounded.j0 (k + 1) y0 y1)) ∧ (∀ y0 y1 y2 y3 y4 y5 y6 y7, LeO (laws_FnBounded.l0 k y0 y1 y2 y3 y4 y5 y6 y7) (laws_FnBounded.l0 (k + 1) y0 y1 y2 y3 y4 y5 y6 y7)) ∧ (∀ y0 y1 y2 y3 y4 y5 y6 y7 y8, LeO (laws_FnBounded.j2 k y0 y1 y2 y3 y4 y5 y6 y7 y8) (laws_FnBounded.j2 (k + 1) y0 y1 y2 y3 y4 y5 y6 y7 y8))
 | 0 => ⟨fun _ _ r h => by simp [laws_FnBounded.j0] at h, fun _ _ _ _ _ _ _ _ r h => by simp [laws_FnBounded.l0] at h, fun _ _ _ _ _ _ _ _ _ r h => by simp [laws_FnBounded.j2] at h⟩
 | k + 1 => by
  obtain ⟨ih0, ih1, ih2⟩ := laws_FnBounded.mono_l k; refine ⟨?_, ?_, ?_⟩
  · intro y0 y1
    unfold laws_FnBounded.j0
    repeat' first
    | (with_reducible exact ih0 _ _)
    | (with_reducible exact ih1 _ _ _ _ _ _ _ _)
    | (with_reducible exact ih2 _ _ _ _ _ _ _ _ _)
    | (with_reducible exact impl_SamePlace.mono _ _ _ _)
    | (with_reducible exact impl_StepNear.mono _ _ _ _ _ _)
    | (with_reducible exact impl_WorkOf.mono _ _ _ _ _)
    | (with_reducible exact spec_DrawSamePlace.mono _ _)
    | (with_reducible exact spec_DrawStepNear.mono _ _)
    | (with_reducible exact LeO.refl _)
    | (with_reducible exact LeO.none _)
    | (with_reducible refine LeO.ite ?_ ?_)
    | (with_reducible refine LeO.bind ?_ (fun _ => ?_))
    | exact ih0 _ _
    | exact ih1 _ _ _ _ _ _ _ _
    | exact ih2 _ _ _ _ _ _ _ _ _
    | exact impl_SamePlace.mono _ _ _ _
    | exact impl_StepNear.mono _ _ _ _ _ _
    | exact impl_WorkOf.mono _ _ _ _ _
    | exact spec_DrawSamePlace.mono _ _
    | exact spec_DrawStepNear.mono _ _
    | exact LeO.none _
    | refine LeO.ite ?_ ?_
    | refine LeO.bind ?_ (fun _ => ?_)
  · intro y0 y1 y2 y3 y4 y5 y6 y7
    unfold laws_FnBounded.l0
    repeat' first
    | (with_reducible exact ih0 _ _)
    | (with_reducible exact ih1 _ _ _ _ _ _ _ _)
    | (with_reducible exact ih2 _ _ _ _ _ _ _ _ _)
    | (with_reducible exact impl_SamePlace.mono _ _ _ _)
    | (with_reducible exact impl_StepNear.mono _ _ _ _ _ _)
    | (with_reducible exact impl_WorkOf.mono _ _ _ _ _)
    | (with_reducible exact spec_DrawSamePlace.mono _ _)
    | (with_reducible exact spec_DrawStepNear.mono _ _)
    | (with_reducible exact LeO.refl _)
    | (with_reducible exact LeO.none _)
    | (with_reducible refine LeO.ite ?_ ?_)
    | (with_reducible refine LeO.bind ?_ (fun _ => ?_))
    | exact ih0 _ _
    | exact ih1 _ _ _ _ _ _ _ _
    | exact ih2 _ _ _ _ _ _ _ _ _
    | exact impl_SamePlace.mono _ _ _ _
    | exact impl_StepNear.mono _ _ _ _ _ _
    | exact impl_WorkOf.mono _ _ _ _ _
    | exact spec_DrawSamePlace.mono _ _
    | exact spec_DrawStepNear.mono _ _
    | exact LeO.none _
    | refine LeO.ite ?_ ?_
    | refine LeO.bind ?_ (fun _ => ?_)
  · intro y0 y1 y2 y3 y4 y5 y6 y7 y8
    unfold laws_FnBounded.j2
    repeat' first
    | (with_reducible exact ih0 _ _)
    | (with_reducible exact ih1 _ _ _ _ _ _ _ _)
    | (with_reducible exact ih2 _ _ _ _ _ _ _ _ _)
    | (with_reducible exact impl_SamePlace.mono _ _ _ _)
    | (with_reducible exact impl_StepNear.mono _ _ _ _ _ _)
    | (with_reducible exact impl_WorkOf.mono _ _ _ _ _)
    | (with_reducible exact spec_DrawSamePlace.mono _ _)
    | (with_reducible exact spec_DrawStepNear.mono _ _)
    | (with_reducible exact LeO.refl _)
    | (with_reducible exact LeO.none _)
    | (with_reducible refine LeO.ite ?_ ?_)
    | (with_reducible refine LeO.bind ?_ (fun _ => ?_))
    | exact ih0 _ _
    | exact ih1 _ _ _ _ _ _ _ _
    | exact ih2 _ _ _ _ _ _ _ _ _
    | exact impl_SamePlace.mono _ _ _ _
    | exact impl_StepNear.mono _ _ _ _ _ _
    | exact impl_WorkOf.mono _ _ _ _ _
    | exact spec_DrawSamePlace.mono _ _
    | exact spec_DrawStepNear.mono _ _
    | exact LeO.none _
    | refine LeO.ite ?_ ?_
    | refine LeO.bind ?_ (fun _ => ?_)
theorem laws_FnBounded.mono : ∀ a0 k, LeO (laws_FnBounded.f k a0) (laws_FnBounded.f (k + 1) a0) := by
 intro a0 k; obtain ⟨ih0, ih1, ih2⟩ := laws_FnBounded.mono_l k; unfold laws_FnBounded.f
 repeat' first
  | (with_reducible exact ih0 _ _)
  | (with_reducible exact ih1 _ _ _ _ _ _ _ _)
  | (with_reducible exact ih2 _ _ _ _ _ _ _ _ _)
  | (with_reducible exact impl_SamePlace.mono _ _ _ _)
  | (with_reducible exact impl_StepNear.mono _ _ _ _ _ _)
  | (with_reducible exact impl_WorkOf.mono _ _ _ _ _)
  | (with_reducible exact spec_DrawSamePlace.mono _ _)
  | (with_reducible exact spec_DrawStepNear.mono _ _)
  | (with_reducible exact LeO.refl _)
  | (with_reducible exact LeO.none _)
  | (with_reducible refine LeO.ite ?_ ?_)
  | (with_reducible refine LeO.bind ?_ (fun _ => ?_))
  | exact ih0 _ _
  | exact ih1 _ _ _ _ _ _ _ _
  | exact ih2 _ _ _ _ _ _ _ _ _
  | exact impl_SamePlace.mono _ _ _ _
  | exact impl_StepNear.mono _ _ _ _ _ _
  | exact impl_WorkOf.mono _ _ _ _ _
  | exact spec_DrawSamePlace.mono _ _
  | exact spec_DrawStepNear.mono _ _
  | exact LeO.none _
  | refine LeO.ite ?_ ?_
  | refine LeO.bind ?_ (fun _ => ?_)
set_option maxHeartbeats 8000000 in
set_option maxRecDepth 100000 in
theorem laws_FnBounded.calls_true (k : Nat) (A0 : Option Addr) (c0 : Nat) (l0 : List Int) (w : World) (hr0 : Kd.C (Kd.int .u8) w A0 l0.length l0) (hc0 : l0.length ≤ c0) (h : laws_FnBounded.f k l0 = some true) :
 Calls Try.prog 4 #[.slice A0 l0.length c0] w fun e w' => e = .returned (.bool true) ∧ Below w.heap.size w w' := by
 have hu46 := Try.underlying46; have HR0 := q0_17 hr0; have HC0 := q0_17 hc0; clear hr0 hc0; have HB := q0_17 (Below.refl w.heap.size w); (have H : ((laws_big.f l0).bind fun t488 => (if t488 = true then (some true) else ((spec_DrawSamePlace.f k l0).bind fun bt489 => (if (bt489.2.1.length : Int) < 40 then ((impl_SamePlace.f k bt489.1 bt489.2.1 40).bind fun t496 => (laws_FnBounded.j0 k l0 (!t496))) else (laws_FnBounded.j0 k l0 false))))) = some true := h); clear h; replace H := Option.bind_eq_some_iff.mp H; obtain ⟨t488, A20, H⟩ := H; (try dsimp only at H); have A2 := q0_17 A20; clear A20
 by_cases c3 : t488 = true
 · subst c3
   (have H1 : (some true) = some true := rfl); clear H; have H := H1; clear H1 H; go_enter Try.func4, Try.ntmps4; (go_wp2_with (first | ((with_reducible refine gate_callee (f := 6) rfl ?_); refine goesL_ (some 15) rfl rfl Try.func6 (by kernel_rfl) rfl #[.slice A0 l0.length c0] rfl ma ?_; (with_reducible refine (laws_big.calls _ _ l0 true _ ?side1 ?side2 A2.out).mono ?_); (case side1 => repeat (first | exact HR0.out | (with_reducible refine Kd.C_alloc ?_ _) | (with_reducible refine Kd.C_drewN ?_ _) | (with_reducible refine Kd.C_drew ?_))); (case side2 => exact HC0.out); rintro e w' ⟨rfl, ⟨nd, rfl⟩⟩; refine ⟨_, rfl, ?_⟩))); go_ret; (exact ⟨by first | rfl | (simp [errW_none, errW_some] <;> rfl) | (simp [*, errW_none, errW_some] <;> rfl), by exact (qn_17)⟩)
 · replace c3 := Bool.eq_false_iff.mpr c3
   subst c3; (have H1 : ((spec_DrawSamePlace.f k l0).bind fun bt489 => (if (bt489.2.1.length : Int) < 40 then ((impl_SamePlace.f k bt489.1 bt489.2.1 40).bind fun t496 => (laws_FnBounded.j0 k l0 (!t496))) else (laws_FnBounded.j0 k l0 false))) = some true := by rw [if_neg (show ¬ (false = true) by decide)] at H; exact H); clear H; have H := H1; clear H1; replace H := Option.bind_eq_some_iff.mp H; obtain ⟨⟨t489, t490, t491⟩, A40, H⟩ := H; (try dsimp only at H); have A4 := q0_17 A40; clear A40; have HC5 := q0_17 H; clear H; go_enter Try.func4, Try.ntmps4; (go_upto_region 4 with (first | ((with_reducible refine gate_callee (f := 6) rfl ?_); refine goesL_ (some 15) rfl rfl Try.func6 (by kernel_rfl) rfl #[.slice A0 l0.length c0] rfl ma ?_; (with_reducible refine (laws_big.calls _ _ l0 false _ ?side1 ?side2 A2.out).mono ?_); (case side1 => repeat (first | exact HR0.out | (with_reducible refine Kd.C_alloc ?_ _) | (with_reducible refine Kd.C_drewN ?_ _) | (with_reducible refine Kd.C_drew ?_))); (case side2 => exact HC0.out); rintro e w' ⟨rfl, ⟨nd, rfl⟩⟩; refine ⟨_, rfl, ?_⟩) | ((with_reducible refine gate_callee (f := 16) rfl ?_); refine goesL_ (some 18) rfl rfl Try.func16 (by kernel_rfl) rfl #[.slice A0 l0.length c0] rfl ma ?_; (with_reducible refine (spec_DrawSamePlace.calls k _ _ l0 t489 t490 t491 _ ?side1 ?side2 A4.out).mono ?_); (case side1 => repeat (first | exact HR0.out | (with_reducible refine Kd.C_alloc ?_ _) | (with_reducible refine Kd.C_drewN ?_ _) | (with_reducible refine Kd.C_drew ?_))); (case side2 => exact HC0.out); rintro e w6 ⟨v492, v494, rfl, ho0, ho1, hb⟩; refine ⟨_, rfl, ?_⟩; have n0_ := q0_17 (Kd.R_lower ho0 (below_size (qn_17))); have n1_ := q0_17 (Kd.R_lower ho1 (below_size (qn_17))); have n2_ := q0_17 (below_step (qn_17) hb); clear HB; have qm := n0_; have qk := n1_; have HB := n2_; clear n0_ n1_ n2_; (try clear hb); (try clear hb2); (try clear hk); (try clear hi); (try clear ho0); (try clear ho1)))); ((try simp only [Act.put, List.setIfInBounds_toArray, List.set_cons_zero, List.set_cons_succ])); (go_cut [30] (fun v30 wc => ∃ (kq : Nat) (x30_4 : Bool), v30 = .bool x30_4 ∧ Aside0 (laws_FnBounded.j0 kq l0 x30_4 = some true) ∧ Aside0 (kq ≤ k) ∧ Aside0 (Below w.heap.size w wc)))
   case first =>
    have H := HC5.out; clear HC5
    by_cases c7 : (t490.length : Int) < 40
    · rw [if_pos c7] at H
      (have c7b0 : decide ((t490.length : Int) < 40) = true := decide_eq_true c7); (have c7b1 : decide (t490.length < 40) = true := decide_eq_true (by omega)); clear c7; ((first | rw [c7b0] | (simp only [i64_w, i32_w]; rw [c7b0]) | skip)); replace H := Option.bind_eq_some_iff.mp H; obtain ⟨t496, A80, H⟩ := H; (try dsimp only at H); have A8 := q0_17 A80; clear A80; (have H' := q0_17 H); clear H; obtain ⟨Ao9, co9, eo9⟩ := Kd.R_slice qk.out; subst eo9; obtain ⟨qu, qv, eo10⟩ := Kd.R_slice qm.out; subst eo10; (go_wp2_with (first | (go_at_call 17; (with_reducible refine (impl_SamePlace.calls k _ _ t489 _ _ t490 40 t496 _ ?side1 ?side2 ?side3 ?side4 A8.out).mono ?_); (case side1 => exact ca (Kd.R_reads' qm.out).2.2); (case side2 => exact (Kd.R_reads' qm.out).2.1); (case side3 => exact ca (Kd.R_reads' qk.out).2.2); (case side4 => exact (Kd.R_reads' qk.out).2.1); rintro e w11 ⟨rfl, hb⟩; have n0_ := q0_17 (Kd.R_below (ra qm.out) hb); have n1_ := q0_17 (Kd.R_below (ra qk.out) hb); have n2_ := q0_17 (below_step (qn_17) hb); clear qm; clear qk; clear HB; have qm := n0_; have qk := n1_; have HB := n2_; clear n0_ n1_ n2_; (try clear hb); (try clear hb2); (try clear hk); (try clear hi)))); (go_meet)
      case rel => exact ⟨_, (!t496), (by first | rfl | (simp; done) | (simp [*]; done)), H', ⟨by first | omega | exact Nat.le_refl _⟩, ⟨by exact (qn_17)⟩⟩
    · rw [if_neg c7] at H
      (have c7b0 : decide ((t490.length : Int) < 40) = false := decide_eq_false c7); (have c7b1 : decide (t490.length < 40) = false := decide_eq_false (by omega)); clear c7; ((first | rw [c7b0] | (simp only [i64_w, i32_w]; rw [c7b0]) | skip)); (have H' := q0_17 H); clear H; obtain ⟨qw, qx, eo12⟩ := Kd.R_slice qk.out; subst eo12; (go_wp2); (go_meet)
      case rel => exact ⟨_, (false), (by first | rfl | (simp; done) | (simp [*]; done)), H', ⟨by first | omega | exact Nat.le_refl _⟩, ⟨by exact (qn_17)⟩⟩
   case rest =>
    clear HC5; (try clear c1); (try clear p2); (try clear c3); (try clear c4); (try clear c6); (try clear c7); (try clear c7b0); (try clear c7b1); obtain ⟨kq, x30_4, rfl, HA, HJ4, HB⟩ := hcut
    cases kq with
    | zero => exact absurd HA.out (by simp [laws_FnBounded.j0])
    | succ kj4 =>
     have H := HA.out; clear HA; (simp only [laws_FnBounded.j0] at H)
     by_cases c13 : x30_4 = true
     · subst c13
       have H1 := H; rw [if_pos rfl] at H1; clear H; have H := H1; clear H1; exact absurd H (by simp)
     · replace c13 := Bool.eq_false_iff.mpr c13
       subst c13; (have H1 : ((spec_DrawStepNear.f kj4 l0).bind fun bt497 => ((impl_WorkOf.f kj4 bt497.1 bt497.2.1 bt497.2.2.1 bt497.2.2.2.2).bind fun t507 => ((impl_StepNear.f kj4 bt497.1 bt497.2.1 bt497.2.2.1 bt497.2.2.2.1 bt497.2.2.2.2).bind fun bt508 => (if t507 = 0 then (if (bt508.1.length : Int) = (bt497.2.1.length : Int) then (some (bt508.2 == bt497.2.2.1)) else (some false)) else (laws_FnBounded.l0 kj4 bt497.2.2.2.2 t507 0 0 bt497.2.1 bt497.2.2.1 bt508.1 bt508.2))))) = some true := by rw [if_neg (show ¬ (false = true) by decide)] at H; exact H); clear H; have H := H1; clear H1; replace H := Option.bind_eq_some_iff.mp H; obtain ⟨⟨t497, t500, t503, t504, t505⟩, A140, H⟩ := H; (try dsimp only at H); have A14 := q0_17 A140; clear A140; replace H := Option.bind_eq_some_iff.mp H; obtain ⟨t507, A150, H⟩ := H; (try dsimp only at H); have A15 := q0_17 A150; clear A150; replace H := Option.bind_eq_some_iff.mp H; obtain ⟨⟨t508, t511⟩, A160, H⟩ := H; (try dsimp only at H); have A16 := q0_17 A160; clear A160
       by_cases c17 : t507 = 0
       · rw [if_pos c17] at H
         (have c17b0 : (t507 == 0) = true := beq_iff_eq.mpr c17); (have c17b1 : (t507 != 0) = false := bne_eq_false_iff_eq.mpr c17); clear c17
         by_cases c18 : (t508.length : Int) = (t500.length : Int)
         · rw [if_pos c18] at H
           (have c18b0 : ((t508.length : Int) == (t500.length : Int)) = true := beq_iff_eq.mpr c18); (have c18b1 : ((t508.length : Int) != (t500.length : Int)) = false := bne_eq_false_iff_eq.mpr c18); (have c18b2 : (t508.length == t500.length) = true := by first | simpa using c18 | (simp at c18 ⊢; omega)); clear c18; have hrv := Option.some.inj H; clear H
           (go_wp2_with (first | ((with_reducible refine gate_callee (f := 18) rfl ?_); refine goesL_ (some 33) rfl rfl Try.func18 (by kernel_rfl) rfl #[.slice A0 l0.length c0] rfl ma ?_; (with_reducible refine (spec_DrawStepNear.calls kj4 _ _ l0 t497 t500 t503 t504 t505 _ ?side1 ?side2 A14.out).mono ?_); (case side1 => exact ca (Kd.C_below HR0.out HB.out)); (case side2 => exact HC0.out); rintro e w19 ⟨v498, v501, rfl, ho0, ho1, hb⟩; refine ⟨_, rfl, ?_⟩; have n0_ := q0_17 (Kd.R_lower ho0 (below_size (qn_17))); have n1_ := q0_17 (Kd.Q_lower ho1 (below_size (qn_17))); have n2_ := q0_17 (below_step (qn_17) hb); clear HB; have q4 := n0_; have q3 := n1_; have HB := n2_; clear n0_ n1_ n2_; (try clear hb); (try clear hb2); (try clear hk); (try clear hi); (try clear ho0); (try clear ho1)) | ((with_reducible refine gate_dst (N := 7) rfl ?_); refine box_event ?hg (N := 7) ?hd (cs := #[.slice none 0 0, .int .i64 0]) (t := 46) ?hr ?_; (case hd => rfl); (case hg => rfl); (case hr => first | (go_simp; done) | (go_simp; rfl)); intro q2 hg w20 hbox hb; have n0_ := q0_17 (Kd.R_below (ra q4.out) hb); have n1_ := q0_17 (Kd.Q_below (by (with_reducible repeat (first | apply Kd.Q_alloc | apply Kd.Q_drewN | apply Kd.Q_drew)); exact q3.out) hb); have n2_ := q0_17 (below_step (qn_17) hb); have n3_ := q0_17 (hbox); have n4_ := q0_17 ((by rw [hg]; exact (below_size (qn_17)) : w.heap.size ≤ q2)); have n5_ := q0_17 ((by rw [hg]; exact (below_size (qn_17)) : w.heap.size ≤ q2)); clear q4; clear q3; clear HB; have q4 := n0_; have q3 := n1_; have HB := n2_; have q1 := n3_; have GW506 := n4_; have qs := n5_; clear n0_ n1_ n2_ n3_ n4_ n5_; clear hb hbox hg; obtain ⟨ql, qj, eo21, _⟩ := Kd.Q_slice q3.out; subst eo21; have hcz22_0 : w20.cell? ⟨q2, 0, none⟩ = some (.slice none 0 0) := (blk_cell q1.out 0).trans rfl; have hcz22_1 : w20.cell? ⟨q2, 1, none⟩ = some (.int .i64 0) := (blk_cell q1.out 1).trans rfl; have hfz22_0 := blk_frozen q1.out 0; have hfz22_1 := blk_frozen q1.out 1; obtain ⟨qq, qo, eo23⟩ := Kd.R_slice q4.out; subst eo23) | ((with_reducible refine gate_callee (f := 19) rfl ?_); refine goesL_ (some 41) rfl rfl Try.func19 (by kernel_rfl) rfl #[.slice qq t497.length qo, .agg #[.slice ql t500.length qj, .int .i64 t503], .int .i64 t505] rfl ma ?_; (with_reducible refine (impl_WorkOf.calls kj4 _ _ t497 _ _ t500 t503 t505 t507 _ ?side1 ?side2 ?side3 ?side4 A15.out).mono ?_); (case side1 => refine (Kd.R_reads' (e := 3) (base := w.heap.size) (ok := fun k_ => some k_ ≠ (.slice ql t500.length qj : Value).ownBlock) (n := t497.length) (c := qo) ?_).2.2; exact (by refine ra ?_; exact (Kd.R_mono (Kd.R_far (p := ⟨q2, 1, none⟩) (Kd.R_far (p := ⟨q2, 0, none⟩) (Kd.R_types q4.out q1.out (by decide)) (fun _ hk => hk.2) (.slice ql t500.length qj)) (fun _ hk => hk.2) (.int .i64 t503)) (fun _ h_ => h_.1)))); (case side2 => exact (Kd.R_reads' q4.out).2.1); (case side3 => refine (Kd.Q_reads' (e := 3) (base := w.heap.size) (ok := fun k_ => some k_ ≠ (.slice qq t497.length qo : Value).ownBlock) (n := t500.length) (c := qj) ?_).2.2; exact (by (with_reducible repeat (first | apply Kd.Q_alloc | apply Kd.Q_drewN | apply Kd.Q_drew)); exact (Kd.Q_mono (Kd.Q_far (p := ⟨q2, 1, none⟩) (Kd.Q_far (p := ⟨q2, 0, none⟩) (Kd.Q_types q3.out q1.out (by decide)) (fun _ hk => hk.2) (.slice ql t500.length qj)) (fun _ hk => hk.2) (.int .i64 t503)) (fun _ h_ => h_.1)))); (case side4 => exact (Kd.Q_reads' q3.out).2.1); rintro e w24 ⟨rfl, hb⟩; refine ⟨_, rfl, ?_⟩; have n0_ := q0_17 (Kd.R_below (by refine ra ?_; exact (Kd.R_mono (Kd.R_far (p := ⟨q2, 1, none⟩) (Kd.R_far (p := ⟨q2, 0, none⟩) (Kd.R_types q4.out q1.out (by decide)) (fun _ hk => hk.2) (.slice ql t500.length qj)) (fun _ hk => hk.2) (.int .i64 t503)) (fun _ h_ => h_.1))) hb); have n1_ := q0_17 (Kd.Q_below (by (with_reducible repeat (first | apply Kd.Q_alloc | apply Kd.Q_drewN | apply Kd.Q_drew)); exact (Kd.Q_mono (Kd.Q_far (p := ⟨q2, 1, none⟩) (Kd.Q_far (p := ⟨q2, 0, none⟩) (Kd.Q_types q3.out q1.out (by decide)) (fun _ hk => hk.2) (.slice ql t500.length qj)) (fun _ hk => hk.2) (.int .i64 t503)) (fun _ h_ => h_.1))) hb); have n2_ := q0_17 (blk_below (g := q2) (o := .cells #[.slice ql t500.length qj, .int .i64 t503] 46 (0, 0)) (by refine ba ?_; refine blk_put (cs := #[.slice ql t500.length qj, .int .i64 0]) ?_ 1 _ rfl; refine ba ?_; refine blk_put (cs := #[.slice none 0 0, .int .i64 0]) ?_ 0 _ rfl; refine ba ?_; exact q1.out) hb); have n3_ := q0_17 (below_step (qb_17) hb); clear q4; clear q3; clear q1; clear HB; have q4 := n0_; have q3 := n1_; have q1 := n2_; have HB := n3_; clear n0_ n1_ n2_ n3_; (try clear hb); (try clear hb2); (try clear hk); (try clear hi); have hcz25_0 : w24.cell? ⟨q2, 0, none⟩ = some (.slice ql t500.length qj) := (blk_cell q1.out 0).trans rfl; have hcz25_1 : w24.cell? ⟨q2, 1, none⟩ = some (.int .i64 t503) := (blk_cell q1.out 1).trans rfl; have hfz25_0 := blk_frozen q1.out 0; have hfz25_1 := blk_frozen q1.out 1) | ((with_reducible refine gate_callee (f := 20) rfl ?_); refine goesL_ (some 46) rfl rfl Try.func20 (by kernel_rfl) rfl #[.slice qq t497.length qo, .agg #[.slice ql t500.length qj, .int .i64 t503], .int .i64 t504, .int .i64 t505] rfl ma ?_; (with_reducible refine (impl_StepNear.calls kj4 _ _ t497 _ _ t500 t503 t504 t505 t508 t511 _ ?side1 ?side2 ?side3 ?side4 A16.out).mono ?_); (case side1 => exact ca (Kd.R_reads' q4.out).2.2); (case side2 => exact (Kd.R_reads' q4.out).2.1); (case side3 => exact ca (Kd.Q_reads' q3.out).2.2); (case side4 => exact (Kd.Q_reads' q3.out).2.1); rintro e w26 ⟨v509, rfl, ho0, hb⟩; refine ⟨_, rfl, ?_⟩; have n0_ := q0_17 (Kd.R_elder' (ra q4.out) (Kd.R_base ho0) hb); have n1_ := q0_17 (Kd.Q_elder' (by (with_reducible repeat (first | apply Kd.Q_alloc | apply Kd.Q_drewN | apply Kd.Q_drew)); exact q3.out) (Kd.R_base ho0) hb); have n2_ := q0_17 (Kd.R_lower (Kd.R_new' (Kd.R_new' ho0 (Kd.R_lt (ra q4.out))) (Kd.Q_lt (by (with_reducible repeat (first | apply Kd.Q_alloc | apply Kd.Q_drewN | apply Kd.Q_drew)); exact q3.out))) (below_size (qb_17))); have n3_ := q0_17 (bb q1.out hb); have n4_ := q0_17 (below_step (qb_17) hb); clear q4; clear q3; clear q1; clear HB; have q4 := n0_; have q3 := n1_; have qg := n2_; have q1 := n3_; have HB := n4_; clear n0_ n1_ n2_ n3_ n4_; (try clear hb); (try clear hb2); (try clear hk); (try clear hi); (try clear ho0)) | ((with_reducible refine gate_dst (N := 11) rfl ?_); refine box_event ?hg (N := 11) ?hd (cs := #[.slice none 0 0, .int .i64 0]) (t := 46) ?hr ?_; (case hd => rfl); (case hg => rfl); (case hr => first | (go_simp; done) | (go_simp; rfl)); intro q7 hg w27 hbox hb; have n0_ := q0_17 (Kd.R_below (ra q4.out) hb); have n1_ := q0_17 (Kd.Q_below (by (with_reducible repeat (first | apply Kd.Q_alloc | apply Kd.Q_drewN | apply Kd.Q_drew)); exact q3.out) hb); have n2_ := q0_17 (Kd.R_below (ra qg.out) hb); have n3_ := q0_17 (bb q1.out hb); have n4_ := q0_17 (below_step (qb_17) hb); have n5_ := q0_17 (hbox); have n6_ := q0_17 ((by rw [hg]; exact (below_size (qb_17)) : w.heap.size ≤ q7)); have n7_ := q0_17 ((by rw [hg]; exact (below_size (qb_17)) : w.heap.size ≤ q7)); have n8_ := q0_17 ((by rw [hg]; exact Nat.ne_of_lt (bl q1.out) : q2 ≠ q7)); have n9_ := q0_17 ((by rw [hg]; exact Nat.ne_of_gt (bl q1.out) : q7 ≠ q2)); clear q4; clear q3; clear qg; clear q1; clear HB; have q4 := n0_; have q3 := n1_; have qg := n2_; have q1 := n3_; have HB := n4_; have q6 := n5_; have GW512 := n6_; have qt := n7_; have q8 := n8_; have q9 := n9_; clear n0_ n1_ n2_ n3_ n4_ n5_ n6_ n7_ n8_ n9_; clear hb hbox hg; obtain ⟨qy, qz, eo28⟩ := Kd.R_slice qg.out; subst eo28; have hnb29 := q9.out; have hnc29 := q8.out; have hcz30_0 : w27.cell? ⟨q7, 0, none⟩ = some (.slice none 0 0) := (blk_cell q6.out 0).trans rfl; have hcz30_1 : w27.cell? ⟨q7, 1, none⟩ = some (.int .i64 0) := (blk_cell q6.out 1).trans rfl; have hfz30_0 := blk_frozen q6.out 0; have hfz30_1 := blk_frozen q6.out 1; have hcz31_0 : w27.cell? ⟨q2, 0, none⟩ = some (.slice ql t500.length qj) := (blk_cell q1.out 0).trans rfl; have hcz31_1 : w27.cell? ⟨q2, 1, none⟩ = some (.int .i64 t503) := (blk_cell q1.out 1).trans rfl; have hfz31_0 := blk_frozen q1.out 0; have hfz31_1 := blk_frozen q1.out 1)))
           go_ret; (exact ⟨by first | rfl | exact congrArg (fun z => Ending.returned (Value.bool z)) hrv | (simp [hrv]; done) | (simp at hrv; simp [hrv]; done) | (simp [errW_none, errW_some] <;> rfl) | (simp [*, errW_none, errW_some] <;> rfl), by exact (qc_17)⟩)
         · rw [if_neg c18] at H
           (have c18b0 : ((t508.length : Int) == (t500.length : Int)) = false := beq_eq_false_iff_ne.mpr c18); (have c18b1 : ((t508.length : Int) != (t500.length : Int)) = true := bne_iff_ne.mpr c18); (have c18b2 : (t508.length == t500.length) = false := by first | simpa using c18 | (simp at c18 ⊢; omega)); exact absurd H (by simp)
       · rw [if_neg c17] at H
         (have c17b0 : (t507 == 0) = false := beq_eq_false_iff_ne.mpr c17); (have c17b1 : (t507 != 0) = true := bne_iff_ne.mpr c17); (have H' := q0_17 H); clear H
         (go_wp2_with (first | ((with_reducible refine gate_callee (f := 18) rfl ?_); refine goesL_ (some 33) rfl rfl Try.func18 (by kernel_rfl) rfl #[.slice A0 l0.length c0] rfl ma ?_; (with_reducible refine (spec_DrawStepNear.calls kj4 _ _ l0 t497 t500 t503 t504 t505 _ ?side1 ?side2 A14.out).mono ?_); (case side1 => exact ca (Kd.C_below HR0.out HB.out)); (case side2 => exact HC0.out); rintro e w45 ⟨v498, v501, rfl, ho0, ho1, hb⟩; refine ⟨_, rfl, ?_⟩; have n0_ := q0_17 (Kd.R_lower ho0 (below_size (qn_17))); have n1_ := q0_17 (Kd.Q_lower ho1 (below_size (qn_17))); have n2_ := q0_17 (below_step (qn_17) hb); clear HB; have q4 := n0_; have q3 := n1_; have HB := n2_; clear n0_ n1_ n2_; (try clear hb); (try clear hb2); (try clear hk); (try clear hi); (try clear ho0); (try clear ho1)) | ((with_reducible refine gate_dst (N := 7) rfl ?_); refine box_event ?hg (N := 7) ?hd (cs := #[.slice none 0 0, .int .i64 0]) (t := 46) ?hr ?_; (case hd => rfl); (case hg => rfl); (case hr => first | (go_simp; done) | (go_simp; rfl)); intro q2 hg w46 hbox hb; have n0_ := q0_17 (Kd.R_below (ra q4.out) hb); have n1_ := q0_17 (Kd.Q_below (by (with_reducible repeat (first | apply Kd.Q_alloc | apply Kd.Q_drewN | apply Kd.Q_drew)); exact q3.out) hb); have n2_ := q0_17 (below_step (qn_17) hb); have n3_ := q0_17 (hbox); have n4_ := q0_17 ((by rw [hg]; exact (below_size (qn_17)) : w.heap.size ≤ q2)); have n5_ := q0_17 ((by rw [hg]; exact (below_size (qn_17)) : w.heap.size ≤ q2)); clear q4; clear q3; clear HB; have q4 := n0_; have q3 := n1_; have HB := n2_; have q1 := n3_; have GW506 := n4_; have qs := n5_; clear n0_ n1_ n2_ n3_ n4_ n5_; clear hb hbox hg; obtain ⟨qe, qd, eo47, _⟩ := Kd.Q_slice q3.out; subst eo47; have hcz48_0 : w46.cell? ⟨q2, 0, none⟩ = some (.slice none 0 0) := (blk_cell q1.out 0).trans rfl; have hcz48_1 : w46.cell? ⟨q2, 1, none⟩ = some (.int .i64 0) := (blk_cell q1.out 1).trans rfl; have hfz48_0 := blk_frozen q1.out 0; have hfz48_1 := blk_frozen q1.out 1; obtain ⟨qr, qp, eo49⟩ := Kd.R_slice q4.out; subst eo49) | ((with_reducible refine gate_callee (f := 19) rfl ?_); refine goesL_ (some 41) rfl rfl Try.func19 (by kernel_rfl) rfl #[.slice qr t497.length qp, .agg #[.slice qe t500.length qd, .int .i64 t503], .int .i64 t505] rfl ma ?_; (with_reducible refine (impl_WorkOf.calls kj4 _ _ t497 _ _ t500 t503 t505 t507 _ ?side1 ?side2 ?side3 ?side4 A15.out).mono ?_); (case side1 => refine (Kd.R_reads' (e := 3) (base := w.heap.size) (ok := fun k_ => some k_ ≠ (.slice qe t500.length qd : Value).ownBlock) (n := t497.length) (c := qp) ?_).2.2; exact (by refine ra ?_; exact (Kd.R_mono (Kd.R_far (p := ⟨q2, 1, none⟩) (Kd.R_far (p := ⟨q2, 0, none⟩) (Kd.R_types q4.out q1.out (by decide)) (fun _ hk => hk.2) (.slice qe t500.length qd)) (fun _ hk => hk.2) (.int .i64 t503)) (fun _ h_ => h_.1)))); (case side2 => exact (Kd.R_reads' q4.out).2.1); (case side3 => refine (Kd.Q_reads' (e := 3) (base := w.heap.size) (ok := fun k_ => some k_ ≠ (.slice qr t497.length qp : Value).ownBlock) (n := t500.length) (c := qd) ?_).2.2; exact (by (with_reducible repeat (first | apply Kd.Q_alloc | apply Kd.Q_drewN | apply Kd.Q_drew)); exact (Kd.Q_mono (Kd.Q_far (p := ⟨q2, 1, none⟩) (Kd.Q_far (p := ⟨q2, 0, none⟩) (Kd.Q_types q3.out q1.out (by decide)) (fun _ hk => hk.2) (.slice qe t500.length qd)) (fun _ hk => hk.2) (.int .i64 t503)) (fun _ h_ => h_.1)))); (case side4 => exact (Kd.Q_reads' q3.out).2.1); rintro e w50 ⟨rfl, hb⟩; refine ⟨_, rfl, ?_⟩; have n0_ := q0_17 (Kd.R_below (by refine ra ?_; exact (Kd.R_mono (Kd.R_far (p := ⟨q2, 1, none⟩) (Kd.R_far (p := ⟨q2, 0, none⟩) (Kd.R_types q4.out q1.out (by decide)) (fun _ hk => hk.2) (.slice qe t500.length qd)) (fun _ hk => hk.2) (.int .i64 t503)) (fun _ h_ => h_.1))) hb); have n1_ := q0_17 (Kd.Q_below (by (with_reducible repeat (first | apply Kd.Q_alloc | apply Kd.Q_drewN | apply Kd.Q_drew)); exact (Kd.Q_mono (Kd.Q_far (p := ⟨q2, 1, none⟩) (Kd.Q_far (p := ⟨q2, 0, none⟩) (Kd.Q_types q3.out q1.out (by decide)) (fun _ hk => hk.2) (.slice qe t500.length qd)) (fun _ hk => hk.2) (.int .i64 t503)) (fun _ h_ => h_.1))) hb); have n2_ := q0_17 (blk_below (g := q2) (o := .cells #[.slice qe t500.length qd, .int .i64 t503] 46 (0, 0)) (by refine ba ?_; refine blk_put (cs := #[.slice qe t500.length qd, .int .i64 0]) ?_ 1 _ rfl; refine ba ?_; refine blk_put (cs := #[.slice none 0 0, .int .i64 0]) ?_ 0 _ rfl; refine ba ?_; exact q1.out) hb); have n3_ := q0_17 (below_step (qb_17) hb); clear q4; clear q3; clear q1; clear HB; have q4 := n0_; have q3 := n1_; have q1 := n2_; have HB := n3_; clear n0_ n1_ n2_ n3_; (try clear hb); (try clear hb2); (try clear hk); (try clear hi); have hcz51_0 : w50.cell? ⟨q2, 0, none⟩ = some (.slice qe t500.length qd) := (blk_cell q1.out 0).trans rfl; have hcz51_1 : w50.cell? ⟨q2, 1, none⟩ = some (.int .i64 t503) := (blk_cell q1.out 1).trans rfl; have hfz51_0 := blk_frozen q1.out 0; have hfz51_1 := blk_frozen q1.out 1) | ((with_reducible refine gate_callee (f := 20) rfl ?_); refine goesL_ (some 46) rfl rfl Try.func20 (by kernel_rfl) rfl #[.slice qr t497.length qp, .agg #[.slice qe t500.length qd, .int .i64 t503], .int .i64 t504, .int .i64 t505] rfl ma ?_; (with_reducible refine (impl_StepNear.calls kj4 _ _ t497 _ _ t500 t503 t504 t505 t508 t511 _ ?side1 ?side2 ?side3 ?side4 A16.out).mono ?_); (case side1 => exact ca (Kd.R_reads' q4.out).2.2); (case side2 => exact (Kd.R_reads' q4.out).2.1); (case side3 => exact ca (Kd.Q_reads' q3.out).2.2); (case side4 => exact (Kd.Q_reads' q3.out).2.1); rintro e w52 ⟨v509, rfl, ho0, hb⟩; refine ⟨_, rfl, ?_⟩; have n0_ := q0_17 (Kd.R_elder' (ra q4.out) (Kd.R_base ho0) hb); have n1_ := q0_17 (Kd.Q_elder' (by (with_reducible repeat (first | apply Kd.Q_alloc | apply Kd.Q_drewN | apply Kd.Q_drew)); exact q3.out) (Kd.R_base ho0) hb); have n2_ := q0_17 (Kd.R_lower (Kd.R_new' (Kd.R_new' ho0 (Kd.R_lt (ra q4.out))) (Kd.Q_lt (by (with_reducible repeat (first | apply Kd.Q_alloc | apply Kd.Q_drewN | apply Kd.Q_drew)); exact q3.out))) (below_size (qb_17))); have n3_ := q0_17 (bb q1.out hb); have n4_ := q0_17 (below_step (qb_17) hb); clear q4; clear q3; clear q1; clear HB; have q4 := n0_; have q3 := n1_; have qg := n2_; have q1 := n3_; have HB := n4_; clear n0_ n1_ n2_ n3_ n4_; (try clear hb); (try clear hb2); (try clear hk); (try clear hi); (try clear ho0)) | ((with_reducible refine gate_dst (N := 11) rfl ?_); refine box_event ?hg (N := 11) ?hd (cs := #[.slice none 0 0, .int .i64 0]) (t := 46) ?hr ?_; (case hd => rfl); (case hg => rfl); (case hr => first | (go_simp; done) | (go_simp; rfl)); intro q7 hg w53 hbox hb; have n0_ := q0_17 (Kd.R_below (ra q4.out) hb); have n1_ := q0_17 (Kd.Q_below (by (with_reducible repeat (first | apply Kd.Q_alloc | apply Kd.Q_drewN | apply Kd.Q_drew)); exact q3.out) hb); have n2_ := q0_17 (Kd.R_below (ra qg.out) hb); have n3_ := q0_17 (bb q1.out hb); have n4_ := q0_17 (below_step (qb_17) hb); have n5_ := q0_17 (hbox); have n6_ := q0_17 ((by rw [hg]; exact (below_size (qb_17)) : w.heap.size ≤ q7)); have n7_ := q0_17 ((by rw [hg]; exact (below_size (qb_17)) : w.heap.size ≤ q7)); have n8_ := q0_17 ((by rw [hg]; exact Nat.ne_of_lt (bl q1.out) : q2 ≠ q7)); have n9_ := q0_17 ((by rw [hg]; exact Nat.ne_of_gt (bl q1.out) : q7 ≠ q2)); clear q4; clear q3; clear qg; clear q1; clear HB; have q4 := n0_; have q3 := n1_; have qg := n2_; have q1 := n3_; have HB := n4_; have q6 := n5_; have GW512 := n6_; have qt := n7_; have q8 := n8_; have q9 := n9_; clear n0_ n1_ n2_ n3_ n4_ n5_ n6_ n7_ n8_ n9_; clear hb hbox hg; obtain ⟨qh, qi, eo54⟩ := Kd.R_slice qg.out; subst eo54; have hnb55 := q9.out; have hnc55 := q8.out; have hcz56_0 : w53.cell? ⟨q7, 0, none⟩ = some (.slice none 0 0) := (blk_cell q6.out 0).trans rfl; have hcz56_1 : w53.cell? ⟨q7, 1, none⟩ = some (.int .i64 0) := (blk_cell q6.out 1).trans rfl; have hfz56_0 := blk_frozen q6.out 0; have hfz56_1 := blk_frozen q6.out 1)))
         (go_loopg [12, 13] kj4 (fun kq v12 v13 w' => ∃ (x12_2 : Int) (x13_2 : Int), v12 = .int .i64 x12_2 ∧ v13 = .int .i64 x13_2 ∧ Aside0 (laws_FnBounded.l0 kq t505 t507 x12_2 x13_2 t500 t503 t508 t511 = some true) ∧ Aside0 (kq ≤ kj4) ∧ Aside0 (Kd.Q (Kd.int .i64) 3 w' w.heap.size (fun k_ => some k_ ≠ ((.slice qh t508.length qi) : Value).ownBlock) (.slice qe t500.length qd) t500) ∧ Aside0 (Kd.Q (Kd.int .i64) 3 w' w.heap.size (fun k_ => some k_ ≠ ((.slice qe t500.length qd) : Value).ownBlock) (.slice qh t508.length qi) t508) ∧ Aside0 (w'.heap[q2]? = some (.cells #[(.slice qe t500.length qd), .int .i64 t503] 46 (0, 0))) ∧ Aside0 (w'.heap[q7]? = some (.cells #[(.slice qh t508.length qi), .int .i64 t511] 46 (0, 0))) ∧ Aside0 (Below w.heap.size w w')))
         case atStart => exact ⟨(0), (0), (by first | rfl | (simp; done) | (simp [*]; done)), (by first | rfl | (simp; done) | (simp [*]; done)), H', ⟨Nat.le_refl _⟩, ⟨by (with_reducible repeat (first | apply Kd.Q_alloc | apply Kd.Q_drewN | apply Kd.Q_drew)); exact Kd.Q_mono (Kd.Q_far (p := ⟨q7, 1, none⟩) (Kd.Q_far (p := ⟨q7, 0, none⟩) (Kd.Q_types q3.out q6.out (by decide)) (fun _ hk => hk.2) (.slice qh t508.length qi)) (fun _ hk => hk.2) (.int .i64 t511)) (fun _ hk => hk.1.2)⟩, ⟨Kd.Q_of_R (by refine ra ?_; exact Kd.R_mono (Kd.R_far (p := ⟨q7, 1, none⟩) (Kd.R_far (p := ⟨q7, 0, none⟩) (Kd.R_types qg.out q6.out (by decide)) (fun _ hk => hk.2) (.slice qh t508.length qi)) (fun _ hk => hk.2) (.int .i64 t511)) (fun _ hk => hk.1.2))⟩, ⟨by refine ba ?_; refine blk_far ?_ q8.out _; refine ba ?_; refine blk_far ?_ q8.out _; refine ba ?_; exact q1.out⟩, ⟨by refine ba ?_; refine blk_put (cs := #[.slice qh t508.length qi, .int .i64 0]) ?_ 1 _ rfl; refine ba ?_; refine blk_put (cs := #[.slice none 0 0, .int .i64 0]) ?_ 0 _ rfl; refine ba ?_; exact q6.out⟩, ⟨by exact (qc_17)⟩⟩
         case round =>
          clear H'; (try clear c1); (try clear c2); (try clear p2); (try clear c3); (try clear c4); (try clear c5); (try clear c6); (try clear c7); (try clear c7b0); (try clear c7b1); (try clear c13); (try clear c16); (try clear c17); (try clear c17b0); (try clear c17b1); (try clear c18); (try clear c18b0); (try clear c18b1); (try clear c18b2); (try clear c19); (try clear c20); (try clear c29); (try clear c42); (try clear c55); (try clear hcz22_0); (try clear hcz22_1); (try clear hcz25_0); (try clear hcz25_1); (try clear hcz30_0); (try clear hcz30_1); (try clear hcz31_0); (try clear hcz31_1); (try clear hcz35_0); (try clear hcz35_1); (try clear hcz38_0); (try clear hcz38_1); (try clear hcz43_0); (try clear hcz43_1); (try clear hcz44_0); (try clear hcz44_1); (try clear hcz48_0); (try clear hcz48_1); (try clear hcz51_0); (try clear hcz51_1); (try clear hcz56_0); (try clear hcz56_1); (try clear hfz22_0); (try clear hfz22_1); (try clear hfz25_0); (try clear hfz25_1); (try clear hfz30_0); (try clear hfz30_1); (try clear hfz31_0); (try clear hfz31_1); (try clear hfz35_0); (try clear hfz35_1); (try clear hfz38_0); (try clear hfz38_1); (try clear hfz43_0); (try clear hfz43_1); (try clear hfz44_0); (try clear hfz44_1); (try clear hfz48_0); (try clear hfz48_1); (try clear hfz51_0); (try clear hfz51_1); (try clear hfz56_0); (try clear hfz56_1); (try clear p2); obtain ⟨x12_2, x13_2, rfl, rfl, HA, HK2, qf, qa, q1, q6, HB⟩ := hrel
          cases gk with
          | zero => exact absurd HA.out (by simp [laws_FnBounded.l0])
          | succ k2 =>
           have H := HA.out; clear HA; (simp only [laws_FnBounded.l0] at H)
           by_cases c57 : x13_2 < (t508.length : Int)
           · rw [if_pos c57] at H
             (have c57b0 : decide (x13_2 < (t508.length : Int)) = true := decide_eq_true c57); clear c57; have HC58 := q0_17 H; clear H; have hnb59 := q9.out; have hnc59 := q8.out; (have hcz60_0 : wr.cell? ⟨q7, 0, none⟩ = some (.slice qh t508.length qi) := (blk_cell q6.out 0).trans rfl); (have hcz60_1 : wr.cell? ⟨q7, 1, none⟩ = some (.int .i64 t511) := (blk_cell q6.out 1).trans rfl); have hfz60_0 := blk_frozen q6.out 0; have hfz60_1 := blk_frozen q6.out 1; (go_upto_region 15 with (fail)); (go_cut [83] (fun v83 wc => ∃ (kq : Nat) (x83_57 : Bool), v83 = .bool x83_57 ∧ Aside0 (laws_FnBounded.j2 kq t505 t507 x12_2 x13_2 x83_57 t500 t503 t508 t511 = some true) ∧ Aside0 (kq ≤ k2) ∧ Aside0 (Kd.Q (Kd.int .i64) 3 wc w.heap.size (fun k_ => some k_ ≠ ((.slice qh t508.length qi) : Value).ownBlock) (.slice qe t500.length qd) t500) ∧ Aside0 (Kd.Q (Kd.int .i64) 3 wc w.heap.size (fun k_ => some k_ ≠ ((.slice qe t500.length qd) : Value).ownBlock) (.slice qh t508.length qi) t508) ∧ Aside0 (wc.heap[q2]? = some (.cells #[(.slice qe t500.length qd), .int .i64 t503] 46 (0, 0))) ∧ Aside0 (wc.heap[q7]? = some (.cells #[(.slice qh t508.length qi), .int .i64 t511] 46 (0, 0))) ∧ Aside0 (Below w.heap.size w wc)))
             case first =>
              have H := HC58.out; clear HC58
              by_cases c61 : 0 ≤ x13_2
              · rw [if_pos c61] at H
                (have c61b0 : decide (0 ≤ x13_2) = true := decide_eq_true c61); clear c61; ((first | rw [c61b0] | (simp only [i64_w, i32_w]; rw [c61b0]) | skip))
                by_cases c62 : (rd t508 x13_2) < 0
                · rw [if_pos c62] at H
                  (have c62b0 : decide ((rd t508 x13_2) < 0) = true := decide_eq_true c62); clear c62; (exact absurd H (by unfold laws_FnBounded.j2; split <;> simp))
                · rw [if_neg c62] at H
                  (have c62b0 : decide ((rd t508 x13_2) < 0) = false := decide_eq_false c62); clear c62; (have H' := q0_17 H); clear H; have hnb65 := q9.out; have hnc65 := q8.out; (have hcz66_0 : wr.cell? ⟨q7, 0, none⟩ = some (.slice qh t508.length qi) := (blk_cell q6.out 0).trans rfl); (have hcz66_1 : wr.cell? ⟨q7, 1, none⟩ = some (.int .i64 t511) := (blk_cell q6.out 1).trans rfl); have hfz66_0 := blk_frozen q6.out 0; have hfz66_1 := blk_frozen q6.out 1; (have p513 : 0 ≤ (x13_2 : Int) := of_decide_eq_true (by first | (with_reducible assumption) | assumption)); (have q513 : x13_2 < (t508.length : Int) := of_decide_eq_true (by first | (with_reducible assumption) | assumption)); obtain ⟨ad513, e513, hx513_0⟩ := Kd.at_int (Kd.Q_reads' qa.out).2.2 x13_2 p513 q513
                  cases e513
                  replace p513 := eq_true p513; replace q513 := eq_true q513; (have p514 : 0 ≤ (x13_2 : Int) := of_decide_eq_true (by first | (with_reducible assumption) | assumption)); (have q514 : x13_2 < (t508.length : Int) := of_decide_eq_true (by first | (with_reducible assumption) | assumption)); obtain ⟨ad514, e514, hx514_0⟩ := Kd.at_int (Kd.Q_reads' qa.out).2.2 x13_2 p514 q514; obtain rfl : ad513 = ad514 := (by injection e514); replace p514 := eq_true p514; replace q514 := eq_true q514; (go_wp2); (go_meet)
                  case rel => exact ⟨_, (decide ((rd t508 x13_2) > 500)), (by first | rfl | (simp; done) | (simp [*]; done)), H', ⟨by have := HJ4.out; have := HK2.out; first | omega | exact Nat.le_refl _⟩, ⟨by (with_reducible repeat (first | apply Kd.Q_alloc | apply Kd.Q_drewN | apply Kd.Q_drew)); exact qf.out⟩, ⟨by (with_reducible repeat (first | apply Kd.Q_alloc | apply Kd.Q_drewN | apply Kd.Q_drew)); exact qa.out⟩, ⟨by refine ba ?_; exact q1.out⟩, ⟨by refine ba ?_; exact q6.out⟩, ⟨by exact (qc_17)⟩⟩
              · rw [if_neg c61] at H
                exact absurd H (by simp)
             case rest =>
              clear HC58; (try clear c1); (try clear c2); (try clear p2); (try clear c3); (try clear c4); (try clear c5); (try clear p5); (try clear q5); (try clear hx5); (try clear c6); (try clear c7); (try clear c7b0); (try clear c7b1); (try clear c13); (try clear c16); (try clear c17); (try clear c17b0); (try clear c17b1); (try clear c18); (try clear c18b0); (try clear c18b1); (try clear c18b2); (try clear c19); (try clear c20); (try clear c29); (try clear c42); (try clear p51); (try clear q51); (try clear hx51); (try clear c55); (try clear c57); (try clear c57b0); (try clear c59); (try clear c61); (try clear c61b0); (try clear c62); (try clear c62b0); (try clear c63); (try clear c65); (try clear hcz22_0); (try clear hcz22_1); (try clear hcz25_0); (try clear hcz25_1); (try clear hcz30_0); (try clear hcz30_1); (try clear hcz31_0); (try clear hcz31_1); (try clear hcz35_0); (try clear hcz35_1); (try clear hcz38_0); (try clear hcz38_1); (try clear hcz43_0); (try clear hcz43_1); (try clear hcz44_0); (try clear hcz44_1); (try clear hcz48_0); (try clear hcz48_1); (try clear hcz51_0); (try clear hcz51_1); (try clear hcz56_0); (try clear hcz56_1); (try clear hcz60_0); (try clear hcz60_1); (try clear hcz64_0); (try clear hcz64_1); (try clear hcz66_0); (try clear hcz66_1); (try clear hfz22_0); (try clear hfz22_1); (try clear hfz25_0); (try clear hfz25_1); (try clear hfz30_0); (try clear hfz30_1); (try clear hfz31_0); (try clear hfz31_1); (try clear hfz35_0); (try clear hfz35_1); (try clear hfz38_0); (try clear hfz38_1); (try clear hfz43_0); (try clear hfz43_1); (try clear hfz44_0); (try clear hfz44_1); (try clear hfz48_0); (try clear hfz48_1); (try clear hfz51_0); (try clear hfz51_1); (try clear hfz56_0); (try clear hfz56_1); (try clear hfz60_0); (try clear hfz60_1); (try clear hfz64_0); (try clear hfz64_1); (try clear hfz66_0); (try clear hfz66_1); (try clear hx513_0); (try clear hx514_0); (try clear p2); (try clear p513); (try clear p514); (try clear q513); (try clear q514); obtain ⟨kq, x83_57, rfl, HA, HJ57, qf, qa, q1, q6, HB⟩ := hcut
              cases kq with
              | zero => exact absurd HA.out (by simp [laws_FnBounded.j2])
              | succ kj57 =>
               have H := HA.out; clear HA; (simp only [laws_FnBounded.j2] at H)
               by_cases c67 : x83_57 = true
               · subst c67
                 have H1 := H; rw [if_pos rfl] at H1; clear H; have H := H1; clear H1; exact absurd H (by simp)
               · replace c67 := Bool.eq_false_iff.mpr c67
                 subst c67; (have H1 : (if 0 ≤ x13_2 then (if x13_2 < (t508.length : Int) then (if (rd t508 x13_2) < 500 then (laws_FnBounded.l0 kj57 t505 t507 (wrap64 (x12_2 + 1)) (wrap64 (x13_2 + 1)) t500 t503 t508 t511) else (laws_FnBounded.l0 kj57 t505 t507 x12_2 (wrap64 (x13_2 + 1)) t500 t503 t508 t511)) else (none)) else (none)) = some true := by rw [if_neg (show ¬ (false = true) by decide)] at H; exact H); clear H; have H := H1; clear H1
                 by_cases c68 : 0 ≤ x13_2
                 · rw [if_pos c68] at H
                   (have c68b0 : decide (0 ≤ x13_2) = true := decide_eq_true c68); clear c68
                   by_cases c69 : x13_2 < (t508.length : Int)
                   · rw [if_pos c69] at H
                     (have c69b0 : decide (x13_2 < (t508.length : Int)) = true := decide_eq_true c69); clear c69
                     by_cases c70 : (rd t508 x13_2) < 500
                     · rw [if_pos c70] at H
                       (have c70b0 : decide ((rd t508 x13_2) < 500) = true := decide_eq_true c70); clear c70; (have H' := q0_17 H); clear H; have hnb71 := q9.out; have hnc71 := q8.out; (have hcz72_0 : wc.cell? ⟨q7, 0, none⟩ = some (.slice qh t508.length qi) := (blk_cell q6.out 0).trans rfl); (have hcz72_1 : wc.cell? ⟨q7, 1, none⟩ = some (.int .i64 t511) := (blk_cell q6.out 1).trans rfl); have hfz72_0 := blk_frozen q6.out 0; have hfz72_1 := blk_frozen q6.out 1; (have p515 : 0 ≤ (x13_2 : Int) := of_decide_eq_true (by first | (with_reducible assumption) | assumption)); (have q515 : x13_2 < (t508.length : Int) := of_decide_eq_true (by first | (with_reducible assumption) | assumption)); obtain ⟨ad515, e515, hx515_0⟩ := Kd.at_int (Kd.Q_reads' qa.out).2.2 x13_2 p515 q515
                       cases e515
                       replace p515 := eq_true p515; replace q515 := eq_true q515; (go_wp2); (go_roundg kj57)
                       case measure => have := HJ4.out; have := HK2.out; have := HJ57.out; omega
                       case rel => exact ⟨(wrap64 (x12_2 + 1)), (wrap64 (x13_2 + 1)), (by first | rfl | (simp; done) | (simp [*]; done)), (by first | rfl | (simp; done) | (simp [*]; done)), H', ⟨by have := HJ4.out; have := HK2.out; have := HJ57.out; omega⟩, ⟨by (with_reducible repeat (first | apply Kd.Q_alloc | apply Kd.Q_drewN | apply Kd.Q_drew)); exact qf.out⟩, ⟨by (with_reducible repeat (first | apply Kd.Q_alloc | apply Kd.Q_drewN | apply Kd.Q_drew)); exact qa.out⟩, ⟨by refine ba ?_; exact q1.out⟩, ⟨by refine ba ?_; exact q6.out⟩, ⟨by exact (qc_17)⟩⟩
                     · rw [if_neg c70] at H
                       (have c70b0 : decide ((rd t508 x13_2) < 500) = false := decide_eq_false c70); clear c70; (have H' := q0_17 H); clear H; have hnb73 := q9.out; have hnc73 := q8.out; (have hcz74_0 : wc.cell? ⟨q7, 0, none⟩ = some (.slice qh t508.length qi) := (blk_cell q6.out 0).trans rfl); (have hcz74_1 : wc.cell? ⟨q7, 1, none⟩ = some (.int .i64 t511) := (blk_cell q6.out 1).trans rfl); have hfz74_0 := blk_frozen q6.out 0; have hfz74_1 := blk_frozen q6.out 1; (have p515 : 0 ≤ (x13_2 : Int) := of_decide_eq_true (by first | (with_reducible assumption) | assumption)); (have q515 : x13_2 < (t508.length : Int) := of_decide_eq_true (by first | (with_reducible assumption) | assumption)); obtain ⟨ad515, e515, hx515_0⟩ := Kd.at_int (Kd.Q_reads' qa.out).2.2 x13_2 p515 q515
                       cases e515
                       replace p515 := eq_true p515; replace q515 := eq_true q515; (go_wp2); (go_roundg kj57)
                       case measure => have := HJ4.out; have := HK2.out; have := HJ57.out; omega
                       case rel => exact ⟨(x12_2), (wrap64 (x13_2 + 1)), (by first | rfl | (simp; done) | (simp [*]; done)), (by first | rfl | (simp; done) | (simp [*]; done)), H', ⟨by have := HJ4.out; have := HK2.out; have := HJ57.out; omega⟩, ⟨by (with_reducible repeat (first | apply Kd.Q_alloc | apply Kd.Q_drewN | apply Kd.Q_drew)); exact qf.out⟩, ⟨by (with_reducible repeat (first | apply Kd.Q_alloc | apply Kd.Q_drewN | apply Kd.Q_drew)); exact qa.out⟩, ⟨by refine ba ?_; exact q1.out⟩, ⟨by refine ba ?_; exact q6.out⟩, ⟨by exact (qc_17)⟩⟩
                   · rw [if_neg c69] at H
                     exact absurd H (by simp)
                 · rw [if_neg c68] at H
                   exact absurd H (by simp)
           · rw [if_neg c57] at H
             (have c57b0 : decide (x13_2 < (t508.length : Int)) = false := decide_eq_false c57); clear c57
             by_cases c75 : t507 ≤ (wrap64 ((wrap64 (2 * t505)) + 1))
             · rw [if_pos c75] at H
               (have c75b0 : decide (t507 ≤ (wrap64 ((wrap64 (2 * t505)) + 1))) = true := decide_eq_true c75); clear c75
               by_cases c76 : x12_2 ≤ t507
               · rw [if_pos c76] at H
                 (have c76b0 : decide (x12_2 ≤ t507) = true := decide_eq_true c76); clear c76; have hrv := Option.some.inj H; clear H; have hnb77 := q9.out; have hnc77 := q8.out; (have hcz78_0 : wr.cell? ⟨q7, 0, none⟩ = some (.slice qh t508.length qi) := (blk_cell q6.out 0).trans rfl); (have hcz78_1 : wr.cell? ⟨q7, 1, none⟩ = some (.int .i64 t511) := (blk_cell q6.out 1).trans rfl); have hfz78_0 := blk_frozen q6.out 0; have hfz78_1 := blk_frozen q6.out 1; (have hcz79_0 : wr.cell? ⟨q2, 0, none⟩ = some (.slice qe t500.length qd) := (blk_cell q1.out 0).trans rfl); (have hcz79_1 : wr.cell? ⟨q2, 1, none⟩ = some (.int .i64 t503) := (blk_cell q1.out 1).trans rfl); have hfz79_0 := blk_frozen q1.out 0; have hfz79_1 := blk_frozen q1.out 1; (go_wp2); go_ret; (exact ⟨by first | rfl | exact congrArg (fun z => Ending.returned (Value.bool z)) hrv | (simp [hrv]; done) | (simp at hrv; simp [hrv]; done) | (simp [errW_none, errW_some] <;> rfl) | (simp [*, errW_none, errW_some] <;> rfl), by exact (qc_17)⟩)
               · rw [if_neg c76] at H
                 (have c76b0 : decide (x12_2 ≤ t507) = false := decide_eq_false c76); clear c76; exact absurd H (by simp)
             · rw [if_neg c75] at H
               (have c75b0 : decide (t507 ≤ (wrap64 ((wrap64 (2 * t505)) + 1))) = false := decide_eq_false c75); clear c75; exact absurd H (by simp)
end Go.Proofs.Ytlkfhddckgjlnaa.PFnBounded
