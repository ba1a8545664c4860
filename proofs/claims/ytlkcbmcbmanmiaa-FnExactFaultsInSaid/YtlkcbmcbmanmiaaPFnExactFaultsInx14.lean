-- Written for this claim by a program of this repository (wip/tools/print2.py), out of the translation; Lean checks it.
import Derived.Test.YtlkcbmcbmanmiaaPFnExactFaultsInx0
import Derived.Test.YtlkcbmcbmanmiaaPFnExactFaultsInx1
import Derived.Test.YtlkcbmcbmanmiaaPFnExactFaultsInx7
import Derived.Test.YtlkcbmcbmanmiaaPFnExactFaultsInx13
namespace Go.Proofs.Ytlkcbmcbmanmiaa.PFnExactFaultsIn
open Go.RowKit Go.Proofs.YtlkcbmcbmanmiaaW.PrintWords Go.Proofs.YtlkcbmcbmanmiaaW.PrintLast Go.Proofs.YtlkcbmcbmanmiaaW.PrintMore
attribute [local go_sem] max2_int min2_int max_two min_two max_three min_three max_four min_four   -- for this text's walks alone
set_option linter.unusedVariables false
set_option linter.unusedSimpArgs false
-- SHORT
theorem q9_14 {p : Prop} (f : p := by repeat (first | (with_reducible first | exact HB.out | apply below_alloc | apply pw_below_drewN | apply below_drew1) | exact HB.out)) : p := f
theorem q0_14 {p : Prop} (h : p) : Aside0 p := ⟨h⟩
/-! ### laws_heldFaultS: function 59 -/
def laws_heldFaultS.l0 : Nat → List (S120) → Int → Int → Option (Int)
 | 0, _, _, _ => none
 | k + 1, x0, x1, x5 => if x5 < (x0.length : Int) then (if 0 ≤ x5 then (if ((rd_T120 x0 x5).f0) = x1 then (if ((rd_T120 x0 x5).f1) = (wrap64 (x1 + 1)) then (laws_heldFaultS.l0 k x0 (wrap64 ((wrap64 (x1 + 1)) + 1)) (wrap64 (x5 + 1))) else (some (-1))) else (some (-1))) else (none)) else (some x1)
def laws_heldFaultS.f (k : Nat) (l0 : List (S120)) (a1 : Int) : Option (Int) := laws_heldFaultS.l0 k l0 a1 0
theorem laws_heldFaultS.mono_l : ∀ k, (∀ y0 y1 y2, LeO (laws_heldFaultS.l0 k y0 y1 y2) (laws_heldFaultS.l0 (k + 1) y0 y1 y2))
 | 0 => fun _ _ _ r h => by simp [laws_heldFaultS.l0] at h
 | k + 1 => by
  have ih0 := laws_heldFaultS.mono_l k
  · intro y0 y1 y2
    unfold laws_heldFaultS.l0
    repeat' first
    | (with_reducible exact ih0 _ _ _)
    | (with_reducible exact LeO.refl _)
    | (with_reducible exact LeO.none _)
    | (with_reducible refine LeO.ite ?_ ?_)
    | (with_reducible refine LeO.bind ?_ (fun _ => ?_))
    | exact ih0 _ _ _
    | exact LeO.none _
    | refine LeO.ite ?_ ?_
    | refine LeO.bind ?_ (fun _ => ?_)
theorem laws_heldFaultS.mono : ∀ a0 a1 k, LeO (laws_heldFaultS.f k a0 a1) (laws_heldFaultS.f (k + 1) a0 a1) := by
 intro a0 a1 k; have ih0 := laws_heldFaultS.mono_l k; unfold laws_heldFaultS.f
 repeat' first
  | (with_reducible exact ih0 _ _ _)
  | (with_reducible exact LeO.refl _)
  | (with_reducible exact LeO.none _)
  | (with_reducible refine LeO.ite ?_ ?_)
  | (with_reducible refine LeO.bind ?_ (fun _ => ?_))
  | exact ih0 _ _ _
  | exact LeO.none _
  | refine LeO.ite ?_ ?_
  | refine LeO.bind ?_ (fun _ => ?_)
set_option maxHeartbeats 8000000 in
set_option maxRecDepth 100000 in
theorem laws_heldFaultS.calls (k : Nat) (A0 : Option Addr) (c0 : Nat) (l0 : List (S120)) (a1 : Int) (r : Int) (w : World) (hr0 : Kd.C k120 w A0 l0.length l0) (hc0 : l0.length ≤ c0) (h : laws_heldFaultS.f k l0 a1 = some r) :
 Calls Try.prog 59 #[.slice A0 l0.length c0, .int .i64 a1] w fun e w' => e = .returned (.int .i64 r) ∧ Drawn0 w w' := by
 have HR0 := q0_14 hr0; have HC0 := q0_14 hc0; clear hr0 hc0; (have H : (laws_heldFaultS.l0 k l0 a1 0) = some r := h); clear h; (have H' := q0_14 H); clear H; go_enter Try.func59, Try.ntmps59; (go_wp2); (go_loopg [1, 5] k (fun kq v1 v5 w' => ∃ (x1_1 : Int) (x5_1 : Int), v1 = .int .i64 x1_1 ∧ v5 = .int .i64 x5_1 ∧ Aside0 (laws_heldFaultS.l0 kq l0 x1_1 x5_1 = some r) ∧ Aside0 (kq ≤ k) ∧ Drawn0 w w'))
 case atStart => exact ⟨(a1), (0), (by first | rfl | (simp; done) | (simp [*]; done)), (by first | rfl | (simp; done) | (simp [*]; done)), H', ⟨Nat.le_refl _⟩, by repeat (first | exact Drawn0.refl _ | apply Drawn0.step)⟩
 case round =>
  clear H'; (try clear p2); obtain ⟨x1_1, x5_1, rfl, rfl, HA, HK1, ⟨m1, rfl⟩⟩ := hrel
  cases gk with
  | zero => exact absurd HA.out (by simp [laws_heldFaultS.l0])
  | succ k1 =>
   have H := HA.out; clear HA; (simp only [laws_heldFaultS.l0] at H)
   by_cases c3 : x5_1 < (l0.length : Int)
   · rw [if_pos c3] at H
     (have c3b0 : decide (x5_1 < (l0.length : Int)) = true := decide_eq_true c3); clear c3
     by_cases c4 : 0 ≤ x5_1
     · rw [if_pos c4] at H
       (have c4b0 : decide (0 ≤ x5_1) = true := decide_eq_true c4); clear c4
       by_cases c5 : ((rd_T120 l0 x5_1).f0) = x1_1
       · rw [if_pos c5] at H
         (have c5b0 : (((rd_T120 l0 x5_1).f0) == x1_1) = true := beq_iff_eq.mpr c5); (have c5b1 : (((rd_T120 l0 x5_1).f0) != x1_1) = false := bne_eq_false_iff_eq.mpr c5); clear c5
         by_cases c6 : ((rd_T120 l0 x5_1).f1) = (wrap64 (x1_1 + 1))
         · rw [if_pos c6] at H
           (have c6b0 : (((rd_T120 l0 x5_1).f1) == (wrap64 (x1_1 + 1))) = true := beq_iff_eq.mpr c6); (have c6b1 : (((rd_T120 l0 x5_1).f1) != (wrap64 (x1_1 + 1))) = false := bne_eq_false_iff_eq.mpr c6); clear c6; (have H' := q0_14 H); clear H; (have p419 : 0 ≤ (x5_1 : Int) := of_decide_eq_true (by first | (with_reducible assumption) | assumption)); (have q419 : x5_1 < (l0.length : Int) := of_decide_eq_true (by first | (with_reducible assumption) | assumption)); obtain ⟨ad419, e419, hx419_0, hx419_1⟩ := at_T120 HR0.out x5_1 p419 q419
           cases e419
           replace p419 := eq_true p419; replace q419 := eq_true q419; (have p420 : 0 ≤ (x5_1 : Int) := of_decide_eq_true (by first | (with_reducible assumption) | assumption)); (have q420 : x5_1 < (l0.length : Int) := of_decide_eq_true (by first | (with_reducible assumption) | assumption)); obtain ⟨ad420, e420, hx420_0, hx420_1⟩ := at_T120 HR0.out x5_1 p420 q420; obtain rfl : ad419 = ad420 := (by injection e420); replace p420 := eq_true p420; replace q420 := eq_true q420; (go_wp2); (go_roundg k1)
           case measure => have := HK1.out; omega
           case rel => exact ⟨(wrap64 ((wrap64 (x1_1 + 1)) + 1)), (wrap64 (x5_1 + 1)), (by first | rfl | (simp; done) | (simp [*]; done)), (by first | rfl | (simp; done) | (simp [*]; done)), H', ⟨by have := HK1.out; omega⟩, by repeat (first | exact Drawn0.refl _ | apply Drawn0.step)⟩
         · rw [if_neg c6] at H
           (have c6b0 : (((rd_T120 l0 x5_1).f1) == (wrap64 (x1_1 + 1))) = false := beq_eq_false_iff_ne.mpr c6); (have c6b1 : (((rd_T120 l0 x5_1).f1) != (wrap64 (x1_1 + 1))) = true := bne_iff_ne.mpr c6); obtain rfl := Option.some.inj H; (have p419 : 0 ≤ (x5_1 : Int) := of_decide_eq_true (by first | (with_reducible assumption) | assumption)); (have q419 : x5_1 < (l0.length : Int) := of_decide_eq_true (by first | (with_reducible assumption) | assumption)); obtain ⟨ad419, e419, hx419_0, hx419_1⟩ := at_T120 HR0.out x5_1 p419 q419
           cases e419
           replace p419 := eq_true p419; replace q419 := eq_true q419; (have p420 : 0 ≤ (x5_1 : Int) := of_decide_eq_true (by first | (with_reducible assumption) | assumption)); (have q420 : x5_1 < (l0.length : Int) := of_decide_eq_true (by first | (with_reducible assumption) | assumption)); obtain ⟨ad420, e420, hx420_0, hx420_1⟩ := at_T120 HR0.out x5_1 p420 q420; obtain rfl : ad419 = ad420 := (by injection e420); replace p420 := eq_true p420; replace q420 := eq_true q420; (go_wp2); go_ret; exact ⟨by first | rfl | (simp; done) | (simp [*]; done), by repeat (first | exact Drawn0.refl _ | apply Drawn0.step)⟩
       · rw [if_neg c5] at H
         (have c5b0 : (((rd_T120 l0 x5_1).f0) == x1_1) = false := beq_eq_false_iff_ne.mpr c5); (have c5b1 : (((rd_T120 l0 x5_1).f0) != x1_1) = true := bne_iff_ne.mpr c5); obtain rfl := Option.some.inj H; (have p419 : 0 ≤ (x5_1 : Int) := of_decide_eq_true (by first | (with_reducible assumption) | assumption)); (have q419 : x5_1 < (l0.length : Int) := of_decide_eq_true (by first | (with_reducible assumption) | assumption)); obtain ⟨ad419, e419, hx419_0, hx419_1⟩ := at_T120 HR0.out x5_1 p419 q419
         cases e419
         replace p419 := eq_true p419; replace q419 := eq_true q419; (go_wp2); go_ret; exact ⟨by first | rfl | (simp; done) | (simp [*]; done), by repeat (first | exact Drawn0.refl _ | apply Drawn0.step)⟩
     · rw [if_neg c4] at H
       exact absurd H (by simp)
   · rw [if_neg c3] at H
     (have c3b0 : decide (x5_1 < (l0.length : Int)) = false := decide_eq_false c3); clear c3; obtain rfl := Option.some.inj H; (go_wp2); go_ret; exact ⟨by first | rfl | (simp; done) | (simp [*]; done), by repeat (first | exact Drawn0.refl _ | apply Drawn0.step)⟩
/-! ### laws_FnExactFaultsIn: function 12 -/
def laws_FnExactFaultsIn.j0 : Nat → List (S83) → Int → Int → List (S120) → List (S120) → Bool → Option (Bool)
 | 0, _, _, _, _, _, _ => none
 | k + 1, x0, x1, x2, x8, x10, x50 => if x50 = true then (some false) else ((laws_markFaultS.f k x10 1).bind fun bt442 => ((laws_heldFaultS.f k bt442.2 1).bind fun t444 => (if t444 < 0 then (some false) else (if t444 = bt442.1 then ((laws_toEventS.f k x0).bind fun t445 => ((impl_FaultsIn.f k t445 x1 x2).bind fun t448 => ((laws_eqFaultS.f k t448 x8).bind fun t451 => (if t451 = true then ((laws_heldFaultS.f k bt442.2 1).bind fun t452 => (if t452 < 0 then (some false) else (if t452 = bt442.1 then (some true) else (some false)))) else (some false))))) else (some false)))))
def laws_FnExactFaultsIn.f (k : Nat) (l0 : List (S83)) (a1 : Int) (a2 : Int) : Option (Bool) := (laws_szEventS.f l0 1048576).bind fun t421 => (if t421 < 0 then (some true) else ((laws_toEventS.f k l0).bind fun t422 => ((spec_FaultsIn.f k t422 a1 a2).bind fun t425 => ((laws_toEventS.f k l0).bind fun t428 => ((impl_FaultsIn.f k t428 a1 a2).bind fun t431 => ((laws_eqFaultS.f k t431 t425).bind fun t434 => (if t434 = true then ((laws_toEventS.f k l0).bind fun t435 => ((laws_eqEventS.f k t428 t435).bind fun t438 => (if t438 = true then ((laws_markEventS.f k t428 1).bind fun bt439 => (if bt439.1 < 0 then (laws_FnExactFaultsIn.j0 k l0 a1 a2 t425 t431 true) else ((laws_eqFaultS.f k t431 t425).bind fun t441 => (laws_FnExactFaultsIn.j0 k l0 a1 a2 t425 t431 (!t441))))) else (some false)))) else (some false))))))))
theorem laws_FnExactFaultsIn.mono_l : ∀ k, (∀ y0 y1 y2 y3 y4 y5, LeO (laws_FnExactFaultsIn.j0 k y0 y1 y2 y3 y4 y5) (laws_FnExactFaultsIn.j0 (k + 1) y0 y1 y2 y3 y4 y5))
 | 0 => fun _ _ _ _ _ _ r h => by simp [laws_FnExactFaultsIn.j0] at h
 | k + 1 => by
  have ih0 := laws_FnExactFaultsIn.mono_l k
  · intro y0 y1 y2 y3 y4 y5
    unfold laws_FnExactFaultsIn.j0
    repeat' first
    | (with_reducible exact ih0 _ _ _ _ _ _)
    | (with_reducible exact impl_FaultsIn.mono _ _ _ _)
    | (with_reducible exact laws_eqEventS.mono _ _ _)
    | (with_reducible exact laws_eqFaultS.mono _ _ _)
    | (with_reducible exact laws_heldFaultS.mono _ _ _)
    | (with_reducible exact laws_markEventS.mono _ _ _)
    | (with_reducible exact laws_markFaultS.mono _ _ _)
    | (with_reducible exact laws_toEventS.mono _ _)
    | (with_reducible exact spec_FaultsIn.mono _ _ _ _)
    | (with_reducible exact LeO.refl _)
    | (with_reducible exact LeO.none _)
    | (with_reducible refine LeO.ite ?_ ?_)
    | (with_reducible refine LeO.bind ?_ (fun _ => ?_))
    | exact ih0 _ _ _ _ _ _
    | exact impl_FaultsIn.mono _ _ _ _
    | exact laws_eqEventS.mono _ _ _
    | exact laws_eqFaultS.mono _ _ _
    | exact laws_heldFaultS.mono _ _ _
    | exact laws_markEventS.mono _ _ _
    | exact laws_markFaultS.mono _ _ _
    | exact laws_toEventS.mono _ _
    | exact spec_FaultsIn.mono _ _ _ _
    | exact LeO.none _
    | refine LeO.ite ?_ ?_
    | refine LeO.bind ?_ (fun _ => ?_)
theorem laws_FnExactFaultsIn.mono : ∀ a0 a1 a2 k, LeO (laws_FnExactFaultsIn.f k a0 a1 a2) (laws_FnExactFaultsIn.f (k + 1) a0 a1 a2) := by
 intro a0 a1 a2 k; have ih0 := laws_FnExactFaultsIn.mono_l k; unfold laws_FnExactFaultsIn.f
 repeat' first
  | (with_reducible exact ih0 _ _ _ _ _ _)
  | (with_reducible exact impl_FaultsIn.mono _ _ _ _)
  | (with_reducible exact laws_eqEventS.mono _ _ _)
  | (with_reducible exact laws_eqFaultS.mono _ _ _)
  | (with_reducible exact laws_heldFaultS.mono _ _ _)
  | (with_reducible exact laws_markEventS.mono _ _ _)
  | (with_reducible exact laws_markFaultS.mono _ _ _)
  | (with_reducible exact laws_toEventS.mono _ _)
  | (with_reducible exact spec_FaultsIn.mono _ _ _ _)
  | (with_reducible exact LeO.refl _)
  | (with_reducible exact LeO.none _)
  | (with_reducible refine LeO.ite ?_ ?_)
  | (with_reducible refine LeO.bind ?_ (fun _ => ?_))
  | exact ih0 _ _ _ _ _ _
  | exact impl_FaultsIn.mono _ _ _ _
  | exact laws_eqEventS.mono _ _ _
  | exact laws_eqFaultS.mono _ _ _
  | exact laws_heldFaultS.mono _ _ _
  | exact laws_markEventS.mono _ _ _
  | exact laws_markFaultS.mono _ _ _
  | exact laws_toEventS.mono _ _
  | exact spec_FaultsIn.mono _ _ _ _
  | exact LeO.none _
  | refine LeO.ite ?_ ?_
  | refine LeO.bind ?_ (fun _ => ?_)
set_option maxHeartbeats 8000000 in
set_option maxRecDepth 100000 in
theorem laws_FnExactFaultsIn.calls_true (k : Nat) (A0 : Option Addr) (c0 : Nat) (l0 : List (S83)) (a1 : Int) (a2 : Int) (w : World) (hr0 : Kd.C k83 w A0 l0.length l0) (hc0 : l0.length ≤ c0) (h : laws_FnExactFaultsIn.f k l0 a1 a2 = some true) :
 Calls Try.prog 12 #[.slice A0 l0.length c0, .int .i64 a1, .int .i64 a2] w fun e w' => e = .returned (.bool true) ∧ Below w.heap.size w w' := by
 have HR0 := q0_14 hr0; have HC0 := q0_14 hc0; clear hr0 hc0; have HB := q0_14 (Below.refl w.heap.size w); (have H : ((laws_szEventS.f l0 1048576).bind fun t421 => (if t421 < 0 then (some true) else ((laws_toEventS.f k l0).bind fun t422 => ((spec_FaultsIn.f k t422 a1 a2).bind fun t425 => ((laws_toEventS.f k l0).bind fun t428 => ((impl_FaultsIn.f k t428 a1 a2).bind fun t431 => ((laws_eqFaultS.f k t431 t425).bind fun t434 => (if t434 = true then ((laws_toEventS.f k l0).bind fun t435 => ((laws_eqEventS.f k t428 t435).bind fun t438 => (if t438 = true then ((laws_markEventS.f k t428 1).bind fun bt439 => (if bt439.1 < 0 then (laws_FnExactFaultsIn.j0 k l0 a1 a2 t425 t431 true) else ((laws_eqFaultS.f k t431 t425).bind fun t441 => (laws_FnExactFaultsIn.j0 k l0 a1 a2 t425 t431 (!t441))))) else (some false)))) else (some false))))))))) = some true := h); clear h; replace H := Option.bind_eq_some_iff.mp H; obtain ⟨t421, A40, H⟩ := H; (try dsimp only at H); have A4 := q0_14 A40; clear A40
 by_cases c5 : t421 < 0
 · rw [if_pos c5] at H
   (have c5b0 : decide (t421 < 0) = true := decide_eq_true c5); clear c5 H; go_enter Try.func12, Try.ntmps12; (go_wp2_with (first | ((with_reducible refine gate_callee (f := 14) rfl ?_); refine goesL_ (some 17) rfl rfl Try.func14 (by kernel_rfl) rfl #[.slice A0 l0.length c0, .int .i64 1048576] rfl ma ?_; (with_reducible refine (laws_szEventS.calls _ _ l0 1048576 t421 _ ?side1 ?side2 A4.out).mono ?_); (case side1 => repeat (first | exact HR0.out | (with_reducible refine Kd.C_alloc ?_ _) | (with_reducible refine Kd.C_drewN ?_ _) | (with_reducible refine Kd.C_drew ?_))); (case side2 => exact HC0.out); rintro e w' ⟨rfl, ⟨nd, rfl⟩⟩; refine ⟨_, rfl, ?_⟩))); go_ret; (exact ⟨by first | rfl | (simp [errW_none, errW_some] <;> rfl) | (simp [*, errW_none, errW_some] <;> rfl), by exact (q9_14)⟩)
 · rw [if_neg c5] at H
   (have c5b0 : decide (t421 < 0) = false := decide_eq_false c5); clear c5; replace H := Option.bind_eq_some_iff.mp H; obtain ⟨t422, A60, H⟩ := H; (try dsimp only at H); have A6 := q0_14 A60; clear A60; replace H := Option.bind_eq_some_iff.mp H; obtain ⟨t425, A70, H⟩ := H; (try dsimp only at H); have A7 := q0_14 A70; clear A70; replace H := Option.bind_eq_some_iff.mp H; obtain ⟨t428, A80, H⟩ := H; (try dsimp only at H); have A8 := q0_14 A80; clear A80; replace H := Option.bind_eq_some_iff.mp H; obtain ⟨t431, A90, H⟩ := H; (try dsimp only at H); have A9 := q0_14 A90; clear A90; replace H := Option.bind_eq_some_iff.mp H; obtain ⟨t434, A100, H⟩ := H; (try dsimp only at H); have A10 := q0_14 A100; clear A100
   by_cases c11 : t434 = true
   · subst c11
     have H1 := H; rw [if_pos rfl] at H1; clear H; have H := H1; clear H1; replace H := Option.bind_eq_some_iff.mp H; obtain ⟨t435, A120, H⟩ := H; (try dsimp only at H); have A12 := q0_14 A120; clear A120; replace H := Option.bind_eq_some_iff.mp H; obtain ⟨t438, A130, H⟩ := H; (try dsimp only at H); have A13 := q0_14 A130; clear A130
     by_cases c14 : t438 = true
     · subst c14
       have H1 := H; rw [if_pos rfl] at H1; clear H; have H := H1; clear H1; replace H := Option.bind_eq_some_iff.mp H; obtain ⟨⟨t439, t440⟩, A150, H⟩ := H; (try dsimp only at H); have A15 := q0_14 A150; clear A150; have HC16 := q0_14 H; clear H; go_enter Try.func12, Try.ntmps12
       (go_upto_region 14 with (first | ((with_reducible refine gate_callee (f := 14) rfl ?_); refine goesL_ (some 17) rfl rfl Try.func14 (by kernel_rfl) rfl #[.slice A0 l0.length c0, .int .i64 1048576] rfl ma ?_; (with_reducible refine (laws_szEventS.calls _ _ l0 1048576 t421 _ ?side1 ?side2 A4.out).mono ?_); (case side1 => repeat (first | exact HR0.out | (with_reducible refine Kd.C_alloc ?_ _) | (with_reducible refine Kd.C_drewN ?_ _) | (with_reducible refine Kd.C_drew ?_))); (case side2 => exact HC0.out); rintro e w' ⟨rfl, ⟨nd, rfl⟩⟩; refine ⟨_, rfl, ?_⟩) | ((with_reducible refine gate_callee (f := 16) rfl ?_); refine goesL_ (some 21) rfl rfl Try.func16 (by kernel_rfl) rfl #[.slice A0 l0.length c0] rfl ma ?_; (with_reducible refine (laws_toEventS.calls k _ _ l0 t422 _ ?side1 ?side2 A6.out).mono ?_); (case side1 => repeat (first | exact HR0.out | (with_reducible refine Kd.C_alloc ?_ _) | (with_reducible refine Kd.C_drewN ?_ _) | (with_reducible refine Kd.C_drew ?_))); (case side2 => exact HC0.out); rintro e w17 ⟨v423, rfl, ho0, hb⟩; refine ⟨_, rfl, ?_⟩; have n0_ := q0_14 (Kd.R_lower ho0 (below_size (q9_14))); have n1_ := q0_14 (below_step (q9_14) hb); clear HB; have q1 := n0_; have HB := n1_; clear n0_ n1_; (try clear hb); (try clear hb2); (try clear hk); (try clear hi); (try clear ho0); obtain ⟨qh, qi, eo18⟩ := Kd.R_slice q1.out; subst eo18) | ((with_reducible refine gate_callee (f := 55) rfl ?_); refine goesL_ (some 24) rfl rfl Try.func55 (by kernel_rfl) rfl #[.slice qh t422.length qi, .int .i64 a1, .int .i64 a2] rfl ma ?_; (with_reducible refine (spec_FaultsIn.calls k _ _ t422 a1 a2 t425 _ ?side1 ?side2 A7.out).mono ?_); (case side1 => exact ca (Kd.R_reads' q1.out).2.2); (case side2 => exact (Kd.R_reads' q1.out).2.1); rintro e w19 ⟨v426, rfl, ho0, hb⟩; refine ⟨_, rfl, ?_⟩; have n0_ := q0_14 (Kd.R_below (ra q1.out) hb); have n1_ := q0_14 (Kd.R_lower ho0 (below_size (q9_14))); have n2_ := q0_14 (below_step (q9_14) hb); clear q1; clear HB; have q1 := n0_; have q2 := n1_; have HB := n2_; clear n0_ n1_ n2_; (try clear hb); (try clear hb2); (try clear hk); (try clear hi); (try clear ho0)) | ((with_reducible refine gate_callee (f := 16) rfl ?_); refine goesL_ (some 26) rfl rfl Try.func16 (by kernel_rfl) rfl #[.slice A0 l0.length c0] rfl ma ?_; (with_reducible refine (laws_toEventS.calls k _ _ l0 t428 _ ?side1 ?side2 A8.out).mono ?_); (case side1 => exact ca (Kd.C_below HR0.out HB.out)); (case side2 => exact HC0.out); rintro e w20 ⟨v429, rfl, ho0, hb⟩; refine ⟨_, rfl, ?_⟩; have n0_ := q0_14 (Kd.R_elder' (ra q1.out) (Kd.R_base ho0) hb); have n1_ := q0_14 (Kd.R_below (ra q2.out) hb); have n2_ := q0_14 (Kd.R_lower (Kd.R_new' ho0 (Kd.R_lt (ra q1.out))) (below_size (q9_14))); have n3_ := q0_14 (below_step (q9_14) hb); clear q1; clear q2; clear HB; have q1 := n0_; have q2 := n1_; have q3 := n2_; have HB := n3_; clear n0_ n1_ n2_ n3_; (try clear hb); (try clear hb2); (try clear hk); (try clear hi); (try clear ho0); obtain ⟨qd, qe, eo21⟩ := Kd.R_slice q3.out; subst eo21) | ((with_reducible refine gate_callee (f := 56) rfl ?_); refine goesL_ (some 30) rfl rfl Try.func56 (by kernel_rfl) rfl #[.slice qd t428.length qe, .int .i64 a1, .int .i64 a2] rfl ma ?_; (with_reducible refine (impl_FaultsIn.calls k _ _ t428 a1 a2 t431 _ ?side1 ?side2 A9.out).mono ?_); (case side1 => exact ca (Kd.R_reads' q3.out).2.2); (case side2 => exact (Kd.R_reads' q3.out).2.1); rintro e w22 ⟨v432, rfl, ho0, hb⟩; refine ⟨_, rfl, ?_⟩; have n0_ := q0_14 (Kd.R_below (ra q1.out) hb); have n1_ := q0_14 (Kd.R_elder' (ra q2.out) (Kd.R_base ho0) hb); have n2_ := q0_14 (Kd.R_below (ra q3.out) hb); have n3_ := q0_14 (Kd.R_lower (Kd.R_new' ho0 (Kd.R_lt (ra q2.out))) (below_size (q9_14))); have n4_ := q0_14 (below_step (q9_14) hb); clear q1; clear q2; clear q3; clear HB; have q1 := n0_; have q2 := n1_; have q3 := n2_; have q5 := n3_; have HB := n4_; clear n0_ n1_ n2_ n3_ n4_; (try clear hb); (try clear hb2); (try clear hk); (try clear hi); (try clear ho0); obtain ⟨qa, qb, eo23⟩ := Kd.R_slice q5.out; subst eo23; obtain ⟨qf, qg, eo24⟩ := Kd.R_slice q2.out; subst eo24) | ((with_reducible refine gate_callee (f := 57) rfl ?_); refine goesL_ (some 33) rfl rfl Try.func57 (by kernel_rfl) rfl #[.slice qa t431.length qb, .slice qf t425.length qg] rfl ma ?_; (with_reducible refine (laws_eqFaultS.calls k _ _ t431 _ _ t425 true _ ?side1 ?side2 ?side3 ?side4 A10.out).mono ?_); (case side1 => exact ca (Kd.R_reads' q5.out).2.2); (case side2 => exact (Kd.R_reads' q5.out).2.1); (case side3 => exact ca (Kd.R_reads' q2.out).2.2); (case side4 => exact (Kd.R_reads' q2.out).2.1); rintro e w25 ⟨rfl, hb⟩; refine ⟨_, rfl, ?_⟩; have n0_ := q0_14 (Kd.R_below (ra q1.out) hb); have n1_ := q0_14 (Kd.R_below (ra q2.out) hb); have n2_ := q0_14 (Kd.R_below (ra q3.out) hb); have n3_ := q0_14 (Kd.R_below (ra q5.out) hb); have n4_ := q0_14 (below_step (q9_14) hb); clear q1; clear q2; clear q3; clear q5; clear HB; have q1 := n0_; have q2 := n1_; have q3 := n2_; have q5 := n3_; have HB := n4_; clear n0_ n1_ n2_ n3_ n4_; (try clear hb); (try clear hb2); (try clear hk); (try clear hi)) | ((with_reducible refine gate_callee (f := 16) rfl ?_); refine goesL_ (some 37) rfl rfl Try.func16 (by kernel_rfl) rfl #[.slice A0 l0.length c0] rfl ma ?_; (with_reducible refine (laws_toEventS.calls k _ _ l0 t435 _ ?side1 ?side2 A12.out).mono ?_); (case side1 => exact ca (Kd.C_below HR0.out HB.out)); (case side2 => exact HC0.out); rintro e w26 ⟨v436, rfl, ho0, hb⟩; refine ⟨_, rfl, ?_⟩; have n0_ := q0_14 (Kd.R_elder' (ra q1.out) (Kd.R_base ho0) hb); have n1_ := q0_14 (Kd.R_below (ra q2.out) hb); have n2_ := q0_14 (Kd.R_elder' (ra q3.out) (Kd.R_base ho0) hb); have n3_ := q0_14 (Kd.R_below (ra q5.out) hb); have n4_ := q0_14 (Kd.R_lower (Kd.R_new' (Kd.R_new' ho0 (Kd.R_lt (ra q1.out))) (Kd.R_lt (ra q3.out))) (below_size (q9_14))); have n5_ := q0_14 (below_step (q9_14) hb); clear q1; clear q2; clear q3; clear q5; clear HB; have q1 := n0_; have q2 := n1_; have q3 := n2_; have q5 := n3_; have q6 := n4_; have HB := n5_; clear n0_ n1_ n2_ n3_ n4_ n5_; (try clear hb); (try clear hb2); (try clear hk); (try clear hi); (try clear ho0); obtain ⟨qj, qk, eo27⟩ := Kd.R_slice q6.out; subst eo27) | ((with_reducible refine gate_callee (f := 19) rfl ?_); refine goesL_ (some 38) rfl rfl Try.func19 (by kernel_rfl) rfl #[.slice qd t428.length qe, .slice qj t435.length qk] rfl ma ?_; (with_reducible refine (laws_eqEventS.calls k _ _ t428 _ _ t435 true _ ?side1 ?side2 ?side3 ?side4 A13.out).mono ?_); (case side1 => exact ca (Kd.R_reads' q3.out).2.2); (case side2 => exact (Kd.R_reads' q3.out).2.1); (case side3 => exact ca (Kd.R_reads' q6.out).2.2); (case side4 => exact (Kd.R_reads' q6.out).2.1); rintro e w28 ⟨rfl, hb⟩; refine ⟨_, rfl, ?_⟩; have n0_ := q0_14 (Kd.R_below (ra q1.out) hb); have n1_ := q0_14 (Kd.R_below (ra q2.out) hb); have n2_ := q0_14 (Kd.R_below (ra q3.out) hb); have n3_ := q0_14 (Kd.R_below (ra q5.out) hb); have n4_ := q0_14 (Kd.R_below (ra q6.out) hb); have n5_ := q0_14 (below_step (q9_14) hb); clear q1; clear q2; clear q3; clear q5; clear q6; clear HB; have q1 := n0_; have q2 := n1_; have q3 := n2_; have q5 := n3_; have q6 := n4_; have HB := n5_; clear n0_ n1_ n2_ n3_ n4_ n5_; (try clear hb); (try clear hb2); (try clear hk); (try clear hi)) | ((with_reducible refine gate_callee (f := 20) rfl ?_); refine goesL_ (some 42) rfl rfl Try.func20 (by kernel_rfl) rfl #[.slice qd t428.length qe, .int .i64 1] rfl ma ?_; (with_reducible refine (laws_markEventS.calls k (fun k_ => some k_ = (.slice qd t428.length qe : Value).ownBlock) (.slice qd t428.length qe) t428 1 t439 t440 w _ ?side1 ?side2 A15.out).mono ?_); (case side1 => exact (q9_14)); (case side2 => exact Kd.R_tight rfl q3.out); rintro e w29 ⟨rfl, hy0, hb, hkp⟩; refine ⟨_, rfl, ?_⟩; have n0_ := q0_14 (Kd.R_mono (ok' := fun k_ => some k_ ≠ (.slice qd t428.length qe : Value).ownBlock ∧ some k_ ≠ (.slice qj t435.length qk : Value).ownBlock) (Kd.R_keptB (q1.out) hkp (fun k_ hk_ hs_ => absurd hs_ (pq hk_))) pk); have n1_ := q0_14 (Kd.R_mono (ok' := fun k_ => some k_ ≠ (.slice qa t431.length qb : Value).ownBlock) (Kd.R_keptB ((Kd.R_apart' q2.out (Kd.R_typed q3.out) (by decide))) hkp (fun k_ hk_ hs_ => absurd hs_ (pq hk_))) (fun k_ hk_ => hk_.1.1.2)); have n2_ := q0_14 (Kd.R_reok rfl hy0 (fun k_ e_ => q3.out.1 k_ e_)); have n3_ := q0_14 (Kd.R_mono (ok' := fun k_ => some k_ ≠ (.slice qf t425.length qg : Value).ownBlock) (Kd.R_keptB ((Kd.R_apart' q5.out (Kd.R_typed q3.out) (by decide))) hkp (fun k_ hk_ hs_ => absurd hs_ (pq hk_))) (fun k_ hk_ => hk_.1.1.2)); have n4_ := q0_14 (Kd.R_mono (ok' := fun k_ => some k_ ≠ (.slice qh t422.length qi : Value).ownBlock ∧ some k_ ≠ (.slice qd t428.length qe : Value).ownBlock) (Kd.R_keptB (q6.out) hkp (fun k_ hk_ hs_ => absurd hs_ (pq hk_))) pk); have n5_ := q0_14 (hb); clear q1; clear q2; clear q3; clear q5; clear q6; clear HB; have q1 := n0_; have q2 := n1_; have q3 := n2_; have q5 := n3_; have q6 := n4_; have HB := n5_; clear n0_ n1_ n2_ n3_ n4_ n5_; (try clear hb); (try clear hkp); (try clear hy0))))
       ((try simp only [Act.put, List.setIfInBounds_toArray, List.set_cons_zero, List.set_cons_succ])); (go_cut [50] (fun v50 wc => ∃ (kq : Nat) (x50_15 : Bool), v50 = .bool x50_15 ∧ Aside0 (laws_FnExactFaultsIn.j0 kq l0 a1 a2 t425 t431 x50_15 = some true) ∧ Aside0 (kq ≤ k) ∧ Aside0 (Kd.R k120 120 wc w.heap.size (fun k_ => some k_ ≠ ((.slice qa t431.length qb) : Value).ownBlock) (.slice qf t425.length qg) t425) ∧ Aside0 (Kd.R k120 120 wc w.heap.size (fun k_ => some k_ ≠ ((.slice qf t425.length qg) : Value).ownBlock) (.slice qa t431.length qb) t431) ∧ Aside0 (Below w.heap.size w wc)))
       case first =>
        have H := HC16.out; clear HC16
        by_cases c30 : t439 < 0
        · rw [if_pos c30] at H
          (have c30b0 : decide (t439 < 0) = true := decide_eq_true c30); clear c30; ((first | rw [c30b0] | (simp only [i64_w, i32_w]; rw [c30b0]) | skip)); (exact absurd H (by cases k <;> simp [laws_FnExactFaultsIn.j0]))
        · rw [if_neg c30] at H
          (have c30b0 : decide (t439 < 0) = false := decide_eq_false c30); clear c30; ((first | rw [c30b0] | (simp only [i64_w, i32_w]; rw [c30b0]) | skip)); replace H := Option.bind_eq_some_iff.mp H; obtain ⟨t441, A310, H⟩ := H; (try dsimp only at H); have A31 := q0_14 A310; clear A310; (have H' := q0_14 H); clear H; (go_wp2_with (first | (go_at_call 57; (with_reducible refine (laws_eqFaultS.calls k _ _ t431 _ _ t425 t441 _ ?side1 ?side2 ?side3 ?side4 A31.out).mono ?_); (case side1 => exact ca (Kd.R_reads' q5.out).2.2); (case side2 => exact (Kd.R_reads' q5.out).2.1); (case side3 => exact ca (Kd.R_reads' q2.out).2.2); (case side4 => exact (Kd.R_reads' q2.out).2.1); rintro e w32 ⟨rfl, hb⟩; have n0_ := q0_14 (Kd.R_below (ra q1.out) hb); have n1_ := q0_14 (Kd.R_below (ra q2.out) hb); have n2_ := q0_14 (Kd.R_below (ra q3.out) hb); have n3_ := q0_14 (Kd.R_below (ra q5.out) hb); have n4_ := q0_14 (Kd.R_below (ra q6.out) hb); have n5_ := q0_14 (below_step (q9_14) hb); clear q1; clear q2; clear q3; clear q5; clear q6; clear HB; have q1 := n0_; have q2 := n1_; have q3 := n2_; have q5 := n3_; have q6 := n4_; have HB := n5_; clear n0_ n1_ n2_ n3_ n4_ n5_; (try clear hb); (try clear hb2); (try clear hk); (try clear hi)))); (go_meet)
          case rel => exact ⟨_, (!t441), (by first | rfl | (simp; done) | (simp [*]; done)), H', ⟨by first | omega | exact Nat.le_refl _⟩, ⟨by refine ra ?_; exact q2.out⟩, ⟨by refine ra ?_; exact q5.out⟩, ⟨by exact (q9_14)⟩⟩
       case rest =>
        clear HC16; (try clear c1); (try clear c2); (try clear p2); (try clear c3); (try clear c5); (try clear c5b0); (try clear c11); (try clear c12); (try clear c14); (try clear c16); (try clear c19); (try clear c20); (try clear c30); (try clear c30b0); obtain ⟨kq, x50_15, rfl, HA, HJ15, q7, q4, HB⟩ := hcut
        cases kq with
        | zero => exact absurd HA.out (by simp [laws_FnExactFaultsIn.j0])
        | succ kj15 =>
         have H := HA.out; clear HA; (simp only [laws_FnExactFaultsIn.j0] at H)
         by_cases c33 : x50_15 = true
         · subst c33
           have H1 := H; rw [if_pos rfl] at H1; clear H; have H := H1; clear H1; exact absurd H (by simp)
         · replace c33 := Bool.eq_false_iff.mpr c33
           subst c33; (have H1 : ((laws_markFaultS.f kj15 t431 1).bind fun bt442 => ((laws_heldFaultS.f kj15 bt442.2 1).bind fun t444 => (if t444 < 0 then (some false) else (if t444 = bt442.1 then ((laws_toEventS.f kj15 l0).bind fun t445 => ((impl_FaultsIn.f kj15 t445 a1 a2).bind fun t448 => ((laws_eqFaultS.f kj15 t448 t425).bind fun t451 => (if t451 = true then ((laws_heldFaultS.f kj15 bt442.2 1).bind fun t452 => (if t452 < 0 then (some false) else (if t452 = bt442.1 then (some true) else (some false)))) else (some false))))) else (some false))))) = some true := by rw [if_neg (show ¬ (false = true) by decide)] at H; exact H); clear H; have H := H1; clear H1; replace H := Option.bind_eq_some_iff.mp H; obtain ⟨⟨t442, t443⟩, A340, H⟩ := H; (try dsimp only at H); have A34 := q0_14 A340; clear A340; replace H := Option.bind_eq_some_iff.mp H; obtain ⟨t444, A350, H⟩ := H; (try dsimp only at H); have A35 := q0_14 A350; clear A350
           by_cases c36 : t444 < 0
           · rw [if_pos c36] at H
             (have c36b0 : decide (t444 < 0) = true := decide_eq_true c36); clear c36; exact absurd H (by simp)
           · rw [if_neg c36] at H
             (have c36b0 : decide (t444 < 0) = false := decide_eq_false c36); clear c36
             by_cases c38 : t444 = t442
             · rw [if_pos c38] at H
               (have c38b0 : (t444 == t442) = true := beq_iff_eq.mpr c38); (have c38b1 : (t444 != t442) = false := bne_eq_false_iff_eq.mpr c38); clear c38; replace H := Option.bind_eq_some_iff.mp H; obtain ⟨t445, A390, H⟩ := H; (try dsimp only at H); have A39 := q0_14 A390; clear A390; replace H := Option.bind_eq_some_iff.mp H; obtain ⟨t448, A400, H⟩ := H; (try dsimp only at H); have A40 := q0_14 A400; clear A400; replace H := Option.bind_eq_some_iff.mp H; obtain ⟨t451, A410, H⟩ := H; (try dsimp only at H); have A41 := q0_14 A410; clear A410
               by_cases c42 : t451 = true
               · subst c42
                 have H1 := H; rw [if_pos rfl] at H1; clear H; have H := H1; clear H1; replace H := Option.bind_eq_some_iff.mp H; obtain ⟨t452, A430, H⟩ := H; (try dsimp only at H); have A43 := q0_14 A430; clear A430
                 by_cases c44 : t452 < 0
                 · rw [if_pos c44] at H
                   (have c44b0 : decide (t452 < 0) = true := decide_eq_true c44); clear c44; exact absurd H (by simp)
                 · rw [if_neg c44] at H
                   (have c44b0 : decide (t452 < 0) = false := decide_eq_false c44); clear c44
                   by_cases c51 : t452 = t442
                   · rw [if_pos c51] at H
                     (have c51b0 : (t452 == t442) = true := beq_iff_eq.mpr c51); (have c51b1 : (t452 != t442) = false := bne_eq_false_iff_eq.mpr c51); clear c51 H
                     (go_wp2_with (first | ((with_reducible refine gate_callee (f := 58) rfl ?_); refine goesL_ (some 53) rfl rfl Try.func58 (by kernel_rfl) rfl #[.slice qa t431.length qb, .int .i64 1] rfl ma ?_; (with_reducible refine (laws_markFaultS.calls kj15 (fun k_ => some k_ = (.slice qa t431.length qb : Value).ownBlock) (.slice qa t431.length qb) t431 1 t442 t443 w _ ?side1 ?side2 A34.out).mono ?_); (case side1 => exact (q9_14)); (case side2 => exact Kd.R_tight rfl q4.out); rintro e w52 ⟨rfl, hy0, hb, hkp⟩; refine ⟨_, rfl, ?_⟩; have n0_ := q0_14 (Kd.R_mono (ok' := fun k_ => some k_ ≠ (.slice qa t431.length qb : Value).ownBlock) (Kd.R_keptB (q7.out) hkp (fun k_ hk_ hs_ => absurd hs_ (pq hk_))) (fun k_ hk_ => hk_.1)); have n1_ := q0_14 (Kd.R_reok rfl hy0 (fun k_ e_ => q4.out.1 k_ e_)); have n2_ := q0_14 (hb); clear q7; clear q4; clear HB; have q7 := n0_; have q4 := n1_; have HB := n2_; clear n0_ n1_ n2_; (try clear hb); (try clear hkp); (try clear hy0)) | ((with_reducible refine gate_callee (f := 59) rfl ?_); refine goesL_ (some 56) rfl rfl Try.func59 (by kernel_rfl) rfl #[.slice qa t443.length qb, .int .i64 1] rfl (by (try simp only [List.map_toArray, List.map_cons, List.map_nil]); first | done | (rw [show t443.length = t431.length from (Kd.R_reads' q4.out).1.symm] <;> rfl) | rfl | (simp only [List.length_drop, List.length_take]; rfl)) ?_; (with_reducible refine (laws_heldFaultS.calls kj15 _ _ t443 1 t444 _ ?side1 ?side2 A35.out).mono ?_); (case side1 => exact ca (Kd.R_reads' q4.out).2.2); (case side2 => rw [show t443.length = t431.length from (Kd.R_reads' q4.out).1.symm]; exact (Kd.R_reads' q4.out).2.1); rintro e w' ⟨rfl, ⟨nd, rfl⟩⟩; refine ⟨_, rfl, ?_⟩) | ((with_reducible refine gate_callee (f := 16) rfl ?_); refine goesL_ (some 63) rfl rfl Try.func16 (by kernel_rfl) rfl #[.slice A0 l0.length c0] rfl ma ?_; (with_reducible refine (laws_toEventS.calls kj15 _ _ l0 t445 _ ?side1 ?side2 A39.out).mono ?_); (case side1 => exact ca (Kd.C_below HR0.out (q9_14))); (case side2 => exact HC0.out); rintro e w53 ⟨v446, rfl, ho0, hb⟩; refine ⟨_, rfl, ?_⟩; have n0_ := q0_14 (Kd.R_below (ra q7.out) hb); have n1_ := q0_14 (Kd.R_below (ra q4.out) hb); have n2_ := q0_14 (Kd.R_lower ho0 (below_size (q9_14))); have n3_ := q0_14 (below_step (q9_14) hb); clear q7; clear q4; clear HB; have q7 := n0_; have q4 := n1_; have q8 := n2_; have HB := n3_; clear n0_ n1_ n2_ n3_; (try clear hb); (try clear hb2); (try clear hk); (try clear hi); (try clear ho0); obtain ⟨ql, qm, eo54⟩ := Kd.R_slice q8.out; subst eo54) | ((with_reducible refine gate_callee (f := 56) rfl ?_); refine goesL_ (some 66) rfl rfl Try.func56 (by kernel_rfl) rfl #[.slice ql t445.length qm, .int .i64 a1, .int .i64 a2] rfl ma ?_; (with_reducible refine (impl_FaultsIn.calls kj15 _ _ t445 a1 a2 t448 _ ?side1 ?side2 A40.out).mono ?_); (case side1 => exact ca (Kd.R_reads' q8.out).2.2); (case side2 => exact (Kd.R_reads' q8.out).2.1); rintro e w55 ⟨v449, rfl, ho0, hb⟩; refine ⟨_, rfl, ?_⟩; have n0_ := q0_14 (Kd.R_elder' (ra q7.out) (Kd.R_base ho0) hb); have n1_ := q0_14 (Kd.R_elder' (ra q4.out) (Kd.R_base ho0) hb); have n2_ := q0_14 (Kd.R_below (ra q8.out) hb); have n3_ := q0_14 (Kd.R_lower (Kd.R_new' (Kd.R_new' ho0 (Kd.R_lt (ra q7.out))) (Kd.R_lt (ra q4.out))) (below_size (q9_14))); have n4_ := q0_14 (below_step (q9_14) hb); clear q7; clear q4; clear q8; clear HB; have q7 := n0_; have q4 := n1_; have q8 := n2_; have qc := n3_; have HB := n4_; clear n0_ n1_ n2_ n3_ n4_; (try clear hb); (try clear hb2); (try clear hk); (try clear hi); (try clear ho0); obtain ⟨qn, qo, eo56⟩ := Kd.R_slice qc.out; subst eo56) | ((with_reducible refine gate_callee (f := 57) rfl ?_); refine goesL_ (some 69) rfl rfl Try.func57 (by kernel_rfl) rfl #[.slice qn t448.length qo, .slice qf t425.length qg] rfl ma ?_; (with_reducible refine (laws_eqFaultS.calls kj15 _ _ t448 _ _ t425 true _ ?side1 ?side2 ?side3 ?side4 A41.out).mono ?_); (case side1 => exact ca (Kd.R_reads' qc.out).2.2); (case side2 => exact (Kd.R_reads' qc.out).2.1); (case side3 => exact ca (Kd.R_reads' q7.out).2.2); (case side4 => exact (Kd.R_reads' q7.out).2.1); rintro e w57 ⟨rfl, hb⟩; refine ⟨_, rfl, ?_⟩; have n0_ := q0_14 (Kd.R_below (ra q7.out) hb); have n1_ := q0_14 (Kd.R_below (ra q4.out) hb); have n2_ := q0_14 (Kd.R_below (ra q8.out) hb); have n3_ := q0_14 (Kd.R_below (ra qc.out) hb); have n4_ := q0_14 (below_step (q9_14) hb); clear q7; clear q4; clear q8; clear qc; clear HB; have q7 := n0_; have q4 := n1_; have q8 := n2_; have qc := n3_; have HB := n4_; clear n0_ n1_ n2_ n3_ n4_; (try clear hb); (try clear hb2); (try clear hk); (try clear hi)) | ((with_reducible refine gate_callee (f := 59) rfl ?_); refine goesL_ (some 73) rfl rfl Try.func59 (by kernel_rfl) rfl #[.slice qa t443.length qb, .int .i64 1] rfl (by (try simp only [List.map_toArray, List.map_cons, List.map_nil]); first | done | (rw [show t443.length = t431.length from (Kd.R_reads' q4.out).1.symm] <;> rfl) | rfl | (simp only [List.length_drop, List.length_take]; rfl)) ?_; (with_reducible refine (laws_heldFaultS.calls kj15 _ _ t443 1 t452 _ ?side1 ?side2 A43.out).mono ?_); (case side1 => exact ca (Kd.R_reads' q4.out).2.2); (case side2 => rw [show t443.length = t431.length from (Kd.R_reads' q4.out).1.symm]; exact (Kd.R_reads' q4.out).2.1); rintro e w' ⟨rfl, ⟨nd, rfl⟩⟩; refine ⟨_, rfl, ?_⟩)))
                     go_ret; (exact ⟨by first | rfl | (simp [errW_none, errW_some] <;> rfl) | (simp [*, errW_none, errW_some] <;> rfl), by exact (q9_14)⟩)
                   · rw [if_neg c51] at H
                     (have c51b0 : (t452 == t442) = false := beq_eq_false_iff_ne.mpr c51); (have c51b1 : (t452 != t442) = true := bne_iff_ne.mpr c51); exact absurd H (by simp)
               · replace c42 := Bool.eq_false_iff.mpr c42
                 subst c42; (have H1 : (some false) = some true := by rw [if_neg (show ¬ (false = true) by decide)] at H; exact H); clear H; have H := H1; clear H1; exact absurd H (by simp)
             · rw [if_neg c38] at H
               (have c38b0 : (t444 == t442) = false := beq_eq_false_iff_ne.mpr c38); (have c38b1 : (t444 != t442) = true := bne_iff_ne.mpr c38); exact absurd H (by simp)
     · replace c14 := Bool.eq_false_iff.mpr c14
       subst c14; (have H1 : (some false) = some true := by rw [if_neg (show ¬ (false = true) by decide)] at H; exact H); clear H; have H := H1; clear H1; exact absurd H (by simp)
   · replace c11 := Bool.eq_false_iff.mpr c11
     subst c11; (have H1 : (some false) = some true := by rw [if_neg (show ¬ (false = true) by decide)] at H; exact H); clear H; have H := H1; clear H1; exact absurd H (by simp)
end Go.Proofs.Ytlkcbmcbmanmiaa.PFnExactFaultsIn
