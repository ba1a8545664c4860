-- Written for this claim by a program of this repository (wip/tools/print2.py), out of the translation; Lean checks it.
import Derived.Test.YtlkcbmcbmanmiaaPFnExactErrByx0
import Derived.Test.YtlkcbmcbmanmiaaPFnExactErrByx1
import Derived.Test.YtlkcbmcbmanmiaaPFnExactErrByx3
import Derived.Test.YtlkcbmcbmanmiaaPFnExactErrByx4
import Derived.Test.YtlkcbmcbmanmiaaPFnExactErrByx6
namespace Go.Proofs.Ytlkcbmcbmanmiaa.PFnExactErrBy
open Go.RowKit Go.Proofs.YtlkcbmcbmanmiaaW.PrintWords Go.Proofs.YtlkcbmcbmanmiaaW.PrintLast Go.Proofs.YtlkcbmcbmanmiaaW.PrintMore
attribute [local go_sem] max2_int min2_int max_two min_two max_three min_three max_four min_four   -- for this text's walks alone
set_option linter.unusedVariables false
set_option linter.unusedSimpArgs false
-- SHORT
theorem qb_7 {p : Prop} (f : p := by repeat (first | (with_reducible first | exact HB.out | apply below_alloc | apply pw_below_drewN | apply below_drew1) | exact HB.out)) : p := f
theorem q0_7 {p : Prop} (h : p) : Aside0 p := ⟨h⟩
/-! ### laws_FnExactErrBy: function 10 -/
mutual
def laws_FnExactErrBy.j0 : Nat → List Int → List (S110) → List Int → Bool → List Int → List (S108) → List Int → Bool → Bool → Option (Bool)
 | 0, _, _, _, _, _, _, _, _, _ => none
 | k + 1, x0, x1, x6, x7, x8, x9, x10, x11, x51 => if x51 = true then (some false) else ((laws_toIntS.f k x0).bind fun t205 => ((laws_eqIntS.f k x8 t205).bind fun t208 => (if t208 = true then ((laws_toSlipS.f k x1).bind fun t209 => ((laws_eqSlipS.f k x9 t209).bind fun t212 => (if t212 = true then ((laws_markIntS.f k x8 1).bind fun bt213 => ((laws_markSlipS.f k x9 bt213.1).bind fun bt215 => (if bt215.1 < 0 then (laws_FnExactErrBy.j1 k x0 x1 x6 x7 x10 true) else ((laws_eqIntS.f k x10 x6).bind fun t217 => (if t217 = true then (laws_FnExactErrBy.j1 k x0 x1 x6 x7 x10 (x11 != x7)) else (laws_FnExactErrBy.j1 k x0 x1 x6 x7 x10 true)))))) else (some false)))) else (some false))))
def laws_FnExactErrBy.j1 : Nat → List Int → List (S110) → List Int → Bool → List Int → Bool → Option (Bool)
 | 0, _, _, _, _, _, _ => none
 | k + 1, x0, x1, x6, x7, x10, x80 => if x80 = true then (some false) else ((laws_markIntS.f k x10 1).bind fun bt218 => ((laws_heldIntS.f k bt218.2 1).bind fun t220 => (if t220 < 0 then (some false) else (if t220 = bt218.1 then ((laws_toIntS.f k x0).bind fun t221 => ((laws_toSlipS.f k x1).bind fun t224 => ((impl_ErrBy.f k t221 t224).bind fun bt227 => ((laws_eqIntS.f k bt227.1 x6).bind fun t231 => (if t231 = true then (laws_FnExactErrBy.j2 k bt218.2 bt218.1 (bt227.2 != x7)) else (laws_FnExactErrBy.j2 k bt218.2 bt218.1 true)))))) else (some false)))))
def laws_FnExactErrBy.j2 : Nat → List Int → Int → Bool → Option (Bool)
 | 0, _, _, _ => none
 | k + 1, x10, x13, x108 => if x108 = true then (some false) else ((laws_heldIntS.f k x10 1).bind fun t232 => (if t232 < 0 then (some false) else (if t232 = x13 then (some true) else (some false))))
end
def laws_FnExactErrBy.f (k : Nat) (l0 : List Int) (l1 : List (S110)) : Option (Bool) := if (l0.length : Int) > 1048576 then (some true) else ((laws_szSlipS.f l1 1048576).bind fun t183 => (if t183 < 0 then (some true) else ((laws_toIntS.f k l0).bind fun t184 => ((laws_toSlipS.f k l1).bind fun t187 => ((spec_ErrBy.f k t184 t187).bind fun bt190 => ((laws_toIntS.f k l0).bind fun t194 => ((laws_toSlipS.f k l1).bind fun t197 => ((impl_ErrBy.f k t194 t197).bind fun bt200 => ((laws_eqIntS.f k bt200.1 bt190.1).bind fun t204 => (if t204 = true then (laws_FnExactErrBy.j0 k l0 l1 bt190.1 bt190.2 t194 t197 bt200.1 bt200.2 (bt200.2 != bt190.2)) else (laws_FnExactErrBy.j0 k l0 l1 bt190.1 bt190.2 t194 t197 bt200.1 bt200.2 true)))))))))))
theorem laws_FnExactErrBy.mono_l : ∀ k, (∀ y0 y1 y2 y3 y4 y5 y6 y7 y8, LeO (laws_FnExactErrBy.j0 k y0 y1 y2 y3 y4 y5 y6 y7 y8) (laws_FnExactErrBy.j0 (k + 1) y0 y1 y2 y3 y4 y5 y6 y7 y8)) ∧ (∀ y0 y1 y2 y3 y4 y5, LeO (laws_FnExactErrBy.j1 k y0 y1 y2 y3 y4 y5) (laws_FnExactErrBy.j1 (k + 1) y0 y1 y2 y3 y4 y5)) ∧ (∀ y0 y1 y2, LeO (laws_FnExactErrBy.j2 k y0 y1 y2) (laws_FnExactErrBy.j2 (k + 1) y0 y1 y2))
 | 0 => ⟨fun _ _ _ _ _ _ _ _ _ r h => by simp [laws_FnExactErrBy.j0] at h, fun _ _ _ _ _ _ r h => by simp [laws_FnExactErrBy.j1] at h, fun _ _ _ r h => by simp [laws_FnExactErrBy.j2] at h⟩
 | k + 1 => by
  obtain ⟨ih0, ih1, ih2⟩ := laws_FnExactErrBy.mono_l k; refine ⟨?_, ?_, ?_⟩
  · intro y0 y1 y2 y3 y4 y5 y6 y7 y8
    unfold laws_FnExactErrBy.j0
    repeat' first
    | (with_reducible exact ih0 _ _ _ _ _ _ _ _ _)
    | (with_reducible exact ih1 _ _ _ _ _ _)
    | (with_reducible exact ih2 _ _ _)
    | (with_reducible exact impl_ErrBy.mono _ _ _)
    | (with_reducible exact laws_eqIntS.mono _ _ _)
    | (with_reducible exact laws_eqSlipS.mono _ _ _)
    | (with_reducible exact laws_heldIntS.mono _ _ _)
    | (with_reducible exact laws_markIntS.mono _ _ _)
    | (with_reducible exact laws_markSlipS.mono _ _ _)
    | (with_reducible exact laws_toIntS.mono _ _)
    | (with_reducible exact laws_toSlipS.mono _ _)
    | (with_reducible exact spec_ErrBy.mono _ _ _)
    | (with_reducible exact LeO.refl _)
    | (with_reducible exact LeO.none _)
    | (with_reducible refine LeO.ite ?_ ?_)
    | (with_reducible refine LeO.bind ?_ (fun _ => ?_))
    | exact ih0 _ _ _ _ _ _ _ _ _
    | exact ih1 _ _ _ _ _ _
    | exact ih2 _ _ _
    | exact impl_ErrBy.mono _ _ _
    | exact laws_eqIntS.mono _ _ _
    | exact laws_eqSlipS.mono _ _ _
    | exact laws_heldIntS.mono _ _ _
    | exact laws_markIntS.mono _ _ _
    | exact laws_markSlipS.mono _ _ _
    | exact laws_toIntS.mono _ _
    | exact laws_toSlipS.mono _ _
    | exact spec_ErrBy.mono _ _ _
    | exact LeO.none _
    | refine LeO.ite ?_ ?_
    | refine LeO.bind ?_ (fun _ => ?_)
  · intro y0 y1 y2 y3 y4 y5
    unfold laws_FnExactErrBy.j1
    repeat' first
    | (with_reducible exact ih0 _ _ _ _ _ _ _ _ _)
    | (with_reducible exact ih1 _ _ _ _ _ _)
    | (with_reducible exact ih2 _ _ _)
    | (with_reducible exact impl_ErrBy.mono _ _ _)
    | (with_reducible exact laws_eqIntS.mono _ _ _)
    | (with_reducible exact laws_eqSlipS.mono _ _ _)
    | (with_reducible exact laws_heldIntS.mono _ _ _)
    | (with_reducible exact laws_markIntS.mono _ _ _)
    | (with_reducible exact laws_markSlipS.mono _ _ _)
    | (with_reducible exact laws_toIntS.mono _ _)
    | (with_reducible exact laws_toSlipS.mono _ _)
    | (with_reducible exact spec_ErrBy.mono _ _ _)
    | (with_reducible exact LeO.refl _)
    | (with_reducible exact LeO.none _)
    | (with_reducible refine LeO.ite ?_ ?_)
    | (with_reducible refine LeO.bind ?_ (fun _ => ?_))
    | exact ih0 _ _ _ _ _ _ _ _ _
    | exact ih1 _ _ _ _ _ _
    | exact ih2 _ _ _
    | exact impl_ErrBy.mono _ _ _
    | exact laws_eqIntS.mono _ _ _
    | exact laws_eqSlipS.mono _ _ _
    | exact laws_heldIntS.mono _ _ _
    | exact laws_markIntS.mono _ _ _
    | exact laws_markSlipS.mono _ _ _
    | exact laws_toIntS.mono _ _
    | exact laws_toSlipS.mono _ _
    | exact spec_ErrBy.mono _ _ _
    | exact LeO.none _
    | refine LeO.ite ?_ ?_
    | refine LeO.bind ?_ (fun _ => ?_)
  · intro y0 y1 y2
    unfold laws_FnExactErrBy.j2
    repeat' first
    | (with_reducible exact ih0 _ _ _ _ _ _ _ _ _)
    | (with_reducible exact ih1 _ _ _ _ _ _)
    | (with_reducible exact ih2 _ _ _)
    | (with_reducible exact impl_ErrBy.mono _ _ _)
    | (with_reducible exact laws_eqIntS.mono _ _ _)
    | (with_reducible exact laws_eqSlipS.mono _ _ _)
    | (with_reducible exact laws_heldIntS.mono _ _ _)
    | (with_reducible exact laws_markIntS.mono _ _ _)
    | (with_reducible exact laws_markSlipS.mono _ _ _)
    | (with_reducible exact laws_toIntS.mono _ _)
    | (with_reducible exact laws_toSlipS.mono _ _)
    | (with_reducible exact spec_ErrBy.mono _ _ _)
    | (with_reducible exact LeO.refl _)
    | (with_reducible exact LeO.none _)
    | (with_reducible refine LeO.ite ?_ ?_)
    | (with_reducible refine LeO.bind ?_ (fun _ => ?_))
    | exact ih0 _ _ _ _ _ _ _ _ _
    | exact ih1 _ _ _ _ _ _
    | exact ih2 _ _ _
    | exact impl_ErrBy.mono _ _ _
    | exact laws_eqIntS.mono _ _ _
    | exact laws_eqSlipS.mono _ _ _
    | exact laws_heldIntS.mono _ _ _
    | exact laws_markIntS.mono _ _ _
    | exact laws_markSlipS.mono _ _ _
    | exact laws_toIntS.mono _ _
    | exact laws_toSlipS.mono _ _
    | exact spec_ErrBy.mono _ _ _
    | exact LeO.none _
    | refine LeO.ite ?_ ?_
    | refine LeO.bind ?_ (fun _ => ?_)
theorem laws_FnExactErrBy.mono : ∀ a0 a1 k, LeO (laws_FnExactErrBy.f k a0 a1) (laws_FnExactErrBy.f (k + 1) a0 a1) := by
 intro a0 a1 k; obtain ⟨ih0, ih1, ih2⟩ := laws_FnExactErrBy.mono_l k; unfold laws_FnExactErrBy.f
 repeat' first
  | (with_reducible exact ih0 _ _ _ _ _ _ _ _ _)
  | (with_reducible exact ih1 _ _ _ _ _ _)
  | (with_reducible exact ih2 _ _ _)
  | (with_reducible exact impl_ErrBy.mono _ _ _)
  | (with_reducible exact laws_eqIntS.mono _ _ _)
  | (with_reducible exact laws_eqSlipS.mono _ _ _)
  | (with_reducible exact laws_heldIntS.mono _ _ _)
  | (with_reducible exact laws_markIntS.mono _ _ _)
  | (with_reducible exact laws_markSlipS.mono _ _ _)
  | (with_reducible exact laws_toIntS.mono _ _)
  | (with_reducible exact laws_toSlipS.mono _ _)
  | (with_reducible exact spec_ErrBy.mono _ _ _)
  | (with_reducible exact LeO.refl _)
  | (with_reducible exact LeO.none _)
  | (with_reducible refine LeO.ite ?_ ?_)
  | (with_reducible refine LeO.bind ?_ (fun _ => ?_))
  | exact ih0 _ _ _ _ _ _ _ _ _
  | exact ih1 _ _ _ _ _ _
  | exact ih2 _ _ _
  | exact impl_ErrBy.mono _ _ _
  | exact laws_eqIntS.mono _ _ _
  | exact laws_eqSlipS.mono _ _ _
  | exact laws_heldIntS.mono _ _ _
  | exact laws_markIntS.mono _ _ _
  | exact laws_markSlipS.mono _ _ _
  | exact laws_toIntS.mono _ _
  | exact laws_toSlipS.mono _ _
  | exact spec_ErrBy.mono _ _ _
  | exact LeO.none _
  | refine LeO.ite ?_ ?_
  | refine LeO.bind ?_ (fun _ => ?_)
set_option maxHeartbeats 8000000 in
set_option maxRecDepth 100000 in
theorem laws_FnExactErrBy.calls_true (k : Nat) (A0 : Option Addr) (c0 : Nat) (l0 : List Int) (A1 : Option Addr) (c1 : Nat) (l1 : List (S110)) (w : World) (hr0 : Kd.C (Kd.int .i64) w A0 l0.length l0) (hc0 : l0.length ≤ c0) (hr1 : Kd.C k110 w A1 l1.length l1) (hc1 : l1.length ≤ c1) (h : laws_FnExactErrBy.f k l0 l1 = some true) :
 Calls Try.prog 10 #[.slice A0 l0.length c0, .slice A1 l1.length c1] w fun e w' => e = .returned (.bool true) ∧ Below w.heap.size w w' := by
 have HR0 := q0_7 hr0; have HC0 := q0_7 hc0; clear hr0 hc0; have HR1 := q0_7 hr1; have HC1 := q0_7 hc1; clear hr1 hc1; have HB := q0_7 (Below.refl w.heap.size w); (have H : (if (l0.length : Int) > 1048576 then (some true) else ((laws_szSlipS.f l1 1048576).bind fun t183 => (if t183 < 0 then (some true) else ((laws_toIntS.f k l0).bind fun t184 => ((laws_toSlipS.f k l1).bind fun t187 => ((spec_ErrBy.f k t184 t187).bind fun bt190 => ((laws_toIntS.f k l0).bind fun t194 => ((laws_toSlipS.f k l1).bind fun t197 => ((impl_ErrBy.f k t194 t197).bind fun bt200 => ((laws_eqIntS.f k bt200.1 bt190.1).bind fun t204 => (if t204 = true then (laws_FnExactErrBy.j0 k l0 l1 bt190.1 bt190.2 t194 t197 bt200.1 bt200.2 (bt200.2 != bt190.2)) else (laws_FnExactErrBy.j0 k l0 l1 bt190.1 bt190.2 t194 t197 bt200.1 bt200.2 true)))))))))))) = some true := h); clear h
 by_cases c3 : (l0.length : Int) > 1048576
 · rw [if_pos c3] at H
   (have c3b0 : decide (1048576 < (l0.length : Int)) = true := decide_eq_true c3); (have c3b1 : decide (1048576 < l0.length) = true := decide_eq_true (by omega)); clear c3 H; go_enter Try.func10, Try.ntmps10; (go_wp2); go_ret; (exact ⟨by first | rfl | (simp [errW_none, errW_some] <;> rfl) | (simp [*, errW_none, errW_some] <;> rfl), by exact (qb_7)⟩)
 · rw [if_neg c3] at H
   (have c3b0 : decide (1048576 < (l0.length : Int)) = false := decide_eq_false c3); (have c3b1 : decide (1048576 < l0.length) = false := decide_eq_false (by omega)); clear c3; replace H := Option.bind_eq_some_iff.mp H; obtain ⟨t183, A40, H⟩ := H; (try dsimp only at H); have A4 := q0_7 A40; clear A40
   by_cases c5 : t183 < 0
   · rw [if_pos c5] at H
     (have c5b0 : decide (t183 < 0) = true := decide_eq_true c5); clear c5 H; go_enter Try.func10, Try.ntmps10; (go_wp2_with (first | ((with_reducible refine gate_callee (f := 47) rfl ?_); refine goesL_ (some 22) rfl rfl Try.func47 (by kernel_rfl) rfl #[.slice A1 l1.length c1, .int .i64 1048576] rfl ma ?_; (with_reducible refine (laws_szSlipS.calls _ _ l1 1048576 t183 _ ?side1 ?side2 A4.out).mono ?_); (case side1 => repeat (first | exact HR1.out | (with_reducible refine Kd.C_alloc ?_ _) | (with_reducible refine Kd.C_drewN ?_ _) | (with_reducible refine Kd.C_drew ?_))); (case side2 => exact HC1.out); rintro e w' ⟨rfl, ⟨nd, rfl⟩⟩; refine ⟨_, rfl, ?_⟩))); go_ret; (exact ⟨by first | rfl | (simp [errW_none, errW_some] <;> rfl) | (simp [*, errW_none, errW_some] <;> rfl), by exact (qb_7)⟩)
   · rw [if_neg c5] at H
     (have c5b0 : decide (t183 < 0) = false := decide_eq_false c5); clear c5; replace H := Option.bind_eq_some_iff.mp H; obtain ⟨t184, A60, H⟩ := H; (try dsimp only at H); have A6 := q0_7 A60; clear A60; replace H := Option.bind_eq_some_iff.mp H; obtain ⟨t187, A70, H⟩ := H; (try dsimp only at H); have A7 := q0_7 A70; clear A70; replace H := Option.bind_eq_some_iff.mp H; obtain ⟨⟨t190, t191⟩, A80, H⟩ := H; (try dsimp only at H); have A8 := q0_7 A80; clear A80; replace H := Option.bind_eq_some_iff.mp H; obtain ⟨t194, A90, H⟩ := H; (try dsimp only at H); have A9 := q0_7 A90; clear A90; replace H := Option.bind_eq_some_iff.mp H; obtain ⟨t197, A100, H⟩ := H; (try dsimp only at H); have A10 := q0_7 A100; clear A100; replace H := Option.bind_eq_some_iff.mp H; obtain ⟨⟨t200, t201⟩, A110, H⟩ := H; (try dsimp only at H); have A11 := q0_7 A110; clear A110; have HC12 := q0_7 H; clear H; go_enter Try.func10, Try.ntmps10
     (go_upto_region 11 with (first | ((with_reducible refine gate_callee (f := 47) rfl ?_); refine goesL_ (some 22) rfl rfl Try.func47 (by kernel_rfl) rfl #[.slice A1 l1.length c1, .int .i64 1048576] rfl ma ?_; (with_reducible refine (laws_szSlipS.calls _ _ l1 1048576 t183 _ ?side1 ?side2 A4.out).mono ?_); (case side1 => repeat (first | exact HR1.out | (with_reducible refine Kd.C_alloc ?_ _) | (with_reducible refine Kd.C_drewN ?_ _) | (with_reducible refine Kd.C_drew ?_))); (case side2 => exact HC1.out); rintro e w' ⟨rfl, ⟨nd, rfl⟩⟩; refine ⟨_, rfl, ?_⟩) | ((with_reducible refine gate_callee (f := 35) rfl ?_); refine goesL_ (some 27) rfl rfl Try.func35 (by kernel_rfl) rfl #[.slice A0 l0.length c0] rfl ma ?_; (with_reducible refine (laws_toIntS.calls k _ _ l0 t184 _ ?side1 ?side2 A6.out).mono ?_); (case side1 => repeat (first | exact HR0.out | (with_reducible refine Kd.C_alloc ?_ _) | (with_reducible refine Kd.C_drewN ?_ _) | (with_reducible refine Kd.C_drew ?_))); (case side2 => exact HC0.out); rintro e w13 ⟨v185, rfl, ho0, hb⟩; refine ⟨_, rfl, ?_⟩; have n0_ := q0_7 (Kd.R_lower ho0 (below_size (qb_7))); have n1_ := q0_7 (below_step (qb_7) hb); clear HB; have q3 := n0_; have HB := n1_; clear n0_ n1_; (try clear hb); (try clear hb2); (try clear hk); (try clear hi); (try clear ho0)) | ((with_reducible refine gate_callee (f := 49) rfl ?_); refine goesL_ (some 29) rfl rfl Try.func49 (by kernel_rfl) rfl #[.slice A1 l1.length c1] rfl ma ?_; (with_reducible refine (laws_toSlipS.calls k _ _ l1 t187 _ ?side1 ?side2 A7.out).mono ?_); (case side1 => exact ca (Kd.C_below HR1.out HB.out)); (case side2 => exact HC1.out); rintro e w14 ⟨v188, rfl, ho0, hb⟩; refine ⟨_, rfl, ?_⟩; have n0_ := q0_7 (Kd.R_below (ra q3.out) hb); have n1_ := q0_7 (Kd.R_lower ho0 (below_size (qb_7))); have n2_ := q0_7 (below_step (qb_7) hb); clear q3; clear HB; have q3 := n0_; have q4 := n1_; have HB := n2_; clear n0_ n1_ n2_; (try clear hb); (try clear hb2); (try clear hk); (try clear hi); (try clear ho0); obtain ⟨qr, qs, eo15⟩ := Kd.R_slice q3.out; subst eo15; obtain ⟨qt, qu, eo16⟩ := Kd.R_slice q4.out; subst eo16) | ((with_reducible refine gate_callee (f := 48) rfl ?_); refine goesL_ (some 30) rfl rfl Try.func48 (by kernel_rfl) rfl #[.slice qr t184.length qs, .slice qt t187.length qu] rfl ma ?_; (with_reducible refine (spec_ErrBy.calls k _ _ t184 _ _ t187 t190 t191 _ ?side1 ?side2 ?side3 ?side4 A8.out).mono ?_); (case side1 => exact ca (Kd.R_reads' q3.out).2.2); (case side2 => exact (Kd.R_reads' q3.out).2.1); (case side3 => exact ca (Kd.R_reads' q4.out).2.2); (case side4 => exact (Kd.R_reads' q4.out).2.1); rintro e w17 ⟨v192, rfl, ho0, hb⟩; refine ⟨_, rfl, ?_⟩; have n0_ := q0_7 (Kd.R_elder' (ra q3.out) (Kd.R_base ho0) hb); have n1_ := q0_7 (Kd.R_below (ra q4.out) hb); have n2_ := q0_7 (Kd.R_lower (Kd.R_new' ho0 (Kd.R_lt (ra q3.out))) (below_size (qb_7))); have n3_ := q0_7 (below_step (qb_7) hb); clear q3; clear q4; clear HB; have q3 := n0_; have q4 := n1_; have q5 := n2_; have HB := n3_; clear n0_ n1_ n2_ n3_; (try clear hb); (try clear hb2); (try clear hk); (try clear hi); (try clear ho0)) | ((with_reducible refine gate_callee (f := 35) rfl ?_); refine goesL_ (some 34) rfl rfl Try.func35 (by kernel_rfl) rfl #[.slice A0 l0.length c0] rfl ma ?_; (with_reducible refine (laws_toIntS.calls k _ _ l0 t194 _ ?side1 ?side2 A9.out).mono ?_); (case side1 => exact ca (Kd.C_below HR0.out HB.out)); (case side2 => exact HC0.out); rintro e w18 ⟨v195, rfl, ho0, hb⟩; refine ⟨_, rfl, ?_⟩; have n0_ := q0_7 (Kd.R_elder' (ra q3.out) (Kd.R_base ho0) hb); have n1_ := q0_7 (Kd.R_below (ra q4.out) hb); have n2_ := q0_7 (Kd.R_elder' (ra q5.out) (Kd.R_base ho0) hb); have n3_ := q0_7 (Kd.R_lower (Kd.R_new' (Kd.R_new' ho0 (Kd.R_lt (ra q3.out))) (Kd.R_lt (ra q5.out))) (below_size (qb_7))); have n4_ := q0_7 (below_step (qb_7) hb); clear q3; clear q4; clear q5; clear HB; have q3 := n0_; have q4 := n1_; have q5 := n2_; have qa := n3_; have HB := n4_; clear n0_ n1_ n2_ n3_ n4_; (try clear hb); (try clear hb2); (try clear hk); (try clear hi); (try clear ho0)) | ((with_reducible refine gate_callee (f := 49) rfl ?_); refine goesL_ (some 36) rfl rfl Try.func49 (by kernel_rfl) rfl #[.slice A1 l1.length c1] rfl ma ?_; (with_reducible refine (laws_toSlipS.calls k _ _ l1 t197 _ ?side1 ?side2 A10.out).mono ?_); (case side1 => exact ca (Kd.C_below HR1.out HB.out)); (case side2 => exact HC1.out); rintro e w19 ⟨v198, rfl, ho0, hb⟩; refine ⟨_, rfl, ?_⟩; have n0_ := q0_7 (Kd.R_below (ra q3.out) hb); have n1_ := q0_7 (Kd.R_elder' (ra q4.out) (Kd.R_base ho0) hb); have n2_ := q0_7 (Kd.R_below (ra q5.out) hb); have n3_ := q0_7 (Kd.R_below (ra qa.out) hb); have n4_ := q0_7 (Kd.R_lower (Kd.R_new' ho0 (Kd.R_lt (ra q4.out))) (below_size (qb_7))); have n5_ := q0_7 (below_step (qb_7) hb); clear q3; clear q4; clear q5; clear qa; clear HB; have q3 := n0_; have q4 := n1_; have q5 := n2_; have qa := n3_; have qf := n4_; have HB := n5_; clear n0_ n1_ n2_ n3_ n4_ n5_; (try clear hb); (try clear hb2); (try clear hk); (try clear hi); (try clear ho0); obtain ⟨qd, qe, eo20⟩ := Kd.R_slice qa.out; subst eo20; obtain ⟨qh, qi, eo21⟩ := Kd.R_slice qf.out; subst eo21) | ((with_reducible refine gate_callee (f := 50) rfl ?_); refine goesL_ (some 40) rfl rfl Try.func50 (by kernel_rfl) rfl #[.slice qd t194.length qe, .slice qh t197.length qi] rfl ma ?_; (with_reducible refine (impl_ErrBy.calls k _ _ t194 _ _ t197 t200 t201 _ ?side1 ?side2 ?side3 ?side4 A11.out).mono ?_); (case side1 => exact ca (Kd.R_reads' qa.out).2.2); (case side2 => exact (Kd.R_reads' qa.out).2.1); (case side3 => exact ca (Kd.R_reads' qf.out).2.2); (case side4 => exact (Kd.R_reads' qf.out).2.1); rintro e w22 ⟨v202, rfl, ho0, hb⟩; refine ⟨_, rfl, ?_⟩; have n0_ := q0_7 (Kd.R_elder' (ra q3.out) (Kd.R_base ho0) hb); have n1_ := q0_7 (Kd.R_below (ra q4.out) hb); have n2_ := q0_7 (Kd.R_elder' (ra q5.out) (Kd.R_base ho0) hb); have n3_ := q0_7 (Kd.R_elder' (ra qa.out) (Kd.R_base ho0) hb); have n4_ := q0_7 (Kd.R_below (ra qf.out) hb); have n5_ := q0_7 (Kd.R_lower (Kd.R_new' (Kd.R_new' (Kd.R_new' ho0 (Kd.R_lt (ra q3.out))) (Kd.R_lt (ra q5.out))) (Kd.R_lt (ra qa.out))) (below_size (qb_7))); have n6_ := q0_7 (below_step (qb_7) hb); clear q3; clear q4; clear q5; clear qa; clear qf; clear HB; have q3 := n0_; have q4 := n1_; have q5 := n2_; have qa := n3_; have qf := n4_; have ql := n5_; have HB := n6_; clear n0_ n1_ n2_ n3_ n4_ n5_ n6_; (try clear hb); (try clear hb2); (try clear hk); (try clear hi); (try clear ho0))))
     ((try simp only [Act.put, List.setIfInBounds_toArray, List.set_cons_zero, List.set_cons_succ])); (go_cut [51] (fun v51 wc => ∃ (kq : Nat) (x51_11 : Bool), v51 = .bool x51_11 ∧ Aside0 (laws_FnExactErrBy.j0 kq l0 l1 t190 t191 t194 t197 t200 t201 x51_11 = some true) ∧ Aside0 (kq ≤ k) ∧ Aside0 (Kd.R (Kd.int .i64) 3 wc w.heap.size (fun k_ => some k_ ≠ ((.slice qd t194.length qe) : Value).ownBlock ∧ some k_ ≠ (v202 : Value).ownBlock) v192 t190) ∧ Aside0 (Kd.R (Kd.int .i64) 3 wc w.heap.size (fun k_ => some k_ ≠ (v192 : Value).ownBlock ∧ some k_ ≠ (v202 : Value).ownBlock) (.slice qd t194.length qe) t194) ∧ Aside0 (Kd.R k108 108 wc w.heap.size (fun _ => True) (.slice qh t197.length qi) t197) ∧ Aside0 (Kd.R (Kd.int .i64) 3 wc w.heap.size (fun k_ => some k_ ≠ (v192 : Value).ownBlock ∧ some k_ ≠ ((.slice qd t194.length qe) : Value).ownBlock) v202 t200) ∧ Aside0 (Below w.heap.size w wc)))
     case first =>
      have H := HC12.out; clear HC12; replace H := Option.bind_eq_some_iff.mp H; obtain ⟨t204, A230, H⟩ := H; (try dsimp only at H); have A23 := q0_7 A230; clear A230
      by_cases c24 : t204 = true
      · subst c24
        have H1 := H; rw [if_pos rfl] at H1; clear H; have H := H1; clear H1; (have H' := q0_7 H); clear H; obtain ⟨qv, qw, eo25⟩ := Kd.R_slice ql.out; subst eo25; obtain ⟨qx, qy, eo26⟩ := Kd.R_slice q5.out; subst eo26; (go_wp2_with (first | ((with_reducible refine gate_callee (f := 18) rfl ?_); refine goesL_ (some 45) rfl rfl Try.func18 (by kernel_rfl) rfl #[.slice qv t200.length qw, .slice qx t190.length qy] rfl ma ?_; (with_reducible refine (laws_eqIntS.calls k _ _ t200 _ _ t190 true _ ?side1 ?side2 ?side3 ?side4 A23.out).mono ?_); (case side1 => exact ca (Kd.R_reads' ql.out).2.2); (case side2 => exact (Kd.R_reads' ql.out).2.1); (case side3 => exact ca (Kd.R_reads' q5.out).2.2); (case side4 => exact (Kd.R_reads' q5.out).2.1); rintro e w' ⟨rfl, ⟨nd, rfl⟩⟩; refine ⟨_, rfl, ?_⟩))); (go_meet)
        case rel => exact ⟨_, ((t201 != t191)), (by first | rfl | (simp; done) | (simp [*]; done)), H', ⟨by first | omega | exact Nat.le_refl _⟩, ⟨by refine ra ?_; exact Kd.R_mono q5.out (fun _ hk => ⟨hk.1.2, hk.2⟩)⟩, ⟨by refine ra ?_; exact Kd.R_mono qa.out (fun _ hk => ⟨hk.1.2, hk.2⟩)⟩, ⟨by refine ra ?_; exact Kd.R_mono qf.out (fun _ hk => trivial)⟩, ⟨by refine ra ?_; exact Kd.R_mono ql.out (fun _ hk => ⟨hk.1.2, hk.2⟩)⟩, ⟨by exact (qb_7)⟩⟩
      · replace c24 := Bool.eq_false_iff.mpr c24
        subst c24; (have H1 : (laws_FnExactErrBy.j0 k l0 l1 t190 t191 t194 t197 t200 t201 true) = some true := by rw [if_neg (show ¬ (false = true) by decide)] at H; exact H); clear H; have H := H1; clear H1; (exact absurd H (by cases k <;> simp [laws_FnExactErrBy.j0]))
     case rest =>
      clear HC12; (try clear c1); (try clear c2); (try clear p2); (try clear c3); (try clear c3b0); (try clear c3b1); (try clear c4); (try clear c5); (try clear c5b0); (try clear c10); (try clear c18); (try clear c24); obtain ⟨kq, x51_11, rfl, HA, HJ11, q2, q8, q6, q1, HB⟩ := hcut
      cases kq with
      | zero => exact absurd HA.out (by simp [laws_FnExactErrBy.j0])
      | succ kj11 =>
       have H := HA.out; clear HA; (simp only [laws_FnExactErrBy.j0] at H)
       by_cases c29 : x51_11 = true
       · subst c29
         have H1 := H; rw [if_pos rfl] at H1; clear H; have H := H1; clear H1; exact absurd H (by simp)
       · replace c29 := Bool.eq_false_iff.mpr c29
         subst c29; (have H1 : ((laws_toIntS.f kj11 l0).bind fun t205 => ((laws_eqIntS.f kj11 t194 t205).bind fun t208 => (if t208 = true then ((laws_toSlipS.f kj11 l1).bind fun t209 => ((laws_eqSlipS.f kj11 t197 t209).bind fun t212 => (if t212 = true then ((laws_markIntS.f kj11 t194 1).bind fun bt213 => ((laws_markSlipS.f kj11 t197 bt213.1).bind fun bt215 => (if bt215.1 < 0 then (laws_FnExactErrBy.j1 kj11 l0 l1 t190 t191 t200 true) else ((laws_eqIntS.f kj11 t200 t190).bind fun t217 => (if t217 = true then (laws_FnExactErrBy.j1 kj11 l0 l1 t190 t191 t200 (t201 != t191)) else (laws_FnExactErrBy.j1 kj11 l0 l1 t190 t191 t200 true)))))) else (some false)))) else (some false)))) = some true := by rw [if_neg (show ¬ (false = true) by decide)] at H; exact H); clear H; have H := H1; clear H1; replace H := Option.bind_eq_some_iff.mp H; obtain ⟨t205, A300, H⟩ := H; (try dsimp only at H); have A30 := q0_7 A300; clear A300; replace H := Option.bind_eq_some_iff.mp H; obtain ⟨t208, A310, H⟩ := H; (try dsimp only at H); have A31 := q0_7 A310; clear A310
         by_cases c32 : t208 = true
         · subst c32
           have H1 := H; rw [if_pos rfl] at H1; clear H; have H := H1; clear H1; replace H := Option.bind_eq_some_iff.mp H; obtain ⟨t209, A330, H⟩ := H; (try dsimp only at H); have A33 := q0_7 A330; clear A330; replace H := Option.bind_eq_some_iff.mp H; obtain ⟨t212, A340, H⟩ := H; (try dsimp only at H); have A34 := q0_7 A340; clear A340
           by_cases c35 : t212 = true
           · subst c35
             have H1 := H; rw [if_pos rfl] at H1; clear H; have H := H1; clear H1; replace H := Option.bind_eq_some_iff.mp H; obtain ⟨⟨t213, t214⟩, A360, H⟩ := H; (try dsimp only at H); have A36 := q0_7 A360; clear A360; replace H := Option.bind_eq_some_iff.mp H; obtain ⟨⟨t215, t216⟩, A370, H⟩ := H; (try dsimp only at H); have A37 := q0_7 A370; clear A370; have HC38 := q0_7 H; clear H
             (go_upto_region 20 with (first | ((with_reducible refine gate_callee (f := 35) rfl ?_); refine goesL_ (some 54) rfl rfl Try.func35 (by kernel_rfl) rfl #[.slice A0 l0.length c0] rfl ma ?_; (with_reducible refine (laws_toIntS.calls kj11 _ _ l0 t205 _ ?side1 ?side2 A30.out).mono ?_); (case side1 => exact ca (Kd.C_below HR0.out HB.out)); (case side2 => exact HC0.out); rintro e w39 ⟨v206, rfl, ho0, hb⟩; refine ⟨_, rfl, ?_⟩; have n0_ := q0_7 (Kd.R_elder' (ra q2.out) (Kd.R_base ho0) hb); have n1_ := q0_7 (Kd.R_elder' (ra q8.out) (Kd.R_base ho0) hb); have n2_ := q0_7 (Kd.R_below (ra q6.out) hb); have n3_ := q0_7 (Kd.R_elder' (ra q1.out) (Kd.R_base ho0) hb); have n4_ := q0_7 (Kd.R_lower (Kd.R_new' (Kd.R_new' (Kd.R_new' ho0 (Kd.R_lt (ra q2.out))) (Kd.R_lt (ra q8.out))) (Kd.R_lt (ra q1.out))) (below_size (qb_7))); have n5_ := q0_7 (below_step (qb_7) hb); clear q2; clear q8; clear q6; clear q1; clear HB; have q2 := n0_; have q8 := n1_; have q6 := n2_; have q1 := n3_; have q7 := n4_; have HB := n5_; clear n0_ n1_ n2_ n3_ n4_ n5_; (try clear hb); (try clear hb2); (try clear hk); (try clear hi); (try clear ho0); obtain ⟨qm, qn, eo40⟩ := Kd.R_slice q7.out; subst eo40) | ((with_reducible refine gate_callee (f := 18) rfl ?_); refine goesL_ (some 55) rfl rfl Try.func18 (by kernel_rfl) rfl #[.slice qd t194.length qe, .slice qm t205.length qn] rfl ma ?_; (with_reducible refine (laws_eqIntS.calls kj11 _ _ t194 _ _ t205 true _ ?side1 ?side2 ?side3 ?side4 A31.out).mono ?_); (case side1 => exact ca (Kd.R_reads' q8.out).2.2); (case side2 => exact (Kd.R_reads' q8.out).2.1); (case side3 => exact ca (Kd.R_reads' q7.out).2.2); (case side4 => exact (Kd.R_reads' q7.out).2.1); rintro e w' ⟨rfl, ⟨nd, rfl⟩⟩; refine ⟨_, rfl, ?_⟩) | ((with_reducible refine gate_callee (f := 49) rfl ?_); refine goesL_ (some 59) rfl rfl Try.func49 (by kernel_rfl) rfl #[.slice A1 l1.length c1] rfl ma ?_; (with_reducible refine (laws_toSlipS.calls kj11 _ _ l1 t209 _ ?side1 ?side2 A33.out).mono ?_); (case side1 => exact ca (Kd.C_below HR1.out (qb_7))); (case side2 => exact HC1.out); rintro e w41 ⟨v210, rfl, ho0, hb⟩; refine ⟨_, rfl, ?_⟩; have n0_ := q0_7 (Kd.R_below (ra q2.out) hb); have n1_ := q0_7 (Kd.R_below (ra q8.out) hb); have n2_ := q0_7 (Kd.R_elder' (ra q6.out) (Kd.R_base ho0) hb); have n3_ := q0_7 (Kd.R_below (ra q1.out) hb); have n4_ := q0_7 (Kd.R_below (ra q7.out) hb); have n5_ := q0_7 (Kd.R_lower (Kd.R_new' ho0 (Kd.R_lt (ra q6.out))) (below_size (qb_7))); have n6_ := q0_7 (below_step (qb_7) hb); clear q2; clear q8; clear q6; clear q1; clear q7; clear HB; have q2 := n0_; have q8 := n1_; have q6 := n2_; have q1 := n3_; have q7 := n4_; have q9 := n5_; have HB := n6_; clear n0_ n1_ n2_ n3_ n4_ n5_ n6_; (try clear hb); (try clear hb2); (try clear hk); (try clear hi); (try clear ho0); obtain ⟨qp, qq, eo42⟩ := Kd.R_slice q9.out; subst eo42) | ((with_reducible refine gate_callee (f := 51) rfl ?_); refine goesL_ (some 60) rfl rfl Try.func51 (by kernel_rfl) rfl #[.slice qh t197.length qi, .slice qp t209.length qq] rfl ma ?_; (with_reducible refine (laws_eqSlipS.calls kj11 _ _ t197 _ _ t209 true _ ?side1 ?side2 ?side3 ?side4 A34.out).mono ?_); (case side1 => exact ca (Kd.R_reads' q6.out).2.2); (case side2 => exact (Kd.R_reads' q6.out).2.1); (case side3 => exact ca (Kd.R_reads' q9.out).2.2); (case side4 => exact (Kd.R_reads' q9.out).2.1); rintro e w43 ⟨rfl, hb⟩; refine ⟨_, rfl, ?_⟩; have n0_ := q0_7 (Kd.R_below (ra q2.out) hb); have n1_ := q0_7 (Kd.R_below (ra q8.out) hb); have n2_ := q0_7 (Kd.R_below (ra q6.out) hb); have n3_ := q0_7 (Kd.R_below (ra q1.out) hb); have n4_ := q0_7 (Kd.R_below (ra q7.out) hb); have n5_ := q0_7 (Kd.R_below (ra q9.out) hb); have n6_ := q0_7 (below_step (qb_7) hb); clear q2; clear q8; clear q6; clear q1; clear q7; clear q9; clear HB; have q2 := n0_; have q8 := n1_; have q6 := n2_; have q1 := n3_; have q7 := n4_; have q9 := n5_; have HB := n6_; clear n0_ n1_ n2_ n3_ n4_ n5_ n6_; (try clear hb); (try clear hb2); (try clear hk); (try clear hi)) | ((with_reducible refine gate_callee (f := 21) rfl ?_); refine goesL_ (some 64) rfl rfl Try.func21 (by kernel_rfl) rfl #[.slice qd t194.length qe, .int .i64 1] rfl ma ?_; (with_reducible refine (laws_markIntS.calls kj11 (fun k_ => some k_ = (.slice qd t194.length qe : Value).ownBlock) (.slice qd t194.length qe) t194 1 t213 t214 w _ ?side1 ?side2 A36.out).mono ?_); (case side1 => exact (qb_7)); (case side2 => exact Kd.R_tight rfl q8.out); rintro e w44 ⟨rfl, hy0, hb, hkp⟩; refine ⟨_, rfl, ?_⟩; have n0_ := q0_7 (Kd.R_mono (ok' := fun k_ => some k_ ≠ (.slice qd t194.length qe : Value).ownBlock ∧ some k_ ≠ (v202 : Value).ownBlock ∧ some k_ ≠ (.slice qm t205.length qn : Value).ownBlock) (Kd.R_keptB (q2.out) hkp (fun k_ hk_ hs_ => absurd hs_ (pq hk_))) pk); have n1_ := q0_7 (Kd.R_reok rfl hy0 (fun k_ e_ => q8.out.1 k_ e_)); have n2_ := q0_7 (Kd.R_mono (ok' := fun k_ => some k_ ≠ (.slice qp t209.length qq : Value).ownBlock) (Kd.R_keptB ((Kd.R_apart' q6.out (Kd.R_typed q8.out) (by decide))) hkp (fun k_ hk_ hs_ => absurd hs_ (pq hk_))) (fun k_ hk_ => hk_.1.1.2)); have n3_ := q0_7 (Kd.R_mono (ok' := fun k_ => some k_ ≠ (v192 : Value).ownBlock ∧ some k_ ≠ (.slice qd t194.length qe : Value).ownBlock ∧ some k_ ≠ (.slice qm t205.length qn : Value).ownBlock) (Kd.R_keptB (q1.out) hkp (fun k_ hk_ hs_ => absurd hs_ (pq hk_))) pk); have n4_ := q0_7 (Kd.R_mono (ok' := fun k_ => some k_ ≠ (v192 : Value).ownBlock ∧ some k_ ≠ (.slice qd t194.length qe : Value).ownBlock ∧ some k_ ≠ (v202 : Value).ownBlock) (Kd.R_keptB (q7.out) hkp (fun k_ hk_ hs_ => absurd hs_ (pq hk_))) pk); have n5_ := q0_7 (Kd.R_mono (ok' := fun k_ => some k_ ≠ (.slice qh t197.length qi : Value).ownBlock) (Kd.R_keptB ((Kd.R_apart' q9.out (Kd.R_typed q8.out) (by decide))) hkp (fun k_ hk_ hs_ => absurd hs_ (pq hk_))) (fun k_ hk_ => hk_.1.1.2)); have n6_ := q0_7 (hb); clear q2; clear q8; clear q6; clear q1; clear q7; clear q9; clear HB; have q2 := n0_; have q8 := n1_; have q6 := n2_; have q1 := n3_; have q7 := n4_; have q9 := n5_; have HB := n6_; clear n0_ n1_ n2_ n3_ n4_ n5_ n6_; (try clear hb); (try clear hkp); (try clear hy0)) | ((with_reducible refine gate_callee (f := 52) rfl ?_); refine goesL_ (some 67) rfl rfl Try.func52 (by kernel_rfl) rfl #[.slice qh t197.length qi, .int .i64 t213] rfl ma ?_; (with_reducible refine (laws_markSlipS.calls kj11 (fun k_ => some k_ = (.slice qh t197.length qi : Value).ownBlock) (.slice qh t197.length qi) t197 t213 t215 t216 w _ ?side1 ?side2 A37.out).mono ?_); (case side1 => exact (qb_7)); (case side2 => exact Kd.R_tight rfl q6.out); rintro e w45 ⟨rfl, hy0, hb, hkp⟩; refine ⟨_, rfl, ?_⟩; have n0_ := q0_7 (Kd.R_mono (ok' := fun k_ => some k_ ≠ (.slice qd t194.length qe : Value).ownBlock ∧ some k_ ≠ (v202 : Value).ownBlock ∧ some k_ ≠ (.slice qm t205.length qn : Value).ownBlock) (Kd.R_keptB ((Kd.R_apart' q2.out (Kd.R_typed q6.out) (by decide))) hkp (fun k_ hk_ hs_ => absurd hs_ (pq hk_))) pk); have n1_ := q0_7 (Kd.R_mono (ok' := fun k_ => some k_ ≠ (v192 : Value).ownBlock ∧ some k_ ≠ (v202 : Value).ownBlock ∧ some k_ ≠ (.slice qm t205.length qn : Value).ownBlock) (Kd.R_keptB ((Kd.R_apart' q8.out (Kd.R_typed q6.out) (by decide))) hkp (fun k_ hk_ hs_ => absurd hs_ (pq hk_))) pk); have n2_ := q0_7 (Kd.R_reok rfl hy0 (fun k_ e_ => q6.out.1 k_ e_)); have n3_ := q0_7 (Kd.R_mono (ok' := fun k_ => some k_ ≠ (v192 : Value).ownBlock ∧ some k_ ≠ (.slice qd t194.length qe : Value).ownBlock ∧ some k_ ≠ (.slice qm t205.length qn : Value).ownBlock) (Kd.R_keptB ((Kd.R_apart' q1.out (Kd.R_typed q6.out) (by decide))) hkp (fun k_ hk_ hs_ => absurd hs_ (pq hk_))) pk); have n4_ := q0_7 (Kd.R_mono (ok' := fun k_ => some k_ ≠ (v192 : Value).ownBlock ∧ some k_ ≠ (.slice qd t194.length qe : Value).ownBlock ∧ some k_ ≠ (v202 : Value).ownBlock) (Kd.R_keptB ((Kd.R_apart' q7.out (Kd.R_typed q6.out) (by decide))) hkp (fun k_ hk_ hs_ => absurd hs_ (pq hk_))) pk); have n5_ := q0_7 (Kd.R_mono (ok' := fun k_ => some k_ ≠ (.slice qh t197.length qi : Value).ownBlock) (Kd.R_keptB (q9.out) hkp (fun k_ hk_ hs_ => absurd hs_ (pq hk_))) (fun k_ hk_ => hk_.1)); have n6_ := q0_7 (hb); clear q2; clear q8; clear q6; clear q1; clear q7; clear q9; clear HB; have q2 := n0_; have q8 := n1_; have q6 := n2_; have q1 := n3_; have q7 := n4_; have q9 := n5_; have HB := n6_; clear n0_ n1_ n2_ n3_ n4_ n5_ n6_; (try clear hb); (try clear hkp); (try clear hy0))))
             ((try simp only [Act.put, List.setIfInBounds_toArray, List.set_cons_zero, List.set_cons_succ])); (go_cut [80] (fun v80 wc => ∃ (kq : Nat) (x80_37 : Bool), v80 = .bool x80_37 ∧ Aside0 (laws_FnExactErrBy.j1 kq l0 l1 t190 t191 t200 x80_37 = some true) ∧ Aside0 (kq ≤ kj11) ∧ Aside0 (Kd.R (Kd.int .i64) 3 wc w.heap.size (fun k_ => some k_ ≠ (v202 : Value).ownBlock) v192 t190) ∧ Aside0 (Kd.R (Kd.int .i64) 3 wc w.heap.size (fun k_ => some k_ ≠ (v192 : Value).ownBlock) v202 t200) ∧ Aside0 (Below w.heap.size w wc)))
             case first =>
              have H := HC38.out; clear HC38
              by_cases c46 : t215 < 0
              · rw [if_pos c46] at H
                (have c46b0 : decide (t215 < 0) = true := decide_eq_true c46); clear c46; ((first | rw [c46b0] | (simp only [i64_w, i32_w]; rw [c46b0]) | skip)); (exact absurd H (by cases kj11 <;> simp [laws_FnExactErrBy.j1]))
              · rw [if_neg c46] at H
                (have c46b0 : decide (t215 < 0) = false := decide_eq_false c46); clear c46; ((first | rw [c46b0] | (simp only [i64_w, i32_w]; rw [c46b0]) | skip)); replace H := Option.bind_eq_some_iff.mp H; obtain ⟨t217, A470, H⟩ := H; (try dsimp only at H); have A47 := q0_7 A470; clear A470
                by_cases c48 : t217 = true
                · subst c48
                  have H1 := H; rw [if_pos rfl] at H1; clear H; have H := H1; clear H1; (have H' := q0_7 H); clear H; obtain ⟨z07, z08, eo49⟩ := Kd.R_slice q1.out; subst eo49; obtain ⟨z09, z0a, eo50⟩ := Kd.R_slice q2.out; subst eo50; (go_wp2_with (first | (go_at_call 18; (with_reducible refine (laws_eqIntS.calls kj11 _ _ t200 _ _ t190 true _ ?side1 ?side2 ?side3 ?side4 A47.out).mono ?_); (case side1 => exact ca (Kd.R_reads' q1.out).2.2); (case side2 => exact (Kd.R_reads' q1.out).2.1); (case side3 => exact ca (Kd.R_reads' q2.out).2.2); (case side4 => exact (Kd.R_reads' q2.out).2.1); rintro e w' ⟨rfl, ⟨nd, rfl⟩⟩))); (go_meet)
                  case rel => exact ⟨_, ((t201 != t191)), (by first | rfl | (simp; done) | (simp [*]; done)), H', ⟨by have := HJ11.out; first | omega | exact Nat.le_refl _⟩, ⟨by refine ra ?_; exact Kd.R_mono q2.out (fun _ hk => hk.2.1)⟩, ⟨by refine ra ?_; exact Kd.R_mono q1.out (fun _ hk => hk.1)⟩, ⟨by exact (qb_7)⟩⟩
                · replace c48 := Bool.eq_false_iff.mpr c48
                  subst c48; (have H1 : (laws_FnExactErrBy.j1 kj11 l0 l1 t190 t191 t200 true) = some true := by rw [if_neg (show ¬ (false = true) by decide)] at H; exact H); clear H; have H := H1; clear H1; (exact absurd H (by cases kj11 <;> simp [laws_FnExactErrBy.j1]))
             case rest =>
              clear HC38; (try clear c1); (try clear c2); (try clear p2); (try clear c3); (try clear c3b0); (try clear c3b1); (try clear c4); (try clear c5); (try clear c5b0); (try clear c10); (try clear c18); (try clear c21); (try clear c24); (try clear c29); (try clear c32); (try clear c35); (try clear c46); (try clear c46b0); (try clear c47); (try clear c48); (try clear c49); (try clear c50); (try clear c51); (try clear c52); (try clear p2); obtain ⟨kq, x80_37, rfl, HA, HJ37, q2, q1, HB⟩ := hcut
              cases kq with
              | zero => exact absurd HA.out (by simp [laws_FnExactErrBy.j1])
              | succ kj37 =>
               have H := HA.out; clear HA; (simp only [laws_FnExactErrBy.j1] at H)
               by_cases c53 : x80_37 = true
               · subst c53
                 have H1 := H; rw [if_pos rfl] at H1; clear H; have H := H1; clear H1; exact absurd H (by simp)
               · replace c53 := Bool.eq_false_iff.mpr c53
                 subst c53; (have H1 : ((laws_markIntS.f kj37 t200 1).bind fun bt218 => ((laws_heldIntS.f kj37 bt218.2 1).bind fun t220 => (if t220 < 0 then (some false) else (if t220 = bt218.1 then ((laws_toIntS.f kj37 l0).bind fun t221 => ((laws_toSlipS.f kj37 l1).bind fun t224 => ((impl_ErrBy.f kj37 t221 t224).bind fun bt227 => ((laws_eqIntS.f kj37 bt227.1 t190).bind fun t231 => (if t231 = true then (laws_FnExactErrBy.j2 kj37 bt218.2 bt218.1 (bt227.2 != t191)) else (laws_FnExactErrBy.j2 kj37 bt218.2 bt218.1 true)))))) else (some false))))) = some true := by rw [if_neg (show ¬ (false = true) by decide)] at H; exact H); clear H; have H := H1; clear H1; replace H := Option.bind_eq_some_iff.mp H; obtain ⟨⟨t218, t219⟩, A540, H⟩ := H; (try dsimp only at H); have A54 := q0_7 A540; clear A540; replace H := Option.bind_eq_some_iff.mp H; obtain ⟨t220, A550, H⟩ := H; (try dsimp only at H); have A55 := q0_7 A550; clear A550
                 by_cases c56 : t220 < 0
                 · rw [if_pos c56] at H
                   (have c56b0 : decide (t220 < 0) = true := decide_eq_true c56); clear c56; exact absurd H (by simp)
                 · rw [if_neg c56] at H
                   (have c56b0 : decide (t220 < 0) = false := decide_eq_false c56); clear c56
                   by_cases c59 : t220 = t218
                   · rw [if_pos c59] at H
                     (have c59b0 : (t220 == t218) = true := beq_iff_eq.mpr c59); (have c59b1 : (t220 != t218) = false := bne_eq_false_iff_eq.mpr c59); clear c59; replace H := Option.bind_eq_some_iff.mp H; obtain ⟨t221, A600, H⟩ := H; (try dsimp only at H); have A60 := q0_7 A600; clear A600; replace H := Option.bind_eq_some_iff.mp H; obtain ⟨t224, A610, H⟩ := H; (try dsimp only at H); have A61 := q0_7 A610; clear A610; replace H := Option.bind_eq_some_iff.mp H; obtain ⟨⟨t227, t228⟩, A620, H⟩ := H; (try dsimp only at H); have A62 := q0_7 A620; clear A620; have HC63 := q0_7 H; clear H; obtain ⟨qj, qk, eo64⟩ := Kd.R_slice q1.out; subst eo64
                     (go_upto_region 31 with (first | ((with_reducible refine gate_callee (f := 21) rfl ?_); refine goesL_ (some 83) rfl rfl Try.func21 (by kernel_rfl) rfl #[.slice qj t200.length qk, .int .i64 1] rfl ma ?_; (with_reducible refine (laws_markIntS.calls kj37 (fun k_ => some k_ = (.slice qj t200.length qk : Value).ownBlock) (.slice qj t200.length qk) t200 1 t218 t219 w _ ?side1 ?side2 A54.out).mono ?_); (case side1 => exact (qb_7)); (case side2 => exact Kd.R_tight rfl q1.out); rintro e w65 ⟨rfl, hy0, hb, hkp⟩; refine ⟨_, rfl, ?_⟩; have n0_ := q0_7 (Kd.R_mono (ok' := fun k_ => some k_ ≠ (.slice qj t200.length qk : Value).ownBlock) (Kd.R_keptB (q2.out) hkp (fun k_ hk_ hs_ => absurd hs_ (pq hk_))) (fun k_ hk_ => hk_.1)); have n1_ := q0_7 (Kd.R_reok rfl hy0 (fun k_ e_ => q1.out.1 k_ e_)); have n2_ := q0_7 (hb); clear q2; clear q1; clear HB; have q2 := n0_; have q1 := n1_; have HB := n2_; clear n0_ n1_ n2_; (try clear hb); (try clear hkp); (try clear hy0)) | ((with_reducible refine gate_callee (f := 22) rfl ?_); refine goesL_ (some 86) rfl rfl Try.func22 (by kernel_rfl) rfl #[.slice qj t219.length qk, .int .i64 1] rfl (by (try simp only [List.map_toArray, List.map_cons, List.map_nil]); first | done | (rw [show t219.length = t200.length from (Kd.R_reads' q1.out).1.symm] <;> rfl) | rfl | (simp only [List.length_drop, List.length_take]; rfl)) ?_; (with_reducible refine (laws_heldIntS.calls kj37 _ _ t219 1 t220 _ ?side1 ?side2 A55.out).mono ?_); (case side1 => exact ca (Kd.R_reads' q1.out).2.2); (case side2 => rw [show t219.length = t200.length from (Kd.R_reads' q1.out).1.symm]; exact (Kd.R_reads' q1.out).2.1); rintro e w' ⟨rfl, ⟨nd, rfl⟩⟩; refine ⟨_, rfl, ?_⟩) | ((with_reducible refine gate_callee (f := 35) rfl ?_); refine goesL_ (some 94) rfl rfl Try.func35 (by kernel_rfl) rfl #[.slice A0 l0.length c0] rfl ma ?_; (with_reducible refine (laws_toIntS.calls kj37 _ _ l0 t221 _ ?side1 ?side2 A60.out).mono ?_); (case side1 => exact ca (Kd.C_below HR0.out (qb_7))); (case side2 => exact HC0.out); rintro e w66 ⟨v222, rfl, ho0, hb⟩; refine ⟨_, rfl, ?_⟩; have n0_ := q0_7 (Kd.R_elder' (ra q2.out) (Kd.R_base ho0) hb); have n1_ := q0_7 (Kd.R_elder' (ra q1.out) (Kd.R_base ho0) hb); have n2_ := q0_7 (Kd.R_lower (Kd.R_new' (Kd.R_new' ho0 (Kd.R_lt (ra q2.out))) (Kd.R_lt (ra q1.out))) (below_size (qb_7))); have n3_ := q0_7 (below_step (qb_7) hb); clear q2; clear q1; clear HB; have q2 := n0_; have q1 := n1_; have qc := n2_; have HB := n3_; clear n0_ n1_ n2_ n3_; (try clear hb); (try clear hb2); (try clear hk); (try clear hi); (try clear ho0)) | ((with_reducible refine gate_callee (f := 49) rfl ?_); refine goesL_ (some 96) rfl rfl Try.func49 (by kernel_rfl) rfl #[.slice A1 l1.length c1] rfl ma ?_; (with_reducible refine (laws_toSlipS.calls kj37 _ _ l1 t224 _ ?side1 ?side2 A61.out).mono ?_); (case side1 => exact ca (Kd.C_below HR1.out HB.out)); (case side2 => exact HC1.out); rintro e w67 ⟨v225, rfl, ho0, hb⟩; refine ⟨_, rfl, ?_⟩; have n0_ := q0_7 (Kd.R_below (ra q2.out) hb); have n1_ := q0_7 (Kd.R_below (ra q1.out) hb); have n2_ := q0_7 (Kd.R_below (ra qc.out) hb); have n3_ := q0_7 (Kd.R_lower ho0 (below_size (qb_7))); have n4_ := q0_7 (below_step (qb_7) hb); clear q2; clear q1; clear qc; clear HB; have q2 := n0_; have q1 := n1_; have qc := n2_; have qg := n3_; have HB := n4_; clear n0_ n1_ n2_ n3_ n4_; (try clear hb); (try clear hb2); (try clear hk); (try clear hi); (try clear ho0); obtain ⟨qz, z00, eo68⟩ := Kd.R_slice qc.out; subst eo68; obtain ⟨z01, z02, eo69⟩ := Kd.R_slice qg.out; subst eo69) | ((with_reducible refine gate_callee (f := 50) rfl ?_); refine goesL_ (some 97) rfl rfl Try.func50 (by kernel_rfl) rfl #[.slice qz t221.length z00, .slice z01 t224.length z02] rfl ma ?_; (with_reducible refine (impl_ErrBy.calls kj37 _ _ t221 _ _ t224 t227 t228 _ ?side1 ?side2 ?side3 ?side4 A62.out).mono ?_); (case side1 => exact ca (Kd.R_reads' qc.out).2.2); (case side2 => exact (Kd.R_reads' qc.out).2.1); (case side3 => exact ca (Kd.R_reads' qg.out).2.2); (case side4 => exact (Kd.R_reads' qg.out).2.1); rintro e w70 ⟨v229, rfl, ho0, hb⟩; refine ⟨_, rfl, ?_⟩; have n0_ := q0_7 (Kd.R_elder' (ra q2.out) (Kd.R_base ho0) hb); have n1_ := q0_7 (Kd.R_elder' (ra q1.out) (Kd.R_base ho0) hb); have n2_ := q0_7 (Kd.R_elder' (ra qc.out) (Kd.R_base ho0) hb); have n3_ := q0_7 (Kd.R_below (ra qg.out) hb); have n4_ := q0_7 (Kd.R_lower (Kd.R_new' (Kd.R_new' (Kd.R_new' ho0 (Kd.R_lt (ra q2.out))) (Kd.R_lt (ra q1.out))) (Kd.R_lt (ra qc.out))) (below_size (qb_7))); have n5_ := q0_7 (below_step (qb_7) hb); clear q2; clear q1; clear qc; clear qg; clear HB; have q2 := n0_; have q1 := n1_; have qc := n2_; have qg := n3_; have qo := n4_; have HB := n5_; clear n0_ n1_ n2_ n3_ n4_ n5_; (try clear hb); (try clear hb2); (try clear hk); (try clear hi); (try clear ho0))))
                     ((try simp only [Act.put, List.setIfInBounds_toArray, List.set_cons_zero, List.set_cons_succ])); (go_cut [108] (fun v108 wc => ∃ (kq : Nat) (x108_62 : Bool), v108 = .bool x108_62 ∧ Aside0 (laws_FnExactErrBy.j2 kq t219 t218 x108_62 = some true) ∧ Aside0 (kq ≤ kj37) ∧ Aside0 (Kd.R (Kd.int .i64) 3 wc w.heap.size (fun _ => True) (.slice qj t200.length qk) t219) ∧ Aside0 (Below w.heap.size w wc)))
                     case first =>
                      have H := HC63.out; clear HC63; replace H := Option.bind_eq_some_iff.mp H; obtain ⟨t231, A710, H⟩ := H; (try dsimp only at H); have A71 := q0_7 A710; clear A710
                      by_cases c72 : t231 = true
                      · subst c72
                        have H1 := H; rw [if_pos rfl] at H1; clear H; have H := H1; clear H1; (have H' := q0_7 H); clear H; obtain ⟨z03, z04, eo73⟩ := Kd.R_slice qo.out; subst eo73; obtain ⟨z05, z06, eo74⟩ := Kd.R_slice q2.out; subst eo74; (go_wp2_with (first | ((with_reducible refine gate_callee (f := 18) rfl ?_); refine goesL_ (some 102) rfl rfl Try.func18 (by kernel_rfl) rfl #[.slice z03 t227.length z04, .slice z05 t190.length z06] rfl ma ?_; (with_reducible refine (laws_eqIntS.calls kj37 _ _ t227 _ _ t190 true _ ?side1 ?side2 ?side3 ?side4 A71.out).mono ?_); (case side1 => exact ca (Kd.R_reads' qo.out).2.2); (case side2 => exact (Kd.R_reads' qo.out).2.1); (case side3 => exact ca (Kd.R_reads' q2.out).2.2); (case side4 => exact (Kd.R_reads' q2.out).2.1); rintro e w' ⟨rfl, ⟨nd, rfl⟩⟩; refine ⟨_, rfl, ?_⟩))); (go_meet)
                        case rel => exact ⟨_, ((t228 != t191)), (by first | rfl | (simp; done) | (simp [*]; done)), H', ⟨by have := HJ11.out; have := HJ37.out; first | omega | exact Nat.le_refl _⟩, ⟨by refine ra ?_; exact Kd.R_mono q1.out (fun _ hk => trivial)⟩, ⟨by exact (qb_7)⟩⟩
                      · replace c72 := Bool.eq_false_iff.mpr c72
                        subst c72; (have H1 : (laws_FnExactErrBy.j2 kj37 t219 t218 true) = some true := by rw [if_neg (show ¬ (false = true) by decide)] at H; exact H); clear H; have H := H1; clear H1; (exact absurd H (by cases kj37 <;> simp [laws_FnExactErrBy.j2]))
                     case rest =>
                      clear HC63; (try clear c1); (try clear c2); (try clear p2); (try clear c3); (try clear c3b0); (try clear c3b1); (try clear c4); (try clear c5); (try clear c5b0); (try clear c7); (try clear c10); (try clear c18); (try clear c21); (try clear c22); (try clear c24); (try clear c29); (try clear c32); (try clear c35); (try clear c46); (try clear c46b0); (try clear c47); (try clear c48); (try clear c49); (try clear c50); (try clear c51); (try clear c52); (try clear c53); (try clear c56); (try clear c56b0); (try clear c59); (try clear c59b0); (try clear c59b1); (try clear c72); (try clear p2); obtain ⟨kq, x108_62, rfl, HA, HJ62, q1, HB⟩ := hcut; have hl10_62 := (Kd.R_reads' q1.out).1; rw [hl10_62] at q1; ((try simp only [hl10_62]))
                      cases kq with
                      | zero => exact absurd HA.out (by simp [laws_FnExactErrBy.j2])
                      | succ kj62 =>
                       have H := HA.out; clear HA; (simp only [laws_FnExactErrBy.j2] at H)
                       by_cases c77 : x108_62 = true
                       · subst c77
                         have H1 := H; rw [if_pos rfl] at H1; clear H; have H := H1; clear H1; exact absurd H (by simp)
                       · replace c77 := Bool.eq_false_iff.mpr c77
                         subst c77; (have H1 : ((laws_heldIntS.f kj62 t219 1).bind fun t232 => (if t232 < 0 then (some false) else (if t232 = t218 then (some true) else (some false)))) = some true := by rw [if_neg (show ¬ (false = true) by decide)] at H; exact H); clear H; have H := H1; clear H1; replace H := Option.bind_eq_some_iff.mp H; obtain ⟨t232, A780, H⟩ := H; (try dsimp only at H); have A78 := q0_7 A780; clear A780
                         by_cases c79 : t232 < 0
                         · rw [if_pos c79] at H
                           (have c79b0 : decide (t232 < 0) = true := decide_eq_true c79); clear c79; exact absurd H (by simp)
                         · rw [if_neg c79] at H
                           (have c79b0 : decide (t232 < 0) = false := decide_eq_false c79); clear c79
                           by_cases c80 : t232 = t218
                           · rw [if_pos c80] at H
                             (have c80b0 : (t232 == t218) = true := beq_iff_eq.mpr c80); (have c80b1 : (t232 != t218) = false := bne_eq_false_iff_eq.mpr c80); clear c80 H; (go_wp2_with (first | ((with_reducible refine gate_callee (f := 22) rfl ?_); refine goesL_ (some 111) rfl rfl Try.func22 (by kernel_rfl) rfl #[.slice qj t219.length qk, .int .i64 1] rfl ma ?_; (with_reducible refine (laws_heldIntS.calls kj62 _ _ t219 1 t232 _ ?side1 ?side2 A78.out).mono ?_); (case side1 => exact ca (Kd.R_reads' q1.out).2.2); (case side2 => exact (Kd.R_reads' q1.out).2.1); rintro e w' ⟨rfl, ⟨nd, rfl⟩⟩; refine ⟨_, rfl, ?_⟩))); go_ret; (exact ⟨by first | rfl | (simp [errW_none, errW_some] <;> rfl) | (simp [*, errW_none, errW_some] <;> rfl), by exact (qb_7)⟩)
                           · rw [if_neg c80] at H
                             (have c80b0 : (t232 == t218) = false := beq_eq_false_iff_ne.mpr c80); (have c80b1 : (t232 != t218) = true := bne_iff_ne.mpr c80); exact absurd H (by simp)
                   · rw [if_neg c59] at H
                     (have c59b0 : (t220 == t218) = false := beq_eq_false_iff_ne.mpr c59); (have c59b1 : (t220 != t218) = true := bne_iff_ne.mpr c59); exact absurd H (by simp)
           · replace c35 := Bool.eq_false_iff.mpr c35
             subst c35; (have H1 : (some false) = some true := by rw [if_neg (show ¬ (false = true) by decide)] at H; exact H); clear H; have H := H1; clear H1; exact absurd H (by simp)
         · replace c32 := Bool.eq_false_iff.mpr c32
           subst c32; (have H1 : (some false) = some true := by rw [if_neg (show ¬ (false = true) by decide)] at H; exact H); clear H; have H := H1; clear H1; exact absurd H (by simp)
end Go.Proofs.Ytlkcbmcbmanmiaa.PFnExactErrBy
