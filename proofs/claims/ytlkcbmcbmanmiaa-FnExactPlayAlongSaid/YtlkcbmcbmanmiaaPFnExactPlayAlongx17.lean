-- Written for this claim by a program of this repository (wip/tools/print2.py), out of the translation; Lean checks it.
import Derived.Test.YtlkcbmcbmanmiaaPFnExactPlayAlongx0
import Derived.Test.YtlkcbmcbmanmiaaPFnExactPlayAlongx1
import Derived.Test.YtlkcbmcbmanmiaaPFnExactPlayAlongx2
import Derived.Test.YtlkcbmcbmanmiaaPFnExactPlayAlongx8
import Derived.Test.YtlkcbmcbmanmiaaPFnExactPlayAlongx16
namespace Go.Proofs.Ytlkcbmcbmanmiaa.PFnExactPlayAlong
open Go.RowKit Go.Proofs.YtlkcbmcbmanmiaaW.PrintWords Go.Proofs.YtlkcbmcbmanmiaaW.PrintLast Go.Proofs.YtlkcbmcbmanmiaaW.PrintMore
attribute [local go_sem] max2_int min2_int max_two min_two max_three min_three max_four min_four   -- for this text's walks alone
set_option linter.unusedVariables false
set_option linter.unusedSimpArgs false
-- SHORT
theorem qc_17 {p : Prop} (f : p := by repeat (first | (with_reducible first | exact HB.out | apply below_alloc | apply pw_below_drewN | apply below_drew1) | exact HB.out)) : p := f
theorem q0_17 {p : Prop} (h : p) : Aside0 p := ⟨h⟩
/-! ### laws_FnExactPlayAlong: function 13 -/
mutual
def laws_FnExactPlayAlong.j0 : Nat → List (S83) → Int → List Int → Int → List (S81) → Bool → List (S81) → List Int → List (S81) → Bool → Bool → Option (Bool)
 | 0, _, _, _, _, _, _, _, _, _, _, _ => none
 | k + 1, x0, x1, x2, x3, x10, x11, x12, x13, x14, x15, x59 => if x59 = true then (some false) else ((laws_toEventS.f k x0).bind fun t419 => ((laws_eqEventS.f k x12 t419).bind fun t422 => (if t422 = true then ((laws_toIntS.f k x2).bind fun t423 => ((laws_eqIntS.f k x13 t423).bind fun t426 => (if t426 = true then ((laws_markEventS.f k x12 1).bind fun bt427 => ((laws_markIntS.f k x13 bt427.1).bind fun bt429 => (if bt429.1 < 0 then (laws_FnExactPlayAlong.j1 k x0 x1 x2 x3 x10 x11 x14 true) else ((laws_eqEventS.f k x14 x10).bind fun t431 => (if t431 = true then (laws_FnExactPlayAlong.j1 k x0 x1 x2 x3 x10 x11 x14 (x15 != x11)) else (laws_FnExactPlayAlong.j1 k x0 x1 x2 x3 x10 x11 x14 true)))))) else (some false)))) else (some false))))
def laws_FnExactPlayAlong.j1 : Nat → List (S83) → Int → List Int → Int → List (S81) → Bool → List (S81) → Bool → Option (Bool)
 | 0, _, _, _, _, _, _, _, _ => none
 | k + 1, x0, x1, x2, x3, x10, x11, x14, x88 => if x88 = true then (some false) else ((laws_markEventS.f k x14 1).bind fun bt432 => ((laws_heldEventS.f k bt432.2 1).bind fun t434 => (if t434 < 0 then (some false) else (if t434 = bt432.1 then ((laws_toEventS.f k x0).bind fun t435 => ((laws_toIntS.f k x2).bind fun t438 => ((impl_PlayAlong.f k t435 x1 t438 x3).bind fun bt441 => ((laws_eqEventS.f k bt441.1 x10).bind fun t445 => (if t445 = true then (laws_FnExactPlayAlong.j2 k bt432.2 bt432.1 (bt441.2 != x11)) else (laws_FnExactPlayAlong.j2 k bt432.2 bt432.1 true)))))) else (some false)))))
def laws_FnExactPlayAlong.j2 : Nat → List (S81) → Int → Bool → Option (Bool)
 | 0, _, _, _ => none
 | k + 1, x14, x17, x118 => if x118 = true then (some false) else ((laws_heldEventS.f k x14 1).bind fun t446 => (if t446 < 0 then (some false) else (if t446 = x17 then (some true) else (some false))))
end
def laws_FnExactPlayAlong.f (k : Nat) (l0 : List (S83)) (a1 : Int) (l2 : List Int) (a3 : Int) : Option (Bool) := if (l2.length : Int) > 1048576 then (some true) else ((laws_szEventS.f l0 1048576).bind fun t397 => (if t397 < 0 then (some true) else ((laws_toEventS.f k l0).bind fun t398 => ((laws_toIntS.f k l2).bind fun t401 => ((spec_PlayAlong.f k t398 a1 t401 a3).bind fun bt404 => ((laws_toEventS.f k l0).bind fun t408 => ((laws_toIntS.f k l2).bind fun t411 => ((impl_PlayAlong.f k t408 a1 t411 a3).bind fun bt414 => ((laws_eqEventS.f k bt414.1 bt404.1).bind fun t418 => (if t418 = true then (laws_FnExactPlayAlong.j0 k l0 a1 l2 a3 bt404.1 bt404.2 t408 t411 bt414.1 bt414.2 (bt414.2 != bt404.2)) else (laws_FnExactPlayAlong.j0 k l0 a1 l2 a3 bt404.1 bt404.2 t408 t411 bt414.1 bt414.2 true)))))))))))
theorem laws_FnExactPlayAlong.mono_l : ∀ k, (∀ y0 y1 y2 y3 y4 y5 y6 y7 y8 y9 y10, LeO (laws_FnExactPlayAlong.j0 k y0 y1 y2 y3 y4 y5 y6 y7 y8 y9 y10) (laws_FnExactPlayAlong.j0 (k + 1) y0 y1 y2 y3 y4 y5 y6 y7 y8 y9 y10)) ∧ (∀ y0 y1 y2 y3 y4 y5 y6 y7, LeO (laws_FnExactPlayAlong.j1 k y0 y1 y2 y3 y4 y5 y6 y7) (laws_FnExactPlayAlong.j1 (k + 1) y0 y1 y2 y3 y4 y5 y6 y7)) ∧ (∀ y0 y1 y2, LeO (laws_FnExactPlayAlong.j2 k y0 y1 y2) (laws_FnExactPlayAlong.j2 (k + 1) y0 y1 y2))
 | 0 => ⟨fun _ _ _ _ _ _ _ _ _ _ _ r h => by simp [laws_FnExactPlayAlong.j0] at h, fun _ _ _ _ _ _ _ _ r h => by simp [laws_FnExactPlayAlong.j1] at h, fun _ _ _ r h => by simp [laws_FnExactPlayAlong.j2] at h⟩
 | k + 1 => by
  obtain ⟨ih0, ih1, ih2⟩ := laws_FnExactPlayAlong.mono_l k; refine ⟨?_, ?_, ?_⟩
  · intro y0 y1 y2 y3 y4 y5 y6 y7 y8 y9 y10
    unfold laws_FnExactPlayAlong.j0
    repeat' first
    | (with_reducible exact ih0 _ _ _ _ _ _ _ _ _ _ _)
    | (with_reducible exact ih1 _ _ _ _ _ _ _ _)
    | (with_reducible exact ih2 _ _ _)
    | (with_reducible exact impl_PlayAlong.mono _ _ _ _ _)
    | (with_reducible exact laws_eqEventS.mono _ _ _)
    | (with_reducible exact laws_eqIntS.mono _ _ _)
    | (with_reducible exact laws_heldEventS.mono _ _ _)
    | (with_reducible exact laws_markEventS.mono _ _ _)
    | (with_reducible exact laws_markIntS.mono _ _ _)
    | (with_reducible exact laws_toEventS.mono _ _)
    | (with_reducible exact laws_toIntS.mono _ _)
    | (with_reducible exact spec_PlayAlong.mono _ _ _ _ _)
    | (with_reducible exact LeO.refl _)
    | (with_reducible exact LeO.none _)
    | (with_reducible refine LeO.ite ?_ ?_)
    | (with_reducible refine LeO.bind ?_ (fun _ => ?_))
    | exact ih0 _ _ _ _ _ _ _ _ _ _ _
    | exact ih1 _ _ _ _ _ _ _ _
    | exact ih2 _ _ _
    | exact impl_PlayAlong.mono _ _ _ _ _
    | exact laws_eqEventS.mono _ _ _
    | exact laws_eqIntS.mono _ _ _
    | exact laws_heldEventS.mono _ _ _
    | exact laws_markEventS.mono _ _ _
    | exact laws_markIntS.mono _ _ _
    | exact laws_toEventS.mono _ _
    | exact laws_toIntS.mono _ _
    | exact spec_PlayAlong.mono _ _ _ _ _
    | exact LeO.none _
    | refine LeO.ite ?_ ?_
    | refine LeO.bind ?_ (fun _ => ?_)
  · intro y0 y1 y2 y3 y4 y5 y6 y7
    unfold laws_FnExactPlayAlong.j1
    repeat' first
    | (with_reducible exact ih0 _ _ _ _ _ _ _ _ _ _ _)
    | (with_reducible exact ih1 _ _ _ _ _ _ _ _)
    | (with_reducible exact ih2 _ _ _)
    | (with_reducible exact impl_PlayAlong.mono _ _ _ _ _)
    | (with_reducible exact laws_eqEventS.mono _ _ _)
    | (with_reducible exact laws_eqIntS.mono _ _ _)
    | (with_reducible exact laws_heldEventS.mono _ _ _)
    | (with_reducible exact laws_markEventS.mono _ _ _)
    | (with_reducible exact laws_markIntS.mono _ _ _)
    | (with_reducible exact laws_toEventS.mono _ _)
    | (with_reducible exact laws_toIntS.mono _ _)
    | (with_reducible exact spec_PlayAlong.mono _ _ _ _ _)
    | (with_reducible exact LeO.refl _)
    | (with_reducible exact LeO.none _)
    | (with_reducible refine LeO.ite ?_ ?_)
    | (with_reducible refine LeO.bind ?_ (fun _ => ?_))
    | exact ih0 _ _ _ _ _ _ _ _ _ _ _
    | exact ih1 _ _ _ _ _ _ _ _
    | exact ih2 _ _ _
    | exact impl_PlayAlong.mono _ _ _ _ _
    | exact laws_eqEventS.mono _ _ _
    | exact laws_eqIntS.mono _ _ _
    | exact laws_heldEventS.mono _ _ _
    | exact laws_markEventS.mono _ _ _
    | exact laws_markIntS.mono _ _ _
    | exact laws_toEventS.mono _ _
    | exact laws_toIntS.mono _ _
    | exact spec_PlayAlong.mono _ _ _ _ _
    | exact LeO.none _
    | refine LeO.ite ?_ ?_
    | refine LeO.bind ?_ (fun _ => ?_)
  · intro y0 y1 y2
    unfold laws_FnExactPlayAlong.j2
    repeat' first
    | (with_reducible exact ih0 _ _ _ _ _ _ _ _ _ _ _)
    | (with_reducible exact ih1 _ _ _ _ _ _ _ _)
    | (with_reducible exact ih2 _ _ _)
    | (with_reducible exact impl_PlayAlong.mono _ _ _ _ _)
    | (with_reducible exact laws_eqEventS.mono _ _ _)
    | (with_reducible exact laws_eqIntS.mono _ _ _)
    | (with_reducible exact laws_heldEventS.mono _ _ _)
    | (with_reducible exact laws_markEventS.mono _ _ _)
    | (with_reducible exact laws_markIntS.mono _ _ _)
    | (with_reducible exact laws_toEventS.mono _ _)
    | (with_reducible exact laws_toIntS.mono _ _)
    | (with_reducible exact spec_PlayAlong.mono _ _ _ _ _)
    | (with_reducible exact LeO.refl _)
    | (with_reducible exact LeO.none _)
    | (with_reducible refine LeO.ite ?_ ?_)
    | (with_reducible refine LeO.bind ?_ (fun _ => ?_))
    | exact ih0 _ _ _ _ _ _ _ _ _ _ _
    | exact ih1 _ _ _ _ _ _ _ _
    | exact ih2 _ _ _
    | exact impl_PlayAlong.mono _ _ _ _ _
    | exact laws_eqEventS.mono _ _ _
    | exact laws_eqIntS.mono _ _ _
    | exact laws_heldEventS.mono _ _ _
    | exact laws_markEventS.mono _ _ _
    | exact laws_markIntS.mono _ _ _
    | exact laws_toEventS.mono _ _
    | exact laws_toIntS.mono _ _
    | exact spec_PlayAlong.mono _ _ _ _ _
    | exact LeO.none _
    | refine LeO.ite ?_ ?_
    | refine LeO.bind ?_ (fun _ => ?_)
theorem laws_FnExactPlayAlong.mono : ∀ a0 a1 a2 a3 k, LeO (laws_FnExactPlayAlong.f k a0 a1 a2 a3) (laws_FnExactPlayAlong.f (k + 1) a0 a1 a2 a3) := by
 intro a0 a1 a2 a3 k; obtain ⟨ih0, ih1, ih2⟩ := laws_FnExactPlayAlong.mono_l k; unfold laws_FnExactPlayAlong.f
 repeat' first
  | (with_reducible exact ih0 _ _ _ _ _ _ _ _ _ _ _)
  | (with_reducible exact ih1 _ _ _ _ _ _ _ _)
  | (with_reducible exact ih2 _ _ _)
  | (with_reducible exact impl_PlayAlong.mono _ _ _ _ _)
  | (with_reducible exact laws_eqEventS.mono _ _ _)
  | (with_reducible exact laws_eqIntS.mono _ _ _)
  | (with_reducible exact laws_heldEventS.mono _ _ _)
  | (with_reducible exact laws_markEventS.mono _ _ _)
  | (with_reducible exact laws_markIntS.mono _ _ _)
  | (with_reducible exact laws_toEventS.mono _ _)
  | (with_reducible exact laws_toIntS.mono _ _)
  | (with_reducible exact spec_PlayAlong.mono _ _ _ _ _)
  | (with_reducible exact LeO.refl _)
  | (with_reducible exact LeO.none _)
  | (with_reducible refine LeO.ite ?_ ?_)
  | (with_reducible refine LeO.bind ?_ (fun _ => ?_))
  | exact ih0 _ _ _ _ _ _ _ _ _ _ _
  | exact ih1 _ _ _ _ _ _ _ _
  | exact ih2 _ _ _
  | exact impl_PlayAlong.mono _ _ _ _ _
  | exact laws_eqEventS.mono _ _ _
  | exact laws_eqIntS.mono _ _ _
  | exact laws_heldEventS.mono _ _ _
  | exact laws_markEventS.mono _ _ _
  | exact laws_markIntS.mono _ _ _
  | exact laws_toEventS.mono _ _
  | exact laws_toIntS.mono _ _
  | exact spec_PlayAlong.mono _ _ _ _ _
  | exact LeO.none _
  | refine LeO.ite ?_ ?_
  | refine LeO.bind ?_ (fun _ => ?_)
set_option maxHeartbeats 8000000 in
set_option maxRecDepth 100000 in
theorem laws_FnExactPlayAlong.calls_true (k : Nat) (A0 : Option Addr) (c0 : Nat) (l0 : List (S83)) (a1 : Int) (A2 : Option Addr) (c2 : Nat) (l2 : List Int) (a3 : Int) (w : World) (hr0 : Kd.C k83 w A0 l0.length l0) (hc0 : l0.length ≤ c0) (hr2 : Kd.C (Kd.int .i64) w A2 l2.length l2) (hc2 : l2.length ≤ c2) (h : laws_FnExactPlayAlong.f k l0 a1 l2 a3 = some true) :
 Calls Try.prog 13 #[.slice A0 l0.length c0, .int .i64 a1, .slice A2 l2.length c2, .int .i64 a3] w fun e w' => e = .returned (.bool true) ∧ Below w.heap.size w w' := by
 have HR0 := q0_17 hr0; have HC0 := q0_17 hc0; clear hr0 hc0; have HR2 := q0_17 hr2; have HC2 := q0_17 hc2; clear hr2 hc2; have HB := q0_17 (Below.refl w.heap.size w); (have H : (if (l2.length : Int) > 1048576 then (some true) else ((laws_szEventS.f l0 1048576).bind fun t397 => (if t397 < 0 then (some true) else ((laws_toEventS.f k l0).bind fun t398 => ((laws_toIntS.f k l2).bind fun t401 => ((spec_PlayAlong.f k t398 a1 t401 a3).bind fun bt404 => ((laws_toEventS.f k l0).bind fun t408 => ((laws_toIntS.f k l2).bind fun t411 => ((impl_PlayAlong.f k t408 a1 t411 a3).bind fun bt414 => ((laws_eqEventS.f k bt414.1 bt404.1).bind fun t418 => (if t418 = true then (laws_FnExactPlayAlong.j0 k l0 a1 l2 a3 bt404.1 bt404.2 t408 t411 bt414.1 bt414.2 (bt414.2 != bt404.2)) else (laws_FnExactPlayAlong.j0 k l0 a1 l2 a3 bt404.1 bt404.2 t408 t411 bt414.1 bt414.2 true)))))))))))) = some true := h); clear h
 by_cases c5 : (l2.length : Int) > 1048576
 · rw [if_pos c5] at H
   (have c5b0 : decide (1048576 < (l2.length : Int)) = true := decide_eq_true c5); (have c5b1 : decide (1048576 < l2.length) = true := decide_eq_true (by omega)); clear c5 H; go_enter Try.func13, Try.ntmps13; (go_wp2); go_ret; (exact ⟨by first | rfl | (simp [errW_none, errW_some] <;> rfl) | (simp [*, errW_none, errW_some] <;> rfl), by exact (qc_17)⟩)
 · rw [if_neg c5] at H
   (have c5b0 : decide (1048576 < (l2.length : Int)) = false := decide_eq_false c5); (have c5b1 : decide (1048576 < l2.length) = false := decide_eq_false (by omega)); clear c5; replace H := Option.bind_eq_some_iff.mp H; obtain ⟨t397, A60, H⟩ := H; (try dsimp only at H); have A6 := q0_17 A60; clear A60
   by_cases c7 : t397 < 0
   · rw [if_pos c7] at H
     (have c7b0 : decide (t397 < 0) = true := decide_eq_true c7); clear c7 H; go_enter Try.func13, Try.ntmps13; (go_wp2_with (first | ((with_reducible refine gate_callee (f := 14) rfl ?_); refine goesL_ (some 26) rfl rfl Try.func14 (by kernel_rfl) rfl #[.slice A0 l0.length c0, .int .i64 1048576] rfl ma ?_; (with_reducible refine (laws_szEventS.calls _ _ l0 1048576 t397 _ ?side1 ?side2 A6.out).mono ?_); (case side1 => repeat (first | exact HR0.out | (with_reducible refine Kd.C_alloc ?_ _) | (with_reducible refine Kd.C_drewN ?_ _) | (with_reducible refine Kd.C_drew ?_))); (case side2 => exact HC0.out); rintro e w' ⟨rfl, ⟨nd, rfl⟩⟩; refine ⟨_, rfl, ?_⟩))); go_ret; (exact ⟨by first | rfl | (simp [errW_none, errW_some] <;> rfl) | (simp [*, errW_none, errW_some] <;> rfl), by exact (qc_17)⟩)
   · rw [if_neg c7] at H
     (have c7b0 : decide (t397 < 0) = false := decide_eq_false c7); clear c7; replace H := Option.bind_eq_some_iff.mp H; obtain ⟨t398, A80, H⟩ := H; (try dsimp only at H); have A8 := q0_17 A80; clear A80; replace H := Option.bind_eq_some_iff.mp H; obtain ⟨t401, A90, H⟩ := H; (try dsimp only at H); have A9 := q0_17 A90; clear A90; replace H := Option.bind_eq_some_iff.mp H; obtain ⟨⟨t404, t405⟩, A100, H⟩ := H; (try dsimp only at H); have A10 := q0_17 A100; clear A100; replace H := Option.bind_eq_some_iff.mp H; obtain ⟨t408, A110, H⟩ := H; (try dsimp only at H); have A11 := q0_17 A110; clear A110; replace H := Option.bind_eq_some_iff.mp H; obtain ⟨t411, A120, H⟩ := H; (try dsimp only at H); have A12 := q0_17 A120; clear A120; replace H := Option.bind_eq_some_iff.mp H; obtain ⟨⟨t414, t415⟩, A130, H⟩ := H; (try dsimp only at H); have A13 := q0_17 A130; clear A130; have HC14 := q0_17 H; clear H; go_enter Try.func13, Try.ntmps13
     (go_upto_region 11 with (first | ((with_reducible refine gate_callee (f := 14) rfl ?_); refine goesL_ (some 26) rfl rfl Try.func14 (by kernel_rfl) rfl #[.slice A0 l0.length c0, .int .i64 1048576] rfl ma ?_; (with_reducible refine (laws_szEventS.calls _ _ l0 1048576 t397 _ ?side1 ?side2 A6.out).mono ?_); (case side1 => repeat (first | exact HR0.out | (with_reducible refine Kd.C_alloc ?_ _) | (with_reducible refine Kd.C_drewN ?_ _) | (with_reducible refine Kd.C_drew ?_))); (case side2 => exact HC0.out); rintro e w' ⟨rfl, ⟨nd, rfl⟩⟩; refine ⟨_, rfl, ?_⟩) | ((with_reducible refine gate_callee (f := 16) rfl ?_); refine goesL_ (some 31) rfl rfl Try.func16 (by kernel_rfl) rfl #[.slice A0 l0.length c0] rfl ma ?_; (with_reducible refine (laws_toEventS.calls k _ _ l0 t398 _ ?side1 ?side2 A8.out).mono ?_); (case side1 => repeat (first | exact HR0.out | (with_reducible refine Kd.C_alloc ?_ _) | (with_reducible refine Kd.C_drewN ?_ _) | (with_reducible refine Kd.C_drew ?_))); (case side2 => exact HC0.out); rintro e w15 ⟨v399, rfl, ho0, hb⟩; refine ⟨_, rfl, ?_⟩; have n0_ := q0_17 (Kd.R_lower ho0 (below_size (qc_17))); have n1_ := q0_17 (below_step (qc_17) hb); clear HB; have q4 := n0_; have HB := n1_; clear n0_ n1_; (try clear hb); (try clear hb2); (try clear hk); (try clear hi); (try clear ho0)) | ((with_reducible refine gate_callee (f := 35) rfl ?_); refine goesL_ (some 34) rfl rfl Try.func35 (by kernel_rfl) rfl #[.slice A2 l2.length c2] rfl ma ?_; (with_reducible refine (laws_toIntS.calls k _ _ l2 t401 _ ?side1 ?side2 A9.out).mono ?_); (case side1 => exact ca (Kd.C_below HR2.out HB.out)); (case side2 => exact HC2.out); rintro e w16 ⟨v402, rfl, ho0, hb⟩; refine ⟨_, rfl, ?_⟩; have n0_ := q0_17 (Kd.R_below (ra q4.out) hb); have n1_ := q0_17 (Kd.R_lower ho0 (below_size (qc_17))); have n2_ := q0_17 (below_step (qc_17) hb); clear q4; clear HB; have q4 := n0_; have q6 := n1_; have HB := n2_; clear n0_ n1_ n2_; (try clear hb); (try clear hb2); (try clear hk); (try clear hi); (try clear ho0); obtain ⟨qr, qs, eo17⟩ := Kd.R_slice q4.out; subst eo17; obtain ⟨qt, qu, eo18⟩ := Kd.R_slice q6.out; subst eo18) | ((with_reducible refine gate_callee (f := 60) rfl ?_); refine goesL_ (some 36) rfl rfl Try.func60 (by kernel_rfl) rfl #[.slice qr t398.length qs, .int .i64 a1, .slice qt t401.length qu, .int .i64 a3] rfl ma ?_; (with_reducible refine (spec_PlayAlong.calls k _ _ t398 a1 _ _ t401 a3 t404 t405 _ ?side1 ?side2 ?side3 ?side4 A10.out).mono ?_); (case side1 => exact ca (Kd.R_reads' q4.out).2.2); (case side2 => exact (Kd.R_reads' q4.out).2.1); (case side3 => exact ca (Kd.R_reads' q6.out).2.2); (case side4 => exact (Kd.R_reads' q6.out).2.1); rintro e w19 ⟨v406, rfl, ho0, hb⟩; refine ⟨_, rfl, ?_⟩; have n0_ := q0_17 (Kd.R_elder' (ra q4.out) (Kd.R_base ho0) hb); have n1_ := q0_17 (Kd.R_below (ra q6.out) hb); have n2_ := q0_17 (Kd.R_lower (Kd.R_new' ho0 (Kd.R_lt (ra q4.out))) (below_size (qc_17))); have n3_ := q0_17 (below_step (qc_17) hb); clear q4; clear q6; clear HB; have q4 := n0_; have q6 := n1_; have q7 := n2_; have HB := n3_; clear n0_ n1_ n2_ n3_; (try clear hb); (try clear hb2); (try clear hk); (try clear hi); (try clear ho0)) | ((with_reducible refine gate_callee (f := 16) rfl ?_); refine goesL_ (some 40) rfl rfl Try.func16 (by kernel_rfl) rfl #[.slice A0 l0.length c0] rfl ma ?_; (with_reducible refine (laws_toEventS.calls k _ _ l0 t408 _ ?side1 ?side2 A11.out).mono ?_); (case side1 => exact ca (Kd.C_below HR0.out HB.out)); (case side2 => exact HC0.out); rintro e w20 ⟨v409, rfl, ho0, hb⟩; refine ⟨_, rfl, ?_⟩; have n0_ := q0_17 (Kd.R_elder' (ra q4.out) (Kd.R_base ho0) hb); have n1_ := q0_17 (Kd.R_below (ra q6.out) hb); have n2_ := q0_17 (Kd.R_elder' (ra q7.out) (Kd.R_base ho0) hb); have n3_ := q0_17 (Kd.R_lower (Kd.R_new' (Kd.R_new' ho0 (Kd.R_lt (ra q4.out))) (Kd.R_lt (ra q7.out))) (below_size (qc_17))); have n4_ := q0_17 (below_step (qc_17) hb); clear q4; clear q6; clear q7; clear HB; have q4 := n0_; have q6 := n1_; have q7 := n2_; have q9 := n3_; have HB := n4_; clear n0_ n1_ n2_ n3_ n4_; (try clear hb); (try clear hb2); (try clear hk); (try clear hi); (try clear ho0)) | ((with_reducible refine gate_callee (f := 35) rfl ?_); refine goesL_ (some 42) rfl rfl Try.func35 (by kernel_rfl) rfl #[.slice A2 l2.length c2] rfl ma ?_; (with_reducible refine (laws_toIntS.calls k _ _ l2 t411 _ ?side1 ?side2 A12.out).mono ?_); (case side1 => exact ca (Kd.C_below HR2.out HB.out)); (case side2 => exact HC2.out); rintro e w21 ⟨v412, rfl, ho0, hb⟩; refine ⟨_, rfl, ?_⟩; have n0_ := q0_17 (Kd.R_below (ra q4.out) hb); have n1_ := q0_17 (Kd.R_elder' (ra q6.out) (Kd.R_base ho0) hb); have n2_ := q0_17 (Kd.R_below (ra q7.out) hb); have n3_ := q0_17 (Kd.R_below (ra q9.out) hb); have n4_ := q0_17 (Kd.R_lower (Kd.R_new' ho0 (Kd.R_lt (ra q6.out))) (below_size (qc_17))); have n5_ := q0_17 (below_step (qc_17) hb); clear q4; clear q6; clear q7; clear q9; clear HB; have q4 := n0_; have q6 := n1_; have q7 := n2_; have q9 := n3_; have qd := n4_; have HB := n5_; clear n0_ n1_ n2_ n3_ n4_ n5_; (try clear hb); (try clear hb2); (try clear hk); (try clear hi); (try clear ho0); obtain ⟨qe, qf, eo22⟩ := Kd.R_slice q9.out; subst eo22; obtain ⟨qj, qk, eo23⟩ := Kd.R_slice qd.out; subst eo23) | ((with_reducible refine gate_callee (f := 61) rfl ?_); refine goesL_ (some 48) rfl rfl Try.func61 (by kernel_rfl) rfl #[.slice qe t408.length qf, .int .i64 a1, .slice qj t411.length qk, .int .i64 a3] rfl ma ?_; (with_reducible refine (impl_PlayAlong.calls k _ _ t408 a1 _ _ t411 a3 t414 t415 _ ?side1 ?side2 ?side3 ?side4 A13.out).mono ?_); (case side1 => exact ca (Kd.R_reads' q9.out).2.2); (case side2 => exact (Kd.R_reads' q9.out).2.1); (case side3 => exact ca (Kd.R_reads' qd.out).2.2); (case side4 => exact (Kd.R_reads' qd.out).2.1); rintro e w24 ⟨v416, rfl, ho0, hb⟩; refine ⟨_, rfl, ?_⟩; have n0_ := q0_17 (Kd.R_elder' (ra q4.out) (Kd.R_base ho0) hb); have n1_ := q0_17 (Kd.R_below (ra q6.out) hb); have n2_ := q0_17 (Kd.R_elder' (ra q7.out) (Kd.R_base ho0) hb); have n3_ := q0_17 (Kd.R_elder' (ra q9.out) (Kd.R_base ho0) hb); have n4_ := q0_17 (Kd.R_below (ra qd.out) hb); have n5_ := q0_17 (Kd.R_lower (Kd.R_new' (Kd.R_new' (Kd.R_new' ho0 (Kd.R_lt (ra q4.out))) (Kd.R_lt (ra q7.out))) (Kd.R_lt (ra q9.out))) (below_size (qc_17))); have n6_ := q0_17 (below_step (qc_17) hb); clear q4; clear q6; clear q7; clear q9; clear qd; clear HB; have q4 := n0_; have q6 := n1_; have q7 := n2_; have q9 := n3_; have qd := n4_; have qh := n5_; have HB := n6_; clear n0_ n1_ n2_ n3_ n4_ n5_ n6_; (try clear hb); (try clear hb2); (try clear hk); (try clear hi); (try clear ho0))))
     ((try simp only [Act.put, List.setIfInBounds_toArray, List.set_cons_zero, List.set_cons_succ])); (go_cut [59] (fun v59 wc => ∃ (kq : Nat) (x59_13 : Bool), v59 = .bool x59_13 ∧ Aside0 (laws_FnExactPlayAlong.j0 kq l0 a1 l2 a3 t404 t405 t408 t411 t414 t415 x59_13 = some true) ∧ Aside0 (kq ≤ k) ∧ Aside0 (Kd.R k81 81 wc w.heap.size (fun k_ => some k_ ≠ ((.slice qe t408.length qf) : Value).ownBlock ∧ some k_ ≠ (v416 : Value).ownBlock) v406 t404) ∧ Aside0 (Kd.R k81 81 wc w.heap.size (fun k_ => some k_ ≠ (v406 : Value).ownBlock ∧ some k_ ≠ (v416 : Value).ownBlock) (.slice qe t408.length qf) t408) ∧ Aside0 (Kd.R (Kd.int .i64) 3 wc w.heap.size (fun _ => True) (.slice qj t411.length qk) t411) ∧ Aside0 (Kd.R k81 81 wc w.heap.size (fun k_ => some k_ ≠ (v406 : Value).ownBlock ∧ some k_ ≠ ((.slice qe t408.length qf) : Value).ownBlock) v416 t414) ∧ Aside0 (Below w.heap.size w wc)))
     case first =>
      have H := HC14.out; clear HC14; replace H := Option.bind_eq_some_iff.mp H; obtain ⟨t418, A250, H⟩ := H; (try dsimp only at H); have A25 := q0_17 A250; clear A250
      by_cases c26 : t418 = true
      · subst c26
        have H1 := H; rw [if_pos rfl] at H1; clear H; have H := H1; clear H1; (have H' := q0_17 H); clear H; obtain ⟨qv, qw, eo27⟩ := Kd.R_slice qh.out; subst eo27; obtain ⟨qx, qy, eo28⟩ := Kd.R_slice q7.out; subst eo28; (go_wp2_with (first | ((with_reducible refine gate_callee (f := 19) rfl ?_); refine goesL_ (some 53) rfl rfl Try.func19 (by kernel_rfl) rfl #[.slice qv t414.length qw, .slice qx t404.length qy] rfl ma ?_; (with_reducible refine (laws_eqEventS.calls k _ _ t414 _ _ t404 true _ ?side1 ?side2 ?side3 ?side4 A25.out).mono ?_); (case side1 => exact ca (Kd.R_reads' qh.out).2.2); (case side2 => exact (Kd.R_reads' qh.out).2.1); (case side3 => exact ca (Kd.R_reads' q7.out).2.2); (case side4 => exact (Kd.R_reads' q7.out).2.1); rintro e w29 ⟨rfl, hb⟩; refine ⟨_, rfl, ?_⟩; have n0_ := q0_17 (Kd.R_below (ra q4.out) hb); have n1_ := q0_17 (Kd.R_below (ra q6.out) hb); have n2_ := q0_17 (Kd.R_below (ra q7.out) hb); have n3_ := q0_17 (Kd.R_below (ra q9.out) hb); have n4_ := q0_17 (Kd.R_below (ra qd.out) hb); have n5_ := q0_17 (Kd.R_below (ra qh.out) hb); have n6_ := q0_17 (below_step (qc_17) hb); clear q4; clear q6; clear q7; clear q9; clear qd; clear qh; clear HB; have q4 := n0_; have q6 := n1_; have q7 := n2_; have q9 := n3_; have qd := n4_; have qh := n5_; have HB := n6_; clear n0_ n1_ n2_ n3_ n4_ n5_ n6_; (try clear hb); (try clear hb2); (try clear hk); (try clear hi)))); (go_meet)
        case rel => exact ⟨_, ((t415 != t405)), (by first | rfl | (simp; done) | (simp [*]; done)), H', ⟨by first | omega | exact Nat.le_refl _⟩, ⟨by refine ra ?_; exact Kd.R_mono q7.out (fun _ hk => ⟨hk.1.2, hk.2⟩)⟩, ⟨by refine ra ?_; exact Kd.R_mono q9.out (fun _ hk => ⟨hk.1.2, hk.2⟩)⟩, ⟨by refine ra ?_; exact Kd.R_mono qd.out (fun _ hk => trivial)⟩, ⟨by refine ra ?_; exact Kd.R_mono qh.out (fun _ hk => ⟨hk.1.2, hk.2⟩)⟩, ⟨by exact (qc_17)⟩⟩
      · replace c26 := Bool.eq_false_iff.mpr c26
        subst c26; (have H1 : (laws_FnExactPlayAlong.j0 k l0 a1 l2 a3 t404 t405 t408 t411 t414 t415 true) = some true := by rw [if_neg (show ¬ (false = true) by decide)] at H; exact H); clear H; have H := H1; clear H1; (exact absurd H (by cases k <;> simp [laws_FnExactPlayAlong.j0]))
     case rest =>
      clear HC14; (try clear c1); (try clear c2); (try clear p2); (try clear c3); (try clear c5); (try clear c5b0); (try clear c5b1); (try clear c6); (try clear c7); (try clear c7b0); (try clear c13); (try clear c14); (try clear c16); (try clear c19); (try clear c26); obtain ⟨kq, x59_13, rfl, HA, HJ13, q2, q5, q3, q1, HB⟩ := hcut
      cases kq with
      | zero => exact absurd HA.out (by simp [laws_FnExactPlayAlong.j0])
      | succ kj13 =>
       have H := HA.out; clear HA; (simp only [laws_FnExactPlayAlong.j0] at H)
       by_cases c33 : x59_13 = true
       · subst c33
         have H1 := H; rw [if_pos rfl] at H1; clear H; have H := H1; clear H1; exact absurd H (by simp)
       · replace c33 := Bool.eq_false_iff.mpr c33
         subst c33; (have H1 : ((laws_toEventS.f kj13 l0).bind fun t419 => ((laws_eqEventS.f kj13 t408 t419).bind fun t422 => (if t422 = true then ((laws_toIntS.f kj13 l2).bind fun t423 => ((laws_eqIntS.f kj13 t411 t423).bind fun t426 => (if t426 = true then ((laws_markEventS.f kj13 t408 1).bind fun bt427 => ((laws_markIntS.f kj13 t411 bt427.1).bind fun bt429 => (if bt429.1 < 0 then (laws_FnExactPlayAlong.j1 kj13 l0 a1 l2 a3 t404 t405 t414 true) else ((laws_eqEventS.f kj13 t414 t404).bind fun t431 => (if t431 = true then (laws_FnExactPlayAlong.j1 kj13 l0 a1 l2 a3 t404 t405 t414 (t415 != t405)) else (laws_FnExactPlayAlong.j1 kj13 l0 a1 l2 a3 t404 t405 t414 true)))))) else (some false)))) else (some false)))) = some true := by rw [if_neg (show ¬ (false = true) by decide)] at H; exact H); clear H; have H := H1; clear H1; replace H := Option.bind_eq_some_iff.mp H; obtain ⟨t419, A340, H⟩ := H; (try dsimp only at H); have A34 := q0_17 A340; clear A340; replace H := Option.bind_eq_some_iff.mp H; obtain ⟨t422, A350, H⟩ := H; (try dsimp only at H); have A35 := q0_17 A350; clear A350
         by_cases c36 : t422 = true
         · subst c36
           have H1 := H; rw [if_pos rfl] at H1; clear H; have H := H1; clear H1; replace H := Option.bind_eq_some_iff.mp H; obtain ⟨t423, A370, H⟩ := H; (try dsimp only at H); have A37 := q0_17 A370; clear A370; replace H := Option.bind_eq_some_iff.mp H; obtain ⟨t426, A380, H⟩ := H; (try dsimp only at H); have A38 := q0_17 A380; clear A380
           by_cases c39 : t426 = true
           · subst c39
             have H1 := H; rw [if_pos rfl] at H1; clear H; have H := H1; clear H1; replace H := Option.bind_eq_some_iff.mp H; obtain ⟨⟨t427, t428⟩, A400, H⟩ := H; (try dsimp only at H); have A40 := q0_17 A400; clear A400; replace H := Option.bind_eq_some_iff.mp H; obtain ⟨⟨t429, t430⟩, A410, H⟩ := H; (try dsimp only at H); have A41 := q0_17 A410; clear A410; have HC42 := q0_17 H; clear H
             (go_upto_region 20 with (first | ((with_reducible refine gate_callee (f := 16) rfl ?_); refine goesL_ (some 62) rfl rfl Try.func16 (by kernel_rfl) rfl #[.slice A0 l0.length c0] rfl ma ?_; (with_reducible refine (laws_toEventS.calls kj13 _ _ l0 t419 _ ?side1 ?side2 A34.out).mono ?_); (case side1 => exact ca (Kd.C_below HR0.out HB.out)); (case side2 => exact HC0.out); rintro e w43 ⟨v420, rfl, ho0, hb⟩; refine ⟨_, rfl, ?_⟩; have n0_ := q0_17 (Kd.R_elder' (ra q2.out) (Kd.R_base ho0) hb); have n1_ := q0_17 (Kd.R_elder' (ra q5.out) (Kd.R_base ho0) hb); have n2_ := q0_17 (Kd.R_below (ra q3.out) hb); have n3_ := q0_17 (Kd.R_elder' (ra q1.out) (Kd.R_base ho0) hb); have n4_ := q0_17 (Kd.R_lower (Kd.R_new' (Kd.R_new' (Kd.R_new' ho0 (Kd.R_lt (ra q2.out))) (Kd.R_lt (ra q5.out))) (Kd.R_lt (ra q1.out))) (below_size (qc_17))); have n5_ := q0_17 (below_step (qc_17) hb); clear q2; clear q5; clear q3; clear q1; clear HB; have q2 := n0_; have q5 := n1_; have q3 := n2_; have q1 := n3_; have q8 := n4_; have HB := n5_; clear n0_ n1_ n2_ n3_ n4_ n5_; (try clear hb); (try clear hb2); (try clear hk); (try clear hi); (try clear ho0); obtain ⟨qn, qo, eo44⟩ := Kd.R_slice q8.out; subst eo44) | ((with_reducible refine gate_callee (f := 19) rfl ?_); refine goesL_ (some 63) rfl rfl Try.func19 (by kernel_rfl) rfl #[.slice qe t408.length qf, .slice qn t419.length qo] rfl ma ?_; (with_reducible refine (laws_eqEventS.calls kj13 _ _ t408 _ _ t419 true _ ?side1 ?side2 ?side3 ?side4 A35.out).mono ?_); (case side1 => exact ca (Kd.R_reads' q5.out).2.2); (case side2 => exact (Kd.R_reads' q5.out).2.1); (case side3 => exact ca (Kd.R_reads' q8.out).2.2); (case side4 => exact (Kd.R_reads' q8.out).2.1); rintro e w45 ⟨rfl, hb⟩; refine ⟨_, rfl, ?_⟩; have n0_ := q0_17 (Kd.R_below (ra q2.out) hb); have n1_ := q0_17 (Kd.R_below (ra q5.out) hb); have n2_ := q0_17 (Kd.R_below (ra q3.out) hb); have n3_ := q0_17 (Kd.R_below (ra q1.out) hb); have n4_ := q0_17 (Kd.R_below (ra q8.out) hb); have n5_ := q0_17 (below_step (qc_17) hb); clear q2; clear q5; clear q3; clear q1; clear q8; clear HB; have q2 := n0_; have q5 := n1_; have q3 := n2_; have q1 := n3_; have q8 := n4_; have HB := n5_; clear n0_ n1_ n2_ n3_ n4_ n5_; (try clear hb); (try clear hb2); (try clear hk); (try clear hi)) | ((with_reducible refine gate_callee (f := 35) rfl ?_); refine goesL_ (some 67) rfl rfl Try.func35 (by kernel_rfl) rfl #[.slice A2 l2.length c2] rfl ma ?_; (with_reducible refine (laws_toIntS.calls kj13 _ _ l2 t423 _ ?side1 ?side2 A37.out).mono ?_); (case side1 => exact ca (Kd.C_below HR2.out HB.out)); (case side2 => exact HC2.out); rintro e w46 ⟨v424, rfl, ho0, hb⟩; refine ⟨_, rfl, ?_⟩; have n0_ := q0_17 (Kd.R_below (ra q2.out) hb); have n1_ := q0_17 (Kd.R_below (ra q5.out) hb); have n2_ := q0_17 (Kd.R_elder' (ra q3.out) (Kd.R_base ho0) hb); have n3_ := q0_17 (Kd.R_below (ra q1.out) hb); have n4_ := q0_17 (Kd.R_below (ra q8.out) hb); have n5_ := q0_17 (Kd.R_lower (Kd.R_new' ho0 (Kd.R_lt (ra q3.out))) (below_size (qc_17))); have n6_ := q0_17 (below_step (qc_17) hb); clear q2; clear q5; clear q3; clear q1; clear q8; clear HB; have q2 := n0_; have q5 := n1_; have q3 := n2_; have q1 := n3_; have q8 := n4_; have qb := n5_; have HB := n6_; clear n0_ n1_ n2_ n3_ n4_ n5_ n6_; (try clear hb); (try clear hb2); (try clear hk); (try clear hi); (try clear ho0); obtain ⟨qp, qq, eo47⟩ := Kd.R_slice qb.out; subst eo47) | ((with_reducible refine gate_callee (f := 18) rfl ?_); refine goesL_ (some 68) rfl rfl Try.func18 (by kernel_rfl) rfl #[.slice qj t411.length qk, .slice qp t423.length qq] rfl ma ?_; (with_reducible refine (laws_eqIntS.calls kj13 _ _ t411 _ _ t423 true _ ?side1 ?side2 ?side3 ?side4 A38.out).mono ?_); (case side1 => exact ca (Kd.R_reads' q3.out).2.2); (case side2 => exact (Kd.R_reads' q3.out).2.1); (case side3 => exact ca (Kd.R_reads' qb.out).2.2); (case side4 => exact (Kd.R_reads' qb.out).2.1); rintro e w' ⟨rfl, ⟨nd, rfl⟩⟩; refine ⟨_, rfl, ?_⟩) | ((with_reducible refine gate_callee (f := 20) rfl ?_); refine goesL_ (some 72) rfl rfl Try.func20 (by kernel_rfl) rfl #[.slice qe t408.length qf, .int .i64 1] rfl ma ?_; (with_reducible refine (laws_markEventS.calls kj13 (fun k_ => some k_ = (.slice qe t408.length qf : Value).ownBlock) (.slice qe t408.length qf) t408 1 t427 t428 w _ ?side1 ?side2 A40.out).mono ?_); (case side1 => exact (qc_17)); (case side2 => exact Kd.R_tight rfl q5.out); rintro e w48 ⟨rfl, hy0, hb, hkp⟩; refine ⟨_, rfl, ?_⟩; have n0_ := q0_17 (Kd.R_mono (ok' := fun k_ => some k_ ≠ (.slice qe t408.length qf : Value).ownBlock ∧ some k_ ≠ (v416 : Value).ownBlock ∧ some k_ ≠ (.slice qn t419.length qo : Value).ownBlock) (Kd.R_keptB (q2.out) hkp (fun k_ hk_ hs_ => absurd hs_ (pq hk_))) pk); have n1_ := q0_17 (Kd.R_reok rfl hy0 (fun k_ e_ => q5.out.1 k_ e_)); have n2_ := q0_17 (Kd.R_mono (ok' := fun k_ => some k_ ≠ (.slice qp t423.length qq : Value).ownBlock) (Kd.R_keptB ((Kd.R_apart' q3.out (Kd.R_typed q5.out) (by decide))) hkp (fun k_ hk_ hs_ => absurd hs_ (pq hk_))) (fun k_ hk_ => hk_.1.1.2)); have n3_ := q0_17 (Kd.R_mono (ok' := fun k_ => some k_ ≠ (v406 : Value).ownBlock ∧ some k_ ≠ (.slice qe t408.length qf : Value).ownBlock ∧ some k_ ≠ (.slice qn t419.length qo : Value).ownBlock) (Kd.R_keptB (q1.out) hkp (fun k_ hk_ hs_ => absurd hs_ (pq hk_))) pk); have n4_ := q0_17 (Kd.R_mono (ok' := fun k_ => some k_ ≠ (v406 : Value).ownBlock ∧ some k_ ≠ (.slice qe t408.length qf : Value).ownBlock ∧ some k_ ≠ (v416 : Value).ownBlock) (Kd.R_keptB (q8.out) hkp (fun k_ hk_ hs_ => absurd hs_ (pq hk_))) pk); have n5_ := q0_17 (Kd.R_mono (ok' := fun k_ => some k_ ≠ (.slice qj t411.length qk : Value).ownBlock) (Kd.R_keptB ((Kd.R_apart' qb.out (Kd.R_typed q5.out) (by decide))) hkp (fun k_ hk_ hs_ => absurd hs_ (pq hk_))) (fun k_ hk_ => hk_.1.1.2)); have n6_ := q0_17 (hb); clear q2; clear q5; clear q3; clear q1; clear q8; clear qb; clear HB; have q2 := n0_; have q5 := n1_; have q3 := n2_; have q1 := n3_; have q8 := n4_; have qb := n5_; have HB := n6_; clear n0_ n1_ n2_ n3_ n4_ n5_ n6_; (try clear hb); (try clear hkp); (try clear hy0)) | ((with_reducible refine gate_callee (f := 21) rfl ?_); refine goesL_ (some 75) rfl rfl Try.func21 (by kernel_rfl) rfl #[.slice qj t411.length qk, .int .i64 t427] rfl ma ?_; (with_reducible refine (laws_markIntS.calls kj13 (fun k_ => some k_ = (.slice qj t411.length qk : Value).ownBlock) (.slice qj t411.length qk) t411 t427 t429 t430 w _ ?side1 ?side2 A41.out).mono ?_); (case side1 => exact (qc_17)); (case side2 => exact Kd.R_tight rfl q3.out); rintro e w49 ⟨rfl, hy0, hb, hkp⟩; refine ⟨_, rfl, ?_⟩; have n0_ := q0_17 (Kd.R_mono (ok' := fun k_ => some k_ ≠ (.slice qe t408.length qf : Value).ownBlock ∧ some k_ ≠ (v416 : Value).ownBlock ∧ some k_ ≠ (.slice qn t419.length qo : Value).ownBlock) (Kd.R_keptB ((Kd.R_apart' q2.out (Kd.R_typed q3.out) (by decide))) hkp (fun k_ hk_ hs_ => absurd hs_ (pq hk_))) pk); have n1_ := q0_17 (Kd.R_mono (ok' := fun k_ => some k_ ≠ (v406 : Value).ownBlock ∧ some k_ ≠ (v416 : Value).ownBlock ∧ some k_ ≠ (.slice qn t419.length qo : Value).ownBlock) (Kd.R_keptB ((Kd.R_apart' q5.out (Kd.R_typed q3.out) (by decide))) hkp (fun k_ hk_ hs_ => absurd hs_ (pq hk_))) pk); have n2_ := q0_17 (Kd.R_reok rfl hy0 (fun k_ e_ => q3.out.1 k_ e_)); have n3_ := q0_17 (Kd.R_mono (ok' := fun k_ => some k_ ≠ (v406 : Value).ownBlock ∧ some k_ ≠ (.slice qe t408.length qf : Value).ownBlock ∧ some k_ ≠ (.slice qn t419.length qo : Value).ownBlock) (Kd.R_keptB ((Kd.R_apart' q1.out (Kd.R_typed q3.out) (by decide))) hkp (fun k_ hk_ hs_ => absurd hs_ (pq hk_))) pk); have n4_ := q0_17 (Kd.R_mono (ok' := fun k_ => some k_ ≠ (v406 : Value).ownBlock ∧ some k_ ≠ (.slice qe t408.length qf : Value).ownBlock ∧ some k_ ≠ (v416 : Value).ownBlock) (Kd.R_keptB ((Kd.R_apart' q8.out (Kd.R_typed q3.out) (by decide))) hkp (fun k_ hk_ hs_ => absurd hs_ (pq hk_))) pk); have n5_ := q0_17 (Kd.R_mono (ok' := fun k_ => some k_ ≠ (.slice qj t411.length qk : Value).ownBlock) (Kd.R_keptB (qb.out) hkp (fun k_ hk_ hs_ => absurd hs_ (pq hk_))) (fun k_ hk_ => hk_.1)); have n6_ := q0_17 (hb); clear q2; clear q5; clear q3; clear q1; clear q8; clear qb; clear HB; have q2 := n0_; have q5 := n1_; have q3 := n2_; have q1 := n3_; have q8 := n4_; have qb := n5_; have HB := n6_; clear n0_ n1_ n2_ n3_ n4_ n5_ n6_; (try clear hb); (try clear hkp); (try clear hy0))))
             ((try simp only [Act.put, List.setIfInBounds_toArray, List.set_cons_zero, List.set_cons_succ])); (go_cut [88] (fun v88 wc => ∃ (kq : Nat) (x88_41 : Bool), v88 = .bool x88_41 ∧ Aside0 (laws_FnExactPlayAlong.j1 kq l0 a1 l2 a3 t404 t405 t414 x88_41 = some true) ∧ Aside0 (kq ≤ kj13) ∧ Aside0 (Kd.R k81 81 wc w.heap.size (fun k_ => some k_ ≠ (v416 : Value).ownBlock) v406 t404) ∧ Aside0 (Kd.R k81 81 wc w.heap.size (fun k_ => some k_ ≠ (v406 : Value).ownBlock) v416 t414) ∧ Aside0 (Below w.heap.size w wc)))
             case first =>
              have H := HC42.out; clear HC42
              by_cases c50 : t429 < 0
              · rw [if_pos c50] at H
                (have c50b0 : decide (t429 < 0) = true := decide_eq_true c50); clear c50; ((first | rw [c50b0] | (simp only [i64_w, i32_w]; rw [c50b0]) | skip)); (exact absurd H (by cases kj13 <;> simp [laws_FnExactPlayAlong.j1]))
              · rw [if_neg c50] at H
                (have c50b0 : decide (t429 < 0) = false := decide_eq_false c50); clear c50; ((first | rw [c50b0] | (simp only [i64_w, i32_w]; rw [c50b0]) | skip)); replace H := Option.bind_eq_some_iff.mp H; obtain ⟨t431, A510, H⟩ := H; (try dsimp only at H); have A51 := q0_17 A510; clear A510
                by_cases c52 : t431 = true
                · subst c52
                  have H1 := H; rw [if_pos rfl] at H1; clear H; have H := H1; clear H1; (have H' := q0_17 H); clear H; obtain ⟨z07, z08, eo53⟩ := Kd.R_slice q1.out; subst eo53; obtain ⟨z09, z0a, eo54⟩ := Kd.R_slice q2.out; subst eo54; (go_wp2_with (first | (go_at_call 19; (with_reducible refine (laws_eqEventS.calls kj13 _ _ t414 _ _ t404 true _ ?side1 ?side2 ?side3 ?side4 A51.out).mono ?_); (case side1 => exact ca (Kd.R_reads' q1.out).2.2); (case side2 => exact (Kd.R_reads' q1.out).2.1); (case side3 => exact ca (Kd.R_reads' q2.out).2.2); (case side4 => exact (Kd.R_reads' q2.out).2.1); rintro e w55 ⟨rfl, hb⟩; have n0_ := q0_17 (Kd.R_below (ra q2.out) hb); have n1_ := q0_17 (Kd.R_below (ra q5.out) hb); have n2_ := q0_17 (Kd.R_below (ra q3.out) hb); have n3_ := q0_17 (Kd.R_below (ra q1.out) hb); have n4_ := q0_17 (Kd.R_below (ra q8.out) hb); have n5_ := q0_17 (Kd.R_below (ra qb.out) hb); have n6_ := q0_17 (below_step (qc_17) hb); clear q2; clear q5; clear q3; clear q1; clear q8; clear qb; clear HB; have q2 := n0_; have q5 := n1_; have q3 := n2_; have q1 := n3_; have q8 := n4_; have qb := n5_; have HB := n6_; clear n0_ n1_ n2_ n3_ n4_ n5_ n6_; (try clear hb); (try clear hb2); (try clear hk); (try clear hi)))); (go_meet)
                  case rel => exact ⟨_, ((t415 != t405)), (by first | rfl | (simp; done) | (simp [*]; done)), H', ⟨by have := HJ13.out; first | omega | exact Nat.le_refl _⟩, ⟨by refine ra ?_; exact Kd.R_mono q2.out (fun _ hk => hk.2.1)⟩, ⟨by refine ra ?_; exact Kd.R_mono q1.out (fun _ hk => hk.1)⟩, ⟨by exact (qc_17)⟩⟩
                · replace c52 := Bool.eq_false_iff.mpr c52
                  subst c52; (have H1 : (laws_FnExactPlayAlong.j1 kj13 l0 a1 l2 a3 t404 t405 t414 true) = some true := by rw [if_neg (show ¬ (false = true) by decide)] at H; exact H); clear H; have H := H1; clear H1; (exact absurd H (by cases kj13 <;> simp [laws_FnExactPlayAlong.j1]))
             case rest =>
              clear HC42; (try clear c1); (try clear c2); (try clear p2); (try clear c3); (try clear c5); (try clear c5b0); (try clear c5b1); (try clear c6); (try clear c7); (try clear c7b0); (try clear c13); (try clear c14); (try clear c16); (try clear c18); (try clear c19); (try clear c20); (try clear c21); (try clear c26); (try clear c33); (try clear c35); (try clear c36); (try clear c39); (try clear c50); (try clear c50b0); (try clear c52); (try clear p2); obtain ⟨kq, x88_41, rfl, HA, HJ41, q2, q1, HB⟩ := hcut
              cases kq with
              | zero => exact absurd HA.out (by simp [laws_FnExactPlayAlong.j1])
              | succ kj41 =>
               have H := HA.out; clear HA; (simp only [laws_FnExactPlayAlong.j1] at H)
               by_cases c59 : x88_41 = true
               · subst c59
                 have H1 := H; rw [if_pos rfl] at H1; clear H; have H := H1; clear H1; exact absurd H (by simp)
               · replace c59 := Bool.eq_false_iff.mpr c59
                 subst c59; (have H1 : ((laws_markEventS.f kj41 t414 1).bind fun bt432 => ((laws_heldEventS.f kj41 bt432.2 1).bind fun t434 => (if t434 < 0 then (some false) else (if t434 = bt432.1 then ((laws_toEventS.f kj41 l0).bind fun t435 => ((laws_toIntS.f kj41 l2).bind fun t438 => ((impl_PlayAlong.f kj41 t435 a1 t438 a3).bind fun bt441 => ((laws_eqEventS.f kj41 bt441.1 t404).bind fun t445 => (if t445 = true then (laws_FnExactPlayAlong.j2 kj41 bt432.2 bt432.1 (bt441.2 != t405)) else (laws_FnExactPlayAlong.j2 kj41 bt432.2 bt432.1 true)))))) else (some false))))) = some true := by rw [if_neg (show ¬ (false = true) by decide)] at H; exact H); clear H; have H := H1; clear H1; replace H := Option.bind_eq_some_iff.mp H; obtain ⟨⟨t432, t433⟩, A600, H⟩ := H; (try dsimp only at H); have A60 := q0_17 A600; clear A600; replace H := Option.bind_eq_some_iff.mp H; obtain ⟨t434, A610, H⟩ := H; (try dsimp only at H); have A61 := q0_17 A610; clear A610
                 by_cases c62 : t434 < 0
                 · rw [if_pos c62] at H
                   (have c62b0 : decide (t434 < 0) = true := decide_eq_true c62); clear c62; exact absurd H (by simp)
                 · rw [if_neg c62] at H
                   (have c62b0 : decide (t434 < 0) = false := decide_eq_false c62); clear c62
                   by_cases c65 : t434 = t432
                   · rw [if_pos c65] at H
                     (have c65b0 : (t434 == t432) = true := beq_iff_eq.mpr c65); (have c65b1 : (t434 != t432) = false := bne_eq_false_iff_eq.mpr c65); clear c65; replace H := Option.bind_eq_some_iff.mp H; obtain ⟨t435, A660, H⟩ := H; (try dsimp only at H); have A66 := q0_17 A660; clear A660; replace H := Option.bind_eq_some_iff.mp H; obtain ⟨t438, A670, H⟩ := H; (try dsimp only at H); have A67 := q0_17 A670; clear A670; replace H := Option.bind_eq_some_iff.mp H; obtain ⟨⟨t441, t442⟩, A680, H⟩ := H; (try dsimp only at H); have A68 := q0_17 A680; clear A680; have HC69 := q0_17 H; clear H; obtain ⟨ql, qm, eo70⟩ := Kd.R_slice q1.out; subst eo70
                     (go_upto_region 31 with (first | ((with_reducible refine gate_callee (f := 20) rfl ?_); refine goesL_ (some 91) rfl rfl Try.func20 (by kernel_rfl) rfl #[.slice ql t414.length qm, .int .i64 1] rfl ma ?_; (with_reducible refine (laws_markEventS.calls kj41 (fun k_ => some k_ = (.slice ql t414.length qm : Value).ownBlock) (.slice ql t414.length qm) t414 1 t432 t433 w _ ?side1 ?side2 A60.out).mono ?_); (case side1 => exact (qc_17)); (case side2 => exact Kd.R_tight rfl q1.out); rintro e w71 ⟨rfl, hy0, hb, hkp⟩; refine ⟨_, rfl, ?_⟩; have n0_ := q0_17 (Kd.R_mono (ok' := fun k_ => some k_ ≠ (.slice ql t414.length qm : Value).ownBlock) (Kd.R_keptB (q2.out) hkp (fun k_ hk_ hs_ => absurd hs_ (pq hk_))) (fun k_ hk_ => hk_.1)); have n1_ := q0_17 (Kd.R_reok rfl hy0 (fun k_ e_ => q1.out.1 k_ e_)); have n2_ := q0_17 (hb); clear q2; clear q1; clear HB; have q2 := n0_; have q1 := n1_; have HB := n2_; clear n0_ n1_ n2_; (try clear hb); (try clear hkp); (try clear hy0)) | ((with_reducible refine gate_callee (f := 62) rfl ?_); refine goesL_ (some 94) rfl rfl Try.func62 (by kernel_rfl) rfl #[.slice ql t433.length qm, .int .i64 1] rfl (by (try simp only [List.map_toArray, List.map_cons, List.map_nil]); first | done | (rw [show t433.length = t414.length from (Kd.R_reads' q1.out).1.symm] <;> rfl) | rfl | (simp only [List.length_drop, List.length_take]; rfl)) ?_; (with_reducible refine (laws_heldEventS.calls kj41 _ _ t433 1 t434 _ ?side1 ?side2 A61.out).mono ?_); (case side1 => exact ca (Kd.R_reads' q1.out).2.2); (case side2 => rw [show t433.length = t414.length from (Kd.R_reads' q1.out).1.symm]; exact (Kd.R_reads' q1.out).2.1); rintro e w' ⟨rfl, ⟨nd, rfl⟩⟩; refine ⟨_, rfl, ?_⟩) | ((with_reducible refine gate_callee (f := 16) rfl ?_); refine goesL_ (some 102) rfl rfl Try.func16 (by kernel_rfl) rfl #[.slice A0 l0.length c0] rfl ma ?_; (with_reducible refine (laws_toEventS.calls kj41 _ _ l0 t435 _ ?side1 ?side2 A66.out).mono ?_); (case side1 => exact ca (Kd.C_below HR0.out (qc_17))); (case side2 => exact HC0.out); rintro e w72 ⟨v436, rfl, ho0, hb⟩; refine ⟨_, rfl, ?_⟩; have n0_ := q0_17 (Kd.R_elder' (ra q2.out) (Kd.R_base ho0) hb); have n1_ := q0_17 (Kd.R_elder' (ra q1.out) (Kd.R_base ho0) hb); have n2_ := q0_17 (Kd.R_lower (Kd.R_new' (Kd.R_new' ho0 (Kd.R_lt (ra q2.out))) (Kd.R_lt (ra q1.out))) (below_size (qc_17))); have n3_ := q0_17 (below_step (qc_17) hb); clear q2; clear q1; clear HB; have q2 := n0_; have q1 := n1_; have qa := n2_; have HB := n3_; clear n0_ n1_ n2_ n3_; (try clear hb); (try clear hb2); (try clear hk); (try clear hi); (try clear ho0)) | ((with_reducible refine gate_callee (f := 35) rfl ?_); refine goesL_ (some 105) rfl rfl Try.func35 (by kernel_rfl) rfl #[.slice A2 l2.length c2] rfl ma ?_; (with_reducible refine (laws_toIntS.calls kj41 _ _ l2 t438 _ ?side1 ?side2 A67.out).mono ?_); (case side1 => exact ca (Kd.C_below HR2.out HB.out)); (case side2 => exact HC2.out); rintro e w73 ⟨v439, rfl, ho0, hb⟩; refine ⟨_, rfl, ?_⟩; have n0_ := q0_17 (Kd.R_below (ra q2.out) hb); have n1_ := q0_17 (Kd.R_below (ra q1.out) hb); have n2_ := q0_17 (Kd.R_below (ra qa.out) hb); have n3_ := q0_17 (Kd.R_lower ho0 (below_size (qc_17))); have n4_ := q0_17 (below_step (qc_17) hb); clear q2; clear q1; clear qa; clear HB; have q2 := n0_; have q1 := n1_; have qa := n2_; have qg := n3_; have HB := n4_; clear n0_ n1_ n2_ n3_ n4_; (try clear hb); (try clear hb2); (try clear hk); (try clear hi); (try clear ho0); obtain ⟨qz, z00, eo74⟩ := Kd.R_slice qa.out; subst eo74; obtain ⟨z01, z02, eo75⟩ := Kd.R_slice qg.out; subst eo75) | ((with_reducible refine gate_callee (f := 61) rfl ?_); refine goesL_ (some 107) rfl rfl Try.func61 (by kernel_rfl) rfl #[.slice qz t435.length z00, .int .i64 a1, .slice z01 t438.length z02, .int .i64 a3] rfl ma ?_; (with_reducible refine (impl_PlayAlong.calls kj41 _ _ t435 a1 _ _ t438 a3 t441 t442 _ ?side1 ?side2 ?side3 ?side4 A68.out).mono ?_); (case side1 => exact ca (Kd.R_reads' qa.out).2.2); (case side2 => exact (Kd.R_reads' qa.out).2.1); (case side3 => exact ca (Kd.R_reads' qg.out).2.2); (case side4 => exact (Kd.R_reads' qg.out).2.1); rintro e w76 ⟨v443, rfl, ho0, hb⟩; refine ⟨_, rfl, ?_⟩; have n0_ := q0_17 (Kd.R_elder' (ra q2.out) (Kd.R_base ho0) hb); have n1_ := q0_17 (Kd.R_elder' (ra q1.out) (Kd.R_base ho0) hb); have n2_ := q0_17 (Kd.R_elder' (ra qa.out) (Kd.R_base ho0) hb); have n3_ := q0_17 (Kd.R_below (ra qg.out) hb); have n4_ := q0_17 (Kd.R_lower (Kd.R_new' (Kd.R_new' (Kd.R_new' ho0 (Kd.R_lt (ra q2.out))) (Kd.R_lt (ra q1.out))) (Kd.R_lt (ra qa.out))) (below_size (qc_17))); have n5_ := q0_17 (below_step (qc_17) hb); clear q2; clear q1; clear qa; clear qg; clear HB; have q2 := n0_; have q1 := n1_; have qa := n2_; have qg := n3_; have qi := n4_; have HB := n5_; clear n0_ n1_ n2_ n3_ n4_ n5_; (try clear hb); (try clear hb2); (try clear hk); (try clear hi); (try clear ho0))))
                     ((try simp only [Act.put, List.setIfInBounds_toArray, List.set_cons_zero, List.set_cons_succ])); (go_cut [118] (fun v118 wc => ∃ (kq : Nat) (x118_68 : Bool), v118 = .bool x118_68 ∧ Aside0 (laws_FnExactPlayAlong.j2 kq t433 t432 x118_68 = some true) ∧ Aside0 (kq ≤ kj41) ∧ Aside0 (Kd.R k81 81 wc w.heap.size (fun _ => True) (.slice ql t414.length qm) t433) ∧ Aside0 (Below w.heap.size w wc)))
                     case first =>
                      have H := HC69.out; clear HC69; replace H := Option.bind_eq_some_iff.mp H; obtain ⟨t445, A770, H⟩ := H; (try dsimp only at H); have A77 := q0_17 A770; clear A770
                      by_cases c78 : t445 = true
                      · subst c78
                        have H1 := H; rw [if_pos rfl] at H1; clear H; have H := H1; clear H1; (have H' := q0_17 H); clear H; obtain ⟨z03, z04, eo79⟩ := Kd.R_slice qi.out; subst eo79; obtain ⟨z05, z06, eo80⟩ := Kd.R_slice q2.out; subst eo80; (go_wp2_with (first | ((with_reducible refine gate_callee (f := 19) rfl ?_); refine goesL_ (some 112) rfl rfl Try.func19 (by kernel_rfl) rfl #[.slice z03 t441.length z04, .slice z05 t404.length z06] rfl ma ?_; (with_reducible refine (laws_eqEventS.calls kj41 _ _ t441 _ _ t404 true _ ?side1 ?side2 ?side3 ?side4 A77.out).mono ?_); (case side1 => exact ca (Kd.R_reads' qi.out).2.2); (case side2 => exact (Kd.R_reads' qi.out).2.1); (case side3 => exact ca (Kd.R_reads' q2.out).2.2); (case side4 => exact (Kd.R_reads' q2.out).2.1); rintro e w81 ⟨rfl, hb⟩; refine ⟨_, rfl, ?_⟩; have n0_ := q0_17 (Kd.R_below (ra q2.out) hb); have n1_ := q0_17 (Kd.R_below (ra q1.out) hb); have n2_ := q0_17 (Kd.R_below (ra qa.out) hb); have n3_ := q0_17 (Kd.R_below (ra qg.out) hb); have n4_ := q0_17 (Kd.R_below (ra qi.out) hb); have n5_ := q0_17 (below_step (qc_17) hb); clear q2; clear q1; clear qa; clear qg; clear qi; clear HB; have q2 := n0_; have q1 := n1_; have qa := n2_; have qg := n3_; have qi := n4_; have HB := n5_; clear n0_ n1_ n2_ n3_ n4_ n5_; (try clear hb); (try clear hb2); (try clear hk); (try clear hi)))); (go_meet)
                        case rel => exact ⟨_, ((t442 != t405)), (by first | rfl | (simp; done) | (simp [*]; done)), H', ⟨by have := HJ13.out; have := HJ41.out; first | omega | exact Nat.le_refl _⟩, ⟨by refine ra ?_; exact Kd.R_mono q1.out (fun _ hk => trivial)⟩, ⟨by exact (qc_17)⟩⟩
                      · replace c78 := Bool.eq_false_iff.mpr c78
                        subst c78; (have H1 : (laws_FnExactPlayAlong.j2 kj41 t433 t432 true) = some true := by rw [if_neg (show ¬ (false = true) by decide)] at H; exact H); clear H; have H := H1; clear H1; (exact absurd H (by cases kj41 <;> simp [laws_FnExactPlayAlong.j2]))
                     case rest =>
                      clear HC69; (try clear c1); (try clear c2); (try clear p2); (try clear c3); (try clear c5); (try clear c5b0); (try clear c5b1); (try clear c6); (try clear c7); (try clear c7b0); (try clear c13); (try clear c14); (try clear c16); (try clear c18); (try clear c19); (try clear c20); (try clear c21); (try clear c26); (try clear c33); (try clear c35); (try clear c36); (try clear c39); (try clear c50); (try clear c50b0); (try clear c52); (try clear c59); (try clear c60); (try clear c61); (try clear c62); (try clear c62b0); (try clear c65); (try clear c65b0); (try clear c65b1); (try clear c78); (try clear p2); obtain ⟨kq, x118_68, rfl, HA, HJ68, q1, HB⟩ := hcut; have hl14_68 := (Kd.R_reads' q1.out).1; rw [hl14_68] at q1; ((try simp only [hl14_68]))
                      cases kq with
                      | zero => exact absurd HA.out (by simp [laws_FnExactPlayAlong.j2])
                      | succ kj68 =>
                       have H := HA.out; clear HA; (simp only [laws_FnExactPlayAlong.j2] at H)
                       by_cases c85 : x118_68 = true
                       · subst c85
                         have H1 := H; rw [if_pos rfl] at H1; clear H; have H := H1; clear H1; exact absurd H (by simp)
                       · replace c85 := Bool.eq_false_iff.mpr c85
                         subst c85; (have H1 : ((laws_heldEventS.f kj68 t433 1).bind fun t446 => (if t446 < 0 then (some false) else (if t446 = t432 then (some true) else (some false)))) = some true := by rw [if_neg (show ¬ (false = true) by decide)] at H; exact H); clear H; have H := H1; clear H1; replace H := Option.bind_eq_some_iff.mp H; obtain ⟨t446, A860, H⟩ := H; (try dsimp only at H); have A86 := q0_17 A860; clear A860
                         by_cases c87 : t446 < 0
                         · rw [if_pos c87] at H
                           (have c87b0 : decide (t446 < 0) = true := decide_eq_true c87); clear c87; exact absurd H (by simp)
                         · rw [if_neg c87] at H
                           (have c87b0 : decide (t446 < 0) = false := decide_eq_false c87); clear c87
                           by_cases c88 : t446 = t432
                           · rw [if_pos c88] at H
                             (have c88b0 : (t446 == t432) = true := beq_iff_eq.mpr c88); (have c88b1 : (t446 != t432) = false := bne_eq_false_iff_eq.mpr c88); clear c88 H; (go_wp2_with (first | ((with_reducible refine gate_callee (f := 62) rfl ?_); refine goesL_ (some 121) rfl rfl Try.func62 (by kernel_rfl) rfl #[.slice ql t433.length qm, .int .i64 1] rfl ma ?_; (with_reducible refine (laws_heldEventS.calls kj68 _ _ t433 1 t446 _ ?side1 ?side2 A86.out).mono ?_); (case side1 => exact ca (Kd.R_reads' q1.out).2.2); (case side2 => exact (Kd.R_reads' q1.out).2.1); rintro e w' ⟨rfl, ⟨nd, rfl⟩⟩; refine ⟨_, rfl, ?_⟩))); go_ret; (exact ⟨by first | rfl | (simp [errW_none, errW_some] <;> rfl) | (simp [*, errW_none, errW_some] <;> rfl), by exact (qc_17)⟩)
                           · rw [if_neg c88] at H
                             (have c88b0 : (t446 == t432) = false := beq_eq_false_iff_ne.mpr c88); (have c88b1 : (t446 != t432) = true := bne_iff_ne.mpr c88); exact absurd H (by simp)
                   · rw [if_neg c65] at H
                     (have c65b0 : (t434 == t432) = false := beq_eq_false_iff_ne.mpr c65); (have c65b1 : (t434 != t432) = true := bne_iff_ne.mpr c65); exact absurd H (by simp)
           · replace c39 := Bool.eq_false_iff.mpr c39
             subst c39; (have H1 : (some false) = some true := by rw [if_neg (show ¬ (false = true) by decide)] at H; exact H); clear H; have H := H1; clear H1; exact absurd H (by simp)
         · replace c36 := Bool.eq_false_iff.mpr c36
           subst c36; (have H1 : (some false) = some true := by rw [if_neg (show ¬ (false = true) by decide)] at H; exact H); clear H; have H := H1; clear H1; exact absurd H (by simp)
end Go.Proofs.Ytlkcbmcbmanmiaa.PFnExactPlayAlong
