-- Written for this claim by a program of this repository (wip/tools/print2.py), out of the translation; Lean checks it.
import Derived.Test.YtlkcbmcbmanmiaaPFnExactCrossingsInx0
import Derived.Test.YtlkcbmcbmanmiaaPFnExactCrossingsInx1
import Derived.Test.YtlkcbmcbmanmiaaPFnExactCrossingsInx2
import Derived.Test.YtlkcbmcbmanmiaaPFnExactCrossingsInx5
import Derived.Test.YtlkcbmcbmanmiaaPFnExactCrossingsInx8
namespace Go.Proofs.Ytlkcbmcbmanmiaa.PFnExactCrossingsIn
open Go.RowKit Go.Proofs.YtlkcbmcbmanmiaaW.PrintWords Go.Proofs.YtlkcbmcbmanmiaaW.PrintLast Go.Proofs.YtlkcbmcbmanmiaaW.PrintMore
attribute [local go_sem] max2_int min2_int max_two min_two max_three min_three max_four min_four   -- for this text's walks alone
set_option linter.unusedVariables false
set_option linter.unusedSimpArgs false
-- SHORT
theorem q8_9 {p : Prop} (f : p := by repeat (first | (with_reducible first | exact HB.out | apply below_alloc | apply pw_below_drewN | apply below_drew1) | exact HB.out)) : p := f
theorem q0_9 {p : Prop} (h : p) : Aside0 p := ⟨h⟩
/-! ### laws_FnExactCrossingsIn: function 7 -/
def laws_FnExactCrossingsIn.j0 : Nat → List (S83) → Int → Int → List Int → List Int → Bool → Option (Bool)
 | 0, _, _, _, _, _, _ => none
 | k + 1, x0, x1, x2, x8, x10, x50 => if x50 = true then (some false) else ((laws_markIntS.f k x10 1).bind fun bt307 => ((laws_heldIntS.f k bt307.2 1).bind fun t309 => (if t309 < 0 then (some false) else (if t309 = bt307.1 then ((laws_toEventS.f k x0).bind fun t310 => ((impl_CrossingsIn.f k t310 x1 x2).bind fun t313 => ((laws_eqIntS.f k t313 x8).bind fun t316 => (if t316 = true then ((laws_heldIntS.f k bt307.2 1).bind fun t317 => (if t317 < 0 then (some false) else (if t317 = bt307.1 then (some true) else (some false)))) else (some false))))) else (some false)))))
def laws_FnExactCrossingsIn.f (k : Nat) (l0 : List (S83)) (a1 : Int) (a2 : Int) : Option (Bool) := (laws_szEventS.f l0 1048576).bind fun t286 => (if t286 < 0 then (some true) else ((laws_toEventS.f k l0).bind fun t287 => ((spec_CrossingsIn.f k t287 a1 a2).bind fun t290 => ((laws_toEventS.f k l0).bind fun t293 => ((impl_CrossingsIn.f k t293 a1 a2).bind fun t296 => ((laws_eqIntS.f k t296 t290).bind fun t299 => (if t299 = true then ((laws_toEventS.f k l0).bind fun t300 => ((laws_eqEventS.f k t293 t300).bind fun t303 => (if t303 = true then ((laws_markEventS.f k t293 1).bind fun bt304 => (if bt304.1 < 0 then (laws_FnExactCrossingsIn.j0 k l0 a1 a2 t290 t296 true) else ((laws_eqIntS.f k t296 t290).bind fun t306 => (laws_FnExactCrossingsIn.j0 k l0 a1 a2 t290 t296 (!t306))))) else (some false)))) else (some false))))))))
theorem laws_FnExactCrossingsIn.mono_l : ∀ k, (∀ y0 y1 y2 y3 y4 y5, LeO (laws_FnExactCrossingsIn.j0 k y0 y1 y2 y3 y4 y5) (laws_FnExactCrossingsIn.j0 (k + 1) y0 y1 y2 y3 y4 y5))
 | 0 => fun _ _ _ _ _ _ r h => by simp [laws_FnExactCrossingsIn.j0] at h
 | k + 1 => by
  have ih0 := laws_FnExactCrossingsIn.mono_l k
  · intro y0 y1 y2 y3 y4 y5
    unfold laws_FnExactCrossingsIn.j0
    repeat' first
    | (with_reducible exact ih0 _ _ _ _ _ _)
    | (with_reducible exact impl_CrossingsIn.mono _ _ _ _)
    | (with_reducible exact laws_eqEventS.mono _ _ _)
    | (with_reducible exact laws_eqIntS.mono _ _ _)
    | (with_reducible exact laws_heldIntS.mono _ _ _)
    | (with_reducible exact laws_markEventS.mono _ _ _)
    | (with_reducible exact laws_markIntS.mono _ _ _)
    | (with_reducible exact laws_toEventS.mono _ _)
    | (with_reducible exact spec_CrossingsIn.mono _ _ _ _)
    | (with_reducible exact LeO.refl _)
    | (with_reducible exact LeO.none _)
    | (with_reducible refine LeO.ite ?_ ?_)
    | (with_reducible refine LeO.bind ?_ (fun _ => ?_))
    | exact ih0 _ _ _ _ _ _
    | exact impl_CrossingsIn.mono _ _ _ _
    | exact laws_eqEventS.mono _ _ _
    | exact laws_eqIntS.mono _ _ _
    | exact laws_heldIntS.mono _ _ _
    | exact laws_markEventS.mono _ _ _
    | exact laws_markIntS.mono _ _ _
    | exact laws_toEventS.mono _ _
    | exact spec_CrossingsIn.mono _ _ _ _
    | exact LeO.none _
    | refine LeO.ite ?_ ?_
    | refine LeO.bind ?_ (fun _ => ?_)
theorem laws_FnExactCrossingsIn.mono : ∀ a0 a1 a2 k, LeO (laws_FnExactCrossingsIn.f k a0 a1 a2) (laws_FnExactCrossingsIn.f (k + 1) a0 a1 a2) := by
 intro a0 a1 a2 k; have ih0 := laws_FnExactCrossingsIn.mono_l k; unfold laws_FnExactCrossingsIn.f
 repeat' first
  | (with_reducible exact ih0 _ _ _ _ _ _)
  | (with_reducible exact impl_CrossingsIn.mono _ _ _ _)
  | (with_reducible exact laws_eqEventS.mono _ _ _)
  | (with_reducible exact laws_eqIntS.mono _ _ _)
  | (with_reducible exact laws_heldIntS.mono _ _ _)
  | (with_reducible exact laws_markEventS.mono _ _ _)
  | (with_reducible exact laws_markIntS.mono _ _ _)
  | (with_reducible exact laws_toEventS.mono _ _)
  | (with_reducible exact spec_CrossingsIn.mono _ _ _ _)
  | (with_reducible exact LeO.refl _)
  | (with_reducible exact LeO.none _)
  | (with_reducible refine LeO.ite ?_ ?_)
  | (with_reducible refine LeO.bind ?_ (fun _ => ?_))
  | exact ih0 _ _ _ _ _ _
  | exact impl_CrossingsIn.mono _ _ _ _
  | exact laws_eqEventS.mono _ _ _
  | exact laws_eqIntS.mono _ _ _
  | exact laws_heldIntS.mono _ _ _
  | exact laws_markEventS.mono _ _ _
  | exact laws_markIntS.mono _ _ _
  | exact laws_toEventS.mono _ _
  | exact spec_CrossingsIn.mono _ _ _ _
  | exact LeO.none _
  | refine LeO.ite ?_ ?_
  | refine LeO.bind ?_ (fun _ => ?_)
set_option maxHeartbeats 8000000 in
set_option maxRecDepth 100000 in
theorem laws_FnExactCrossingsIn.calls_true (k : Nat) (A0 : Option Addr) (c0 : Nat) (l0 : List (S83)) (a1 : Int) (a2 : Int) (w : World) (hr0 : Kd.C k83 w A0 l0.length l0) (hc0 : l0.length ≤ c0) (h : laws_FnExactCrossingsIn.f k l0 a1 a2 = some true) :
 Calls Try.prog 7 #[.slice A0 l0.length c0, .int .i64 a1, .int .i64 a2] w fun e w' => e = .returned (.bool true) ∧ Below w.heap.size w w' := by
 have HR0 := q0_9 hr0; have HC0 := q0_9 hc0; clear hr0 hc0; have HB := q0_9 (Below.refl w.heap.size w); (have H : ((laws_szEventS.f l0 1048576).bind fun t286 => (if t286 < 0 then (some true) else ((laws_toEventS.f k l0).bind fun t287 => ((spec_CrossingsIn.f k t287 a1 a2).bind fun t290 => ((laws_toEventS.f k l0).bind fun t293 => ((impl_CrossingsIn.f k t293 a1 a2).bind fun t296 => ((laws_eqIntS.f k t296 t290).bind fun t299 => (if t299 = true then ((laws_toEventS.f k l0).bind fun t300 => ((laws_eqEventS.f k t293 t300).bind fun t303 => (if t303 = true then ((laws_markEventS.f k t293 1).bind fun bt304 => (if bt304.1 < 0 then (laws_FnExactCrossingsIn.j0 k l0 a1 a2 t290 t296 true) else ((laws_eqIntS.f k t296 t290).bind fun t306 => (laws_FnExactCrossingsIn.j0 k l0 a1 a2 t290 t296 (!t306))))) else (some false)))) else (some false))))))))) = some true := h); clear h; replace H := Option.bind_eq_some_iff.mp H; obtain ⟨t286, A40, H⟩ := H; (try dsimp only at H); have A4 := q0_9 A40; clear A40
 by_cases c5 : t286 < 0
 · rw [if_pos c5] at H
   (have c5b0 : decide (t286 < 0) = true := decide_eq_true c5); clear c5 H; go_enter Try.func7, Try.ntmps7; (go_wp2_with (first | ((with_reducible refine gate_callee (f := 14) rfl ?_); refine goesL_ (some 17) rfl rfl Try.func14 (by kernel_rfl) rfl #[.slice A0 l0.length c0, .int .i64 1048576] rfl ma ?_; (with_reducible refine (laws_szEventS.calls _ _ l0 1048576 t286 _ ?side1 ?side2 A4.out).mono ?_); (case side1 => repeat (first | exact HR0.out | (with_reducible refine Kd.C_alloc ?_ _) | (with_reducible refine Kd.C_drewN ?_ _) | (with_reducible refine Kd.C_drew ?_))); (case side2 => exact HC0.out); rintro e w' ⟨rfl, ⟨nd, rfl⟩⟩; refine ⟨_, rfl, ?_⟩))); go_ret; (exact ⟨by first | rfl | (simp [errW_none, errW_some] <;> rfl) | (simp [*, errW_none, errW_some] <;> rfl), by exact (q8_9)⟩)
 · rw [if_neg c5] at H
   (have c5b0 : decide (t286 < 0) = false := decide_eq_false c5); clear c5; replace H := Option.bind_eq_some_iff.mp H; obtain ⟨t287, A60, H⟩ := H; (try dsimp only at H); have A6 := q0_9 A60; clear A60; replace H := Option.bind_eq_some_iff.mp H; obtain ⟨t290, A70, H⟩ := H; (try dsimp only at H); have A7 := q0_9 A70; clear A70; replace H := Option.bind_eq_some_iff.mp H; obtain ⟨t293, A80, H⟩ := H; (try dsimp only at H); have A8 := q0_9 A80; clear A80; replace H := Option.bind_eq_some_iff.mp H; obtain ⟨t296, A90, H⟩ := H; (try dsimp only at H); have A9 := q0_9 A90; clear A90; replace H := Option.bind_eq_some_iff.mp H; obtain ⟨t299, A100, H⟩ := H; (try dsimp only at H); have A10 := q0_9 A100; clear A100
   by_cases c11 : t299 = true
   · subst c11
     have H1 := H; rw [if_pos rfl] at H1; clear H; have H := H1; clear H1; replace H := Option.bind_eq_some_iff.mp H; obtain ⟨t300, A120, H⟩ := H; (try dsimp only at H); have A12 := q0_9 A120; clear A120; replace H := Option.bind_eq_some_iff.mp H; obtain ⟨t303, A130, H⟩ := H; (try dsimp only at H); have A13 := q0_9 A130; clear A130
     by_cases c14 : t303 = true
     · subst c14
       have H1 := H; rw [if_pos rfl] at H1; clear H; have H := H1; clear H1; replace H := Option.bind_eq_some_iff.mp H; obtain ⟨⟨t304, t305⟩, A150, H⟩ := H; (try dsimp only at H); have A15 := q0_9 A150; clear A150; have HC16 := q0_9 H; clear H; go_enter Try.func7, Try.ntmps7
       (go_upto_region 14 with (first | ((with_reducible refine gate_callee (f := 14) rfl ?_); refine goesL_ (some 17) rfl rfl Try.func14 (by kernel_rfl) rfl #[.slice A0 l0.length c0, .int .i64 1048576] rfl ma ?_; (with_reducible refine (laws_szEventS.calls _ _ l0 1048576 t286 _ ?side1 ?side2 A4.out).mono ?_); (case side1 => repeat (first | exact HR0.out | (with_reducible refine Kd.C_alloc ?_ _) | (with_reducible refine Kd.C_drewN ?_ _) | (with_reducible refine Kd.C_drew ?_))); (case side2 => exact HC0.out); rintro e w' ⟨rfl, ⟨nd, rfl⟩⟩; refine ⟨_, rfl, ?_⟩) | ((with_reducible refine gate_callee (f := 16) rfl ?_); refine goesL_ (some 21) rfl rfl Try.func16 (by kernel_rfl) rfl #[.slice A0 l0.length c0] rfl ma ?_; (with_reducible refine (laws_toEventS.calls k _ _ l0 t287 _ ?side1 ?side2 A6.out).mono ?_); (case side1 => repeat (first | exact HR0.out | (with_reducible refine Kd.C_alloc ?_ _) | (with_reducible refine Kd.C_drewN ?_ _) | (with_reducible refine Kd.C_drew ?_))); (case side2 => exact HC0.out); rintro e w17 ⟨v288, rfl, ho0, hb⟩; refine ⟨_, rfl, ?_⟩; have n0_ := q0_9 (Kd.R_lower ho0 (below_size (q8_9))); have n1_ := q0_9 (below_step (q8_9) hb); clear HB; have q1 := n0_; have HB := n1_; clear n0_ n1_; (try clear hb); (try clear hb2); (try clear hk); (try clear hi); (try clear ho0); obtain ⟨qh, qi, eo18⟩ := Kd.R_slice q1.out; subst eo18) | ((with_reducible refine gate_callee (f := 41) rfl ?_); refine goesL_ (some 24) rfl rfl Try.func41 (by kernel_rfl) rfl #[.slice qh t287.length qi, .int .i64 a1, .int .i64 a2] rfl ma ?_; (with_reducible refine (spec_CrossingsIn.calls k _ _ t287 a1 a2 t290 _ ?side1 ?side2 A7.out).mono ?_); (case side1 => exact ca (Kd.R_reads' q1.out).2.2); (case side2 => exact (Kd.R_reads' q1.out).2.1); rintro e w19 ⟨v291, rfl, ho0, hb⟩; refine ⟨_, rfl, ?_⟩; have n0_ := q0_9 (Kd.R_below (ra q1.out) hb); have n1_ := q0_9 (Kd.R_lower ho0 (below_size (q8_9))); have n2_ := q0_9 (below_step (q8_9) hb); clear q1; clear HB; have q1 := n0_; have q2 := n1_; have HB := n2_; clear n0_ n1_ n2_; (try clear hb); (try clear hb2); (try clear hk); (try clear hi); (try clear ho0)) | ((with_reducible refine gate_callee (f := 16) rfl ?_); refine goesL_ (some 26) rfl rfl Try.func16 (by kernel_rfl) rfl #[.slice A0 l0.length c0] rfl ma ?_; (with_reducible refine (laws_toEventS.calls k _ _ l0 t293 _ ?side1 ?side2 A8.out).mono ?_); (case side1 => exact ca (Kd.C_below HR0.out HB.out)); (case side2 => exact HC0.out); rintro e w20 ⟨v294, rfl, ho0, hb⟩; refine ⟨_, rfl, ?_⟩; have n0_ := q0_9 (Kd.R_elder' (ra q1.out) (Kd.R_base ho0) hb); have n1_ := q0_9 (Kd.R_below (ra q2.out) hb); have n2_ := q0_9 (Kd.R_lower (Kd.R_new' ho0 (Kd.R_lt (ra q1.out))) (below_size (q8_9))); have n3_ := q0_9 (below_step (q8_9) hb); clear q1; clear q2; clear HB; have q1 := n0_; have q2 := n1_; have q3 := n2_; have HB := n3_; clear n0_ n1_ n2_ n3_; (try clear hb); (try clear hb2); (try clear hk); (try clear hi); (try clear ho0); obtain ⟨qc, qd, eo21⟩ := Kd.R_slice q3.out; subst eo21) | ((with_reducible refine gate_callee (f := 42) rfl ?_); refine goesL_ (some 30) rfl rfl Try.func42 (by kernel_rfl) rfl #[.slice qc t293.length qd, .int .i64 a1, .int .i64 a2] rfl ma ?_; (with_reducible refine (impl_CrossingsIn.calls k _ _ t293 a1 a2 t296 _ ?side1 ?side2 A9.out).mono ?_); (case side1 => exact ca (Kd.R_reads' q3.out).2.2); (case side2 => exact (Kd.R_reads' q3.out).2.1); rintro e w22 ⟨v297, rfl, ho0, hb⟩; refine ⟨_, rfl, ?_⟩; have n0_ := q0_9 (Kd.R_below (ra q1.out) hb); have n1_ := q0_9 (Kd.R_elder' (ra q2.out) (Kd.R_base ho0) hb); have n2_ := q0_9 (Kd.R_below (ra q3.out) hb); have n3_ := q0_9 (Kd.R_lower (Kd.R_new' ho0 (Kd.R_lt (ra q2.out))) (below_size (q8_9))); have n4_ := q0_9 (below_step (q8_9) hb); clear q1; clear q2; clear q3; clear HB; have q1 := n0_; have q2 := n1_; have q3 := n2_; have q5 := n3_; have HB := n4_; clear n0_ n1_ n2_ n3_ n4_; (try clear hb); (try clear hb2); (try clear hk); (try clear hi); (try clear ho0); obtain ⟨q9, qa, eo23⟩ := Kd.R_slice q5.out; subst eo23; obtain ⟨qe, qf, eo24⟩ := Kd.R_slice q2.out; subst eo24) | ((with_reducible refine gate_callee (f := 18) rfl ?_); refine goesL_ (some 33) rfl rfl Try.func18 (by kernel_rfl) rfl #[.slice q9 t296.length qa, .slice qe t290.length qf] rfl ma ?_; (with_reducible refine (laws_eqIntS.calls k _ _ t296 _ _ t290 true _ ?side1 ?side2 ?side3 ?side4 A10.out).mono ?_); (case side1 => exact ca (Kd.R_reads' q5.out).2.2); (case side2 => exact (Kd.R_reads' q5.out).2.1); (case side3 => exact ca (Kd.R_reads' q2.out).2.2); (case side4 => exact (Kd.R_reads' q2.out).2.1); rintro e w' ⟨rfl, ⟨nd, rfl⟩⟩; refine ⟨_, rfl, ?_⟩) | ((with_reducible refine gate_callee (f := 16) rfl ?_); refine goesL_ (some 37) rfl rfl Try.func16 (by kernel_rfl) rfl #[.slice A0 l0.length c0] rfl ma ?_; (with_reducible refine (laws_toEventS.calls k _ _ l0 t300 _ ?side1 ?side2 A12.out).mono ?_); (case side1 => exact ca (Kd.C_below HR0.out (q8_9))); (case side2 => exact HC0.out); rintro e w25 ⟨v301, rfl, ho0, hb⟩; refine ⟨_, rfl, ?_⟩; have n0_ := q0_9 (Kd.R_elder' (ra q1.out) (Kd.R_base ho0) hb); have n1_ := q0_9 (Kd.R_below (ra q2.out) hb); have n2_ := q0_9 (Kd.R_elder' (ra q3.out) (Kd.R_base ho0) hb); have n3_ := q0_9 (Kd.R_below (ra q5.out) hb); have n4_ := q0_9 (Kd.R_lower (Kd.R_new' (Kd.R_new' ho0 (Kd.R_lt (ra q1.out))) (Kd.R_lt (ra q3.out))) (below_size (q8_9))); have n5_ := q0_9 (below_step (q8_9) hb); clear q1; clear q2; clear q3; clear q5; clear HB; have q1 := n0_; have q2 := n1_; have q3 := n2_; have q5 := n3_; have q6 := n4_; have HB := n5_; clear n0_ n1_ n2_ n3_ n4_ n5_; (try clear hb); (try clear hb2); (try clear hk); (try clear hi); (try clear ho0); obtain ⟨qj, qk, eo26⟩ := Kd.R_slice q6.out; subst eo26) | ((with_reducible refine gate_callee (f := 19) rfl ?_); refine goesL_ (some 38) rfl rfl Try.func19 (by kernel_rfl) rfl #[.slice qc t293.length qd, .slice qj t300.length qk] rfl ma ?_; (with_reducible refine (laws_eqEventS.calls k _ _ t293 _ _ t300 true _ ?side1 ?side2 ?side3 ?side4 A13.out).mono ?_); (case side1 => exact ca (Kd.R_reads' q3.out).2.2); (case side2 => exact (Kd.R_reads' q3.out).2.1); (case side3 => exact ca (Kd.R_reads' q6.out).2.2); (case side4 => exact (Kd.R_reads' q6.out).2.1); rintro e w27 ⟨rfl, hb⟩; refine ⟨_, rfl, ?_⟩; have n0_ := q0_9 (Kd.R_below (ra q1.out) hb); have n1_ := q0_9 (Kd.R_below (ra q2.out) hb); have n2_ := q0_9 (Kd.R_below (ra q3.out) hb); have n3_ := q0_9 (Kd.R_below (ra q5.out) hb); have n4_ := q0_9 (Kd.R_below (ra q6.out) hb); have n5_ := q0_9 (below_step (q8_9) hb); clear q1; clear q2; clear q3; clear q5; clear q6; clear HB; have q1 := n0_; have q2 := n1_; have q3 := n2_; have q5 := n3_; have q6 := n4_; have HB := n5_; clear n0_ n1_ n2_ n3_ n4_ n5_; (try clear hb); (try clear hb2); (try clear hk); (try clear hi)) | ((with_reducible refine gate_callee (f := 20) rfl ?_); refine goesL_ (some 42) rfl rfl Try.func20 (by kernel_rfl) rfl #[.slice qc t293.length qd, .int .i64 1] rfl ma ?_; (with_reducible refine (laws_markEventS.calls k (fun k_ => some k_ = (.slice qc t293.length qd : Value).ownBlock) (.slice qc t293.length qd) t293 1 t304 t305 w _ ?side1 ?side2 A15.out).mono ?_); (case side1 => exact (q8_9)); (case side2 => exact Kd.R_tight rfl q3.out); rintro e w28 ⟨rfl, hy0, hb, hkp⟩; refine ⟨_, rfl, ?_⟩; have n0_ := q0_9 (Kd.R_mono (ok' := fun k_ => some k_ ≠ (.slice qc t293.length qd : Value).ownBlock ∧ some k_ ≠ (.slice qj t300.length qk : Value).ownBlock) (Kd.R_keptB (q1.out) hkp (fun k_ hk_ hs_ => absurd hs_ (pq hk_))) pk); have n1_ := q0_9 (Kd.R_mono (ok' := fun k_ => some k_ ≠ (.slice q9 t296.length qa : Value).ownBlock) (Kd.R_keptB ((Kd.R_apart' q2.out (Kd.R_typed q3.out) (by decide))) hkp (fun k_ hk_ hs_ => absurd hs_ (pq hk_))) (fun k_ hk_ => hk_.1.1.2)); have n2_ := q0_9 (Kd.R_reok rfl hy0 (fun k_ e_ => q3.out.1 k_ e_)); have n3_ := q0_9 (Kd.R_mono (ok' := fun k_ => some k_ ≠ (.slice qe t290.length qf : Value).ownBlock) (Kd.R_keptB ((Kd.R_apart' q5.out (Kd.R_typed q3.out) (by decide))) hkp (fun k_ hk_ hs_ => absurd hs_ (pq hk_))) (fun k_ hk_ => hk_.1.1.2)); have n4_ := q0_9 (Kd.R_mono (ok' := fun k_ => some k_ ≠ (.slice qh t287.length qi : Value).ownBlock ∧ some k_ ≠ (.slice qc t293.length qd : Value).ownBlock) (Kd.R_keptB (q6.out) hkp (fun k_ hk_ hs_ => absurd hs_ (pq hk_))) pk); have n5_ := q0_9 (hb); clear q1; clear q2; clear q3; clear q5; clear q6; clear HB; have q1 := n0_; have q2 := n1_; have q3 := n2_; have q5 := n3_; have q6 := n4_; have HB := n5_; clear n0_ n1_ n2_ n3_ n4_ n5_; (try clear hb); (try clear hkp); (try clear hy0))))
       ((try simp only [Act.put, List.setIfInBounds_toArray, List.set_cons_zero, List.set_cons_succ])); (go_cut [50] (fun v50 wc => ∃ (kq : Nat) (x50_15 : Bool), v50 = .bool x50_15 ∧ Aside0 (laws_FnExactCrossingsIn.j0 kq l0 a1 a2 t290 t296 x50_15 = some true) ∧ Aside0 (kq ≤ k) ∧ Aside0 (Kd.R (Kd.int .i64) 3 wc w.heap.size (fun k_ => some k_ ≠ ((.slice q9 t296.length qa) : Value).ownBlock) (.slice qe t290.length qf) t290) ∧ Aside0 (Kd.R (Kd.int .i64) 3 wc w.heap.size (fun k_ => some k_ ≠ ((.slice qe t290.length qf) : Value).ownBlock) (.slice q9 t296.length qa) t296) ∧ Aside0 (Below w.heap.size w wc)))
       case first =>
        have H := HC16.out; clear HC16
        by_cases c29 : t304 < 0
        · rw [if_pos c29] at H
          (have c29b0 : decide (t304 < 0) = true := decide_eq_true c29); clear c29; ((first | rw [c29b0] | (simp only [i64_w, i32_w]; rw [c29b0]) | skip)); (exact absurd H (by cases k <;> simp [laws_FnExactCrossingsIn.j0]))
        · rw [if_neg c29] at H
          (have c29b0 : decide (t304 < 0) = false := decide_eq_false c29); clear c29; ((first | rw [c29b0] | (simp only [i64_w, i32_w]; rw [c29b0]) | skip)); replace H := Option.bind_eq_some_iff.mp H; obtain ⟨t306, A300, H⟩ := H; (try dsimp only at H); have A30 := q0_9 A300; clear A300; (have H' := q0_9 H); clear H; (go_wp2_with (first | (go_at_call 18; (with_reducible refine (laws_eqIntS.calls k _ _ t296 _ _ t290 t306 _ ?side1 ?side2 ?side3 ?side4 A30.out).mono ?_); (case side1 => exact ca (Kd.R_reads' q5.out).2.2); (case side2 => exact (Kd.R_reads' q5.out).2.1); (case side3 => exact ca (Kd.R_reads' q2.out).2.2); (case side4 => exact (Kd.R_reads' q2.out).2.1); rintro e w' ⟨rfl, ⟨nd, rfl⟩⟩))); (go_meet)
          case rel => exact ⟨_, (!t306), (by first | rfl | (simp; done) | (simp [*]; done)), H', ⟨by first | omega | exact Nat.le_refl _⟩, ⟨by refine ra ?_; exact q2.out⟩, ⟨by refine ra ?_; exact q5.out⟩, ⟨by exact (q8_9)⟩⟩
       case rest =>
        clear HC16; (try clear c1); (try clear c2); (try clear p2); (try clear c4); (try clear c5); (try clear c5b0); (try clear c7); (try clear c11); (try clear c14); (try clear c16); (try clear c18); (try clear c19); (try clear c20); (try clear c29); (try clear c29b0); obtain ⟨kq, x50_15, rfl, HA, HJ15, q7, q4, HB⟩ := hcut
        cases kq with
        | zero => exact absurd HA.out (by simp [laws_FnExactCrossingsIn.j0])
        | succ kj15 =>
         have H := HA.out; clear HA; (simp only [laws_FnExactCrossingsIn.j0] at H)
         by_cases c31 : x50_15 = true
         · subst c31
           have H1 := H; rw [if_pos rfl] at H1; clear H; have H := H1; clear H1; exact absurd H (by simp)
         · replace c31 := Bool.eq_false_iff.mpr c31
           subst c31; (have H1 : ((laws_markIntS.f kj15 t296 1).bind fun bt307 => ((laws_heldIntS.f kj15 bt307.2 1).bind fun t309 => (if t309 < 0 then (some false) else (if t309 = bt307.1 then ((laws_toEventS.f kj15 l0).bind fun t310 => ((impl_CrossingsIn.f kj15 t310 a1 a2).bind fun t313 => ((laws_eqIntS.f kj15 t313 t290).bind fun t316 => (if t316 = true then ((laws_heldIntS.f kj15 bt307.2 1).bind fun t317 => (if t317 < 0 then (some false) else (if t317 = bt307.1 then (some true) else (some false)))) else (some false))))) else (some false))))) = some true := by rw [if_neg (show ¬ (false = true) by decide)] at H; exact H); clear H; have H := H1; clear H1; replace H := Option.bind_eq_some_iff.mp H; obtain ⟨⟨t307, t308⟩, A320, H⟩ := H; (try dsimp only at H); have A32 := q0_9 A320; clear A320; replace H := Option.bind_eq_some_iff.mp H; obtain ⟨t309, A330, H⟩ := H; (try dsimp only at H); have A33 := q0_9 A330; clear A330
           by_cases c34 : t309 < 0
           · rw [if_pos c34] at H
             (have c34b0 : decide (t309 < 0) = true := decide_eq_true c34); clear c34; exact absurd H (by simp)
           · rw [if_neg c34] at H
             (have c34b0 : decide (t309 < 0) = false := decide_eq_false c34); clear c34
             by_cases c36 : t309 = t307
             · rw [if_pos c36] at H
               (have c36b0 : (t309 == t307) = true := beq_iff_eq.mpr c36); (have c36b1 : (t309 != t307) = false := bne_eq_false_iff_eq.mpr c36); clear c36; replace H := Option.bind_eq_some_iff.mp H; obtain ⟨t310, A370, H⟩ := H; (try dsimp only at H); have A37 := q0_9 A370; clear A370; replace H := Option.bind_eq_some_iff.mp H; obtain ⟨t313, A380, H⟩ := H; (try dsimp only at H); have A38 := q0_9 A380; clear A380; replace H := Option.bind_eq_some_iff.mp H; obtain ⟨t316, A390, H⟩ := H; (try dsimp only at H); have A39 := q0_9 A390; clear A390
               by_cases c40 : t316 = true
               · subst c40
                 have H1 := H; rw [if_pos rfl] at H1; clear H; have H := H1; clear H1; replace H := Option.bind_eq_some_iff.mp H; obtain ⟨t317, A410, H⟩ := H; (try dsimp only at H); have A41 := q0_9 A410; clear A410
                 by_cases c42 : t317 < 0
                 · rw [if_pos c42] at H
                   (have c42b0 : decide (t317 < 0) = true := decide_eq_true c42); clear c42; exact absurd H (by simp)
                 · rw [if_neg c42] at H
                   (have c42b0 : decide (t317 < 0) = false := decide_eq_false c42); clear c42
                   by_cases c48 : t317 = t307
                   · rw [if_pos c48] at H
                     (have c48b0 : (t317 == t307) = true := beq_iff_eq.mpr c48); (have c48b1 : (t317 != t307) = false := bne_eq_false_iff_eq.mpr c48); clear c48 H
                     (go_wp2_with (first | ((with_reducible refine gate_callee (f := 21) rfl ?_); refine goesL_ (some 53) rfl rfl Try.func21 (by kernel_rfl) rfl #[.slice q9 t296.length qa, .int .i64 1] rfl ma ?_; (with_reducible refine (laws_markIntS.calls kj15 (fun k_ => some k_ = (.slice q9 t296.length qa : Value).ownBlock) (.slice q9 t296.length qa) t296 1 t307 t308 w _ ?side1 ?side2 A32.out).mono ?_); (case side1 => exact (q8_9)); (case side2 => exact Kd.R_tight rfl q4.out); rintro e w49 ⟨rfl, hy0, hb, hkp⟩; refine ⟨_, rfl, ?_⟩; have n0_ := q0_9 (Kd.R_mono (ok' := fun k_ => some k_ ≠ (.slice q9 t296.length qa : Value).ownBlock) (Kd.R_keptB (q7.out) hkp (fun k_ hk_ hs_ => absurd hs_ (pq hk_))) (fun k_ hk_ => hk_.1)); have n1_ := q0_9 (Kd.R_reok rfl hy0 (fun k_ e_ => q4.out.1 k_ e_)); have n2_ := q0_9 (hb); clear q7; clear q4; clear HB; have q7 := n0_; have q4 := n1_; have HB := n2_; clear n0_ n1_ n2_; (try clear hb); (try clear hkp); (try clear hy0)) | ((with_reducible refine gate_callee (f := 22) rfl ?_); refine goesL_ (some 56) rfl rfl Try.func22 (by kernel_rfl) rfl #[.slice q9 t308.length qa, .int .i64 1] rfl (by (try simp only [List.map_toArray, List.map_cons, List.map_nil]); first | done | (rw [show t308.length = t296.length from (Kd.R_reads' q4.out).1.symm] <;> rfl) | rfl | (simp only [List.length_drop, List.length_take]; rfl)) ?_; (with_reducible refine (laws_heldIntS.calls kj15 _ _ t308 1 t309 _ ?side1 ?side2 A33.out).mono ?_); (case side1 => exact ca (Kd.R_reads' q4.out).2.2); (case side2 => rw [show t308.length = t296.length from (Kd.R_reads' q4.out).1.symm]; exact (Kd.R_reads' q4.out).2.1); rintro e w' ⟨rfl, ⟨nd, rfl⟩⟩; refine ⟨_, rfl, ?_⟩) | ((with_reducible refine gate_callee (f := 16) rfl ?_); refine goesL_ (some 63) rfl rfl Try.func16 (by kernel_rfl) rfl #[.slice A0 l0.length c0] rfl ma ?_; (with_reducible refine (laws_toEventS.calls kj15 _ _ l0 t310 _ ?side1 ?side2 A37.out).mono ?_); (case side1 => exact ca (Kd.C_below HR0.out (q8_9))); (case side2 => exact HC0.out); rintro e w50 ⟨v311, rfl, ho0, hb⟩; refine ⟨_, rfl, ?_⟩; have n0_ := q0_9 (Kd.R_below (ra q7.out) hb); have n1_ := q0_9 (Kd.R_below (ra q4.out) hb); have n2_ := q0_9 (Kd.R_lower ho0 (below_size (q8_9))); have n3_ := q0_9 (below_step (q8_9) hb); clear q7; clear q4; clear HB; have q7 := n0_; have q4 := n1_; have qb := n2_; have HB := n3_; clear n0_ n1_ n2_ n3_; (try clear hb); (try clear hb2); (try clear hk); (try clear hi); (try clear ho0); obtain ⟨ql, qm, eo51⟩ := Kd.R_slice qb.out; subst eo51) | ((with_reducible refine gate_callee (f := 42) rfl ?_); refine goesL_ (some 66) rfl rfl Try.func42 (by kernel_rfl) rfl #[.slice ql t310.length qm, .int .i64 a1, .int .i64 a2] rfl ma ?_; (with_reducible refine (impl_CrossingsIn.calls kj15 _ _ t310 a1 a2 t313 _ ?side1 ?side2 A38.out).mono ?_); (case side1 => exact ca (Kd.R_reads' qb.out).2.2); (case side2 => exact (Kd.R_reads' qb.out).2.1); rintro e w52 ⟨v314, rfl, ho0, hb⟩; refine ⟨_, rfl, ?_⟩; have n0_ := q0_9 (Kd.R_elder' (ra q7.out) (Kd.R_base ho0) hb); have n1_ := q0_9 (Kd.R_elder' (ra q4.out) (Kd.R_base ho0) hb); have n2_ := q0_9 (Kd.R_below (ra qb.out) hb); have n3_ := q0_9 (Kd.R_lower (Kd.R_new' (Kd.R_new' ho0 (Kd.R_lt (ra q7.out))) (Kd.R_lt (ra q4.out))) (below_size (q8_9))); have n4_ := q0_9 (below_step (q8_9) hb); clear q7; clear q4; clear qb; clear HB; have q7 := n0_; have q4 := n1_; have qb := n2_; have qg := n3_; have HB := n4_; clear n0_ n1_ n2_ n3_ n4_; (try clear hb); (try clear hb2); (try clear hk); (try clear hi); (try clear ho0); obtain ⟨qn, qo, eo53⟩ := Kd.R_slice qg.out; subst eo53) | ((with_reducible refine gate_callee (f := 18) rfl ?_); refine goesL_ (some 69) rfl rfl Try.func18 (by kernel_rfl) rfl #[.slice qn t313.length qo, .slice qe t290.length qf] rfl ma ?_; (with_reducible refine (laws_eqIntS.calls kj15 _ _ t313 _ _ t290 true _ ?side1 ?side2 ?side3 ?side4 A39.out).mono ?_); (case side1 => exact ca (Kd.R_reads' qg.out).2.2); (case side2 => exact (Kd.R_reads' qg.out).2.1); (case side3 => exact ca (Kd.R_reads' q7.out).2.2); (case side4 => exact (Kd.R_reads' q7.out).2.1); rintro e w' ⟨rfl, ⟨nd, rfl⟩⟩; refine ⟨_, rfl, ?_⟩) | ((with_reducible refine gate_callee (f := 22) rfl ?_); refine goesL_ (some 73) rfl rfl Try.func22 (by kernel_rfl) rfl #[.slice q9 t308.length qa, .int .i64 1] rfl (by (try simp only [List.map_toArray, List.map_cons, List.map_nil]); first | done | (rw [show t308.length = t296.length from (Kd.R_reads' q4.out).1.symm] <;> rfl) | rfl | (simp only [List.length_drop, List.length_take]; rfl)) ?_; (with_reducible refine (laws_heldIntS.calls kj15 _ _ t308 1 t317 _ ?side1 ?side2 A41.out).mono ?_); (case side1 => exact ca (Kd.R_reads' q4.out).2.2); (case side2 => rw [show t308.length = t296.length from (Kd.R_reads' q4.out).1.symm]; exact (Kd.R_reads' q4.out).2.1); rintro e w' ⟨rfl, ⟨nd, rfl⟩⟩; refine ⟨_, rfl, ?_⟩)))
                     go_ret; (exact ⟨by first | rfl | (simp [errW_none, errW_some] <;> rfl) | (simp [*, errW_none, errW_some] <;> rfl), by exact (q8_9)⟩)
                   · rw [if_neg c48] at H
                     (have c48b0 : (t317 == t307) = false := beq_eq_false_iff_ne.mpr c48); (have c48b1 : (t317 != t307) = true := bne_iff_ne.mpr c48); exact absurd H (by simp)
               · replace c40 := Bool.eq_false_iff.mpr c40
                 subst c40; (have H1 : (some false) = some true := by rw [if_neg (show ¬ (false = true) by decide)] at H; exact H); clear H; have H := H1; clear H1; exact absurd H (by simp)
             · rw [if_neg c36] at H
               (have c36b0 : (t309 == t307) = false := beq_eq_false_iff_ne.mpr c36); (have c36b1 : (t309 != t307) = true := bne_iff_ne.mpr c36); exact absurd H (by simp)
     · replace c14 := Bool.eq_false_iff.mpr c14
       subst c14; (have H1 : (some false) = some true := by rw [if_neg (show ¬ (false = true) by decide)] at H; exact H); clear H; have H := H1; clear H1; exact absurd H (by simp)
   · replace c11 := Bool.eq_false_iff.mpr c11
     subst c11; (have H1 : (some false) = some true := by rw [if_neg (show ¬ (false = true) by decide)] at H; exact H); clear H; have H := H1; clear H1; exact absurd H (by simp)
end Go.Proofs.Ytlkcbmcbmanmiaa.PFnExactCrossingsIn
