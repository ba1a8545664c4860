-- Written for this claim by a program of this repository (wip/tools/print2.py), out of the translation; Lean checks it.
import Derived.Test.YtlkcbmcbmanmiaaPFnExactLeapsInx0
import Derived.Test.YtlkcbmcbmanmiaaPFnExactLeapsInx1
import Derived.Test.YtlkcbmcbmanmiaaPFnExactLeapsInx3
import Derived.Test.YtlkcbmcbmanmiaaPFnExactLeapsInx6
import Derived.Test.YtlkcbmcbmanmiaaPFnExactLeapsInx7
namespace Go.Proofs.Ytlkcbmcbmanmiaa.PFnExactLeapsIn
open Go.RowKit Go.Proofs.YtlkcbmcbmanmiaaW.PrintWords Go.Proofs.YtlkcbmcbmanmiaaW.PrintLast Go.Proofs.YtlkcbmcbmanmiaaW.PrintMore
attribute [local go_sem] max2_int min2_int max_two min_two max_three min_three max_four min_four   -- for this text's walks alone
set_option linter.unusedVariables false
set_option linter.unusedSimpArgs false
-- SHORT
theorem q8_8 {p : Prop} (f : p := by repeat (first | (with_reducible first | exact HB.out | apply below_alloc | apply pw_below_drewN | apply below_drew1) | exact HB.out)) : p := f
theorem q0_8 {p : Prop} (h : p) : Aside0 p := ⟨h⟩
/-! ### laws_FnExactLeapsIn: function 3 -/
def laws_FnExactLeapsIn.j0 : Nat → List (S83) → Int → Int → List Int → List Int → Bool → Option (Bool)
 | 0, _, _, _, _, _, _ => none
 | k + 1, x0, x1, x2, x8, x10, x50 => if x50 = true then (some false) else ((laws_markIntS.f k x10 1).bind fun bt220 => ((laws_heldIntS.f k bt220.2 1).bind fun t222 => (if t222 < 0 then (some false) else (if t222 = bt220.1 then ((laws_toEventS.f k x0).bind fun t223 => ((impl_LeapsIn.f k t223 x1 x2).bind fun t226 => ((laws_eqIntS.f k t226 x8).bind fun t229 => (if t229 = true then ((laws_heldIntS.f k bt220.2 1).bind fun t230 => (if t230 < 0 then (some false) else (if t230 = bt220.1 then (some true) else (some false)))) else (some false))))) else (some false)))))
def laws_FnExactLeapsIn.f (k : Nat) (l0 : List (S83)) (a1 : Int) (a2 : Int) : Option (Bool) := (laws_szEventS.f l0 1048576).bind fun t199 => (if t199 < 0 then (some true) else ((laws_toEventS.f k l0).bind fun t200 => ((spec_LeapsIn.f k t200 a1 a2).bind fun t203 => ((laws_toEventS.f k l0).bind fun t206 => ((impl_LeapsIn.f k t206 a1 a2).bind fun t209 => ((laws_eqIntS.f k t209 t203).bind fun t212 => (if t212 = true then ((laws_toEventS.f k l0).bind fun t213 => ((laws_eqEventS.f k t206 t213).bind fun t216 => (if t216 = true then ((laws_markEventS.f k t206 1).bind fun bt217 => (if bt217.1 < 0 then (laws_FnExactLeapsIn.j0 k l0 a1 a2 t203 t209 true) else ((laws_eqIntS.f k t209 t203).bind fun t219 => (laws_FnExactLeapsIn.j0 k l0 a1 a2 t203 t209 (!t219))))) else (some false)))) else (some false))))))))
theorem laws_FnExactLeapsIn.mono_l : ∀ k, (∀ y0 y1 y2 y3 y4 y5, LeO (laws_FnExactLeapsIn.j0 k y0 y1 y2 y3 y4 y5) (laws_FnExactLeapsIn.j0 (k + 1) y0 y1 y2 y3 y4 y5))
 | 0 => fun _ _ _ _ _ _ r h => by simp [laws_FnExactLeapsIn.j0] at h
 | k + 1 => by
  have ih0 := laws_FnExactLeapsIn.mono_l k
  · intro y0 y1 y2 y3 y4 y5
    unfold laws_FnExactLeapsIn.j0
    repeat' first
    | (with_reducible exact ih0 _ _ _ _ _ _)
    | (with_reducible exact impl_LeapsIn.mono _ _ _ _)
    | (with_reducible exact laws_eqEventS.mono _ _ _)
    | (with_reducible exact laws_eqIntS.mono _ _ _)
    | (with_reducible exact laws_heldIntS.mono _ _ _)
    | (with_reducible exact laws_markEventS.mono _ _ _)
    | (with_reducible exact laws_markIntS.mono _ _ _)
    | (with_reducible exact laws_toEventS.mono _ _)
    | (with_reducible exact spec_LeapsIn.mono _ _ _ _)
    | (with_reducible exact LeO.refl _)
    | (with_reducible exact LeO.none _)
    | (with_reducible refine LeO.ite ?_ ?_)
    | (with_reducible refine LeO.bind ?_ (fun _ => ?_))
    | exact ih0 _ _ _ _ _ _
    | exact impl_LeapsIn.mono _ _ _ _
    | exact laws_eqEventS.mono _ _ _
    | exact laws_eqIntS.mono _ _ _
    | exact laws_heldIntS.mono _ _ _
    | exact laws_markEventS.mono _ _ _
    | exact laws_markIntS.mono _ _ _
    | exact laws_toEventS.mono _ _
    | exact spec_LeapsIn.mono _ _ _ _
    | exact LeO.none _
    | refine LeO.ite ?_ ?_
    | refine LeO.bind ?_ (fun _ => ?_)
theorem laws_FnExactLeapsIn.mono : ∀ a0 a1 a2 k, LeO (laws_FnExactLeapsIn.f k a0 a1 a2) (laws_FnExactLeapsIn.f (k + 1) a0 a1 a2) := by
 intro a0 a1 a2 k; have ih0 := laws_FnExactLeapsIn.mono_l k; unfold laws_FnExactLeapsIn.f
 repeat' first
  | (with_reducible exact ih0 _ _ _ _ _ _)
  | (with_reducible exact impl_LeapsIn.mono _ _ _ _)
  | (with_reducible exact laws_eqEventS.mono _ _ _)
  | (with_reducible exact laws_eqIntS.mono _ _ _)
  | (with_reducible exact laws_heldIntS.mono _ _ _)
  | (with_reducible exact laws_markEventS.mono _ _ _)
  | (with_reducible exact laws_markIntS.mono _ _ _)
  | (with_reducible exact laws_toEventS.mono _ _)
  | (with_reducible exact spec_LeapsIn.mono _ _ _ _)
  | (with_reducible exact LeO.refl _)
  | (with_reducible exact LeO.none _)
  | (with_reducible refine LeO.ite ?_ ?_)
  | (with_reducible refine LeO.bind ?_ (fun _ => ?_))
  | exact ih0 _ _ _ _ _ _
  | exact impl_LeapsIn.mono _ _ _ _
  | exact laws_eqEventS.mono _ _ _
  | exact laws_eqIntS.mono _ _ _
  | exact laws_heldIntS.mono _ _ _
  | exact laws_markEventS.mono _ _ _
  | exact laws_markIntS.mono _ _ _
  | exact laws_toEventS.mono _ _
  | exact spec_LeapsIn.mono _ _ _ _
  | exact LeO.none _
  | refine LeO.ite ?_ ?_
  | refine LeO.bind ?_ (fun _ => ?_)
set_option maxHeartbeats 8000000 in
set_option maxRecDepth 100000 in
theorem laws_FnExactLeapsIn.calls_true (k : Nat) (A0 : Option Addr) (c0 : Nat) (l0 : List (S83)) (a1 : Int) (a2 : Int) (w : World) (hr0 : Kd.C k83 w A0 l0.length l0) (hc0 : l0.length ≤ c0) (h : laws_FnExactLeapsIn.f k l0 a1 a2 = some true) :
 Calls Try.prog 3 #[.slice A0 l0.length c0, .int .i64 a1, .int .i64 a2] w fun e w' => e = .returned (.bool true) ∧ Below w.heap.size w w' := by
 have HR0 := q0_8 hr0; have HC0 := q0_8 hc0; clear hr0 hc0; have HB := q0_8 (Below.refl w.heap.size w); (have H : ((laws_szEventS.f l0 1048576).bind fun t199 => (if t199 < 0 then (some true) else ((laws_toEventS.f k l0).bind fun t200 => ((spec_LeapsIn.f k t200 a1 a2).bind fun t203 => ((laws_toEventS.f k l0).bind fun t206 => ((impl_LeapsIn.f k t206 a1 a2).bind fun t209 => ((laws_eqIntS.f k t209 t203).bind fun t212 => (if t212 = true then ((laws_toEventS.f k l0).bind fun t213 => ((laws_eqEventS.f k t206 t213).bind fun t216 => (if t216 = true then ((laws_markEventS.f k t206 1).bind fun bt217 => (if bt217.1 < 0 then (laws_FnExactLeapsIn.j0 k l0 a1 a2 t203 t209 true) else ((laws_eqIntS.f k t209 t203).bind fun t219 => (laws_FnExactLeapsIn.j0 k l0 a1 a2 t203 t209 (!t219))))) else (some false)))) else (some false))))))))) = some true := h); clear h; replace H := Option.bind_eq_some_iff.mp H; obtain ⟨t199, A40, H⟩ := H; (try dsimp only at H); have A4 := q0_8 A40; clear A40
 by_cases c5 : t199 < 0
 · rw [if_pos c5] at H
   (have c5b0 : decide (t199 < 0) = true := decide_eq_true c5); clear c5 H; go_enter Try.func3, Try.ntmps3; (go_wp2_with (first | ((with_reducible refine gate_callee (f := 14) rfl ?_); refine goesL_ (some 17) rfl rfl Try.func14 (by kernel_rfl) rfl #[.slice A0 l0.length c0, .int .i64 1048576] rfl ma ?_; (with_reducible refine (laws_szEventS.calls _ _ l0 1048576 t199 _ ?side1 ?side2 A4.out).mono ?_); (case side1 => repeat (first | exact HR0.out | (with_reducible refine Kd.C_alloc ?_ _) | (with_reducible refine Kd.C_drewN ?_ _) | (with_reducible refine Kd.C_drew ?_))); (case side2 => exact HC0.out); rintro e w' ⟨rfl, ⟨nd, rfl⟩⟩; refine ⟨_, rfl, ?_⟩))); go_ret; (exact ⟨by first | rfl | (simp [errW_none, errW_some] <;> rfl) | (simp [*, errW_none, errW_some] <;> rfl), by exact (q8_8)⟩)
 · rw [if_neg c5] at H
   (have c5b0 : decide (t199 < 0) = false := decide_eq_false c5); clear c5; replace H := Option.bind_eq_some_iff.mp H; obtain ⟨t200, A60, H⟩ := H; (try dsimp only at H); have A6 := q0_8 A60; clear A60; replace H := Option.bind_eq_some_iff.mp H; obtain ⟨t203, A70, H⟩ := H; (try dsimp only at H); have A7 := q0_8 A70; clear A70; replace H := Option.bind_eq_some_iff.mp H; obtain ⟨t206, A80, H⟩ := H; (try dsimp only at H); have A8 := q0_8 A80; clear A80; replace H := Option.bind_eq_some_iff.mp H; obtain ⟨t209, A90, H⟩ := H; (try dsimp only at H); have A9 := q0_8 A90; clear A90; replace H := Option.bind_eq_some_iff.mp H; obtain ⟨t212, A100, H⟩ := H; (try dsimp only at H); have A10 := q0_8 A100; clear A100
   by_cases c11 : t212 = true
   · subst c11
     have H1 := H; rw [if_pos rfl] at H1; clear H; have H := H1; clear H1; replace H := Option.bind_eq_some_iff.mp H; obtain ⟨t213, A120, H⟩ := H; (try dsimp only at H); have A12 := q0_8 A120; clear A120; replace H := Option.bind_eq_some_iff.mp H; obtain ⟨t216, A130, H⟩ := H; (try dsimp only at H); have A13 := q0_8 A130; clear A130
     by_cases c14 : t216 = true
     · subst c14
       have H1 := H; rw [if_pos rfl] at H1; clear H; have H := H1; clear H1; replace H := Option.bind_eq_some_iff.mp H; obtain ⟨⟨t217, t218⟩, A150, H⟩ := H; (try dsimp only at H); have A15 := q0_8 A150; clear A150; have HC16 := q0_8 H; clear H; go_enter Try.func3, Try.ntmps3
       (go_upto_region 14 with (first | ((with_reducible refine gate_callee (f := 14) rfl ?_); refine goesL_ (some 17) rfl rfl Try.func14 (by kernel_rfl) rfl #[.slice A0 l0.length c0, .int .i64 1048576] rfl ma ?_; (with_reducible refine (laws_szEventS.calls _ _ l0 1048576 t199 _ ?side1 ?side2 A4.out).mono ?_); (case side1 => repeat (first | exact HR0.out | (with_reducible refine Kd.C_alloc ?_ _) | (with_reducible refine Kd.C_drewN ?_ _) | (with_reducible refine Kd.C_drew ?_))); (case side2 => exact HC0.out); rintro e w' ⟨rfl, ⟨nd, rfl⟩⟩; refine ⟨_, rfl, ?_⟩) | ((with_reducible refine gate_callee (f := 16) rfl ?_); refine goesL_ (some 21) rfl rfl Try.func16 (by kernel_rfl) rfl #[.slice A0 l0.length c0] rfl ma ?_; (with_reducible refine (laws_toEventS.calls k _ _ l0 t200 _ ?side1 ?side2 A6.out).mono ?_); (case side1 => repeat (first | exact HR0.out | (with_reducible refine Kd.C_alloc ?_ _) | (with_reducible refine Kd.C_drewN ?_ _) | (with_reducible refine Kd.C_drew ?_))); (case side2 => exact HC0.out); rintro e w17 ⟨v201, rfl, ho0, hb⟩; refine ⟨_, rfl, ?_⟩; have n0_ := q0_8 (Kd.R_lower ho0 (below_size (q8_8))); have n1_ := q0_8 (below_step (q8_8) hb); clear HB; have q1 := n0_; have HB := n1_; clear n0_ n1_; (try clear hb); (try clear hb2); (try clear hk); (try clear hi); (try clear ho0); obtain ⟨qh, qi, eo18⟩ := Kd.R_slice q1.out; subst eo18) | ((with_reducible refine gate_callee (f := 15) rfl ?_); refine goesL_ (some 24) rfl rfl Try.func15 (by kernel_rfl) rfl #[.slice qh t200.length qi, .int .i64 a1, .int .i64 a2] rfl ma ?_; (with_reducible refine (spec_LeapsIn.calls k _ _ t200 a1 a2 t203 _ ?side1 ?side2 A7.out).mono ?_); (case side1 => exact ca (Kd.R_reads' q1.out).2.2); (case side2 => exact (Kd.R_reads' q1.out).2.1); rintro e w19 ⟨v204, rfl, ho0, hb⟩; refine ⟨_, rfl, ?_⟩; have n0_ := q0_8 (Kd.R_below (ra q1.out) hb); have n1_ := q0_8 (Kd.R_lower ho0 (below_size (q8_8))); have n2_ := q0_8 (below_step (q8_8) hb); clear q1; clear HB; have q1 := n0_; have q2 := n1_; have HB := n2_; clear n0_ n1_ n2_; (try clear hb); (try clear hb2); (try clear hk); (try clear hi); (try clear ho0)) | ((with_reducible refine gate_callee (f := 16) rfl ?_); refine goesL_ (some 26) rfl rfl Try.func16 (by kernel_rfl) rfl #[.slice A0 l0.length c0] rfl ma ?_; (with_reducible refine (laws_toEventS.calls k _ _ l0 t206 _ ?side1 ?side2 A8.out).mono ?_); (case side1 => exact ca (Kd.C_below HR0.out HB.out)); (case side2 => exact HC0.out); rintro e w20 ⟨v207, rfl, ho0, hb⟩; refine ⟨_, rfl, ?_⟩; have n0_ := q0_8 (Kd.R_elder' (ra q1.out) (Kd.R_base ho0) hb); have n1_ := q0_8 (Kd.R_below (ra q2.out) hb); have n2_ := q0_8 (Kd.R_lower (Kd.R_new' ho0 (Kd.R_lt (ra q1.out))) (below_size (q8_8))); have n3_ := q0_8 (below_step (q8_8) hb); clear q1; clear q2; clear HB; have q1 := n0_; have q2 := n1_; have q3 := n2_; have HB := n3_; clear n0_ n1_ n2_ n3_; (try clear hb); (try clear hb2); (try clear hk); (try clear hi); (try clear ho0); obtain ⟨qc, qd, eo21⟩ := Kd.R_slice q3.out; subst eo21) | ((with_reducible refine gate_callee (f := 17) rfl ?_); refine goesL_ (some 30) rfl rfl Try.func17 (by kernel_rfl) rfl #[.slice qc t206.length qd, .int .i64 a1, .int .i64 a2] rfl ma ?_; (with_reducible refine (impl_LeapsIn.calls k _ _ t206 a1 a2 t209 _ ?side1 ?side2 A9.out).mono ?_); (case side1 => exact ca (Kd.R_reads' q3.out).2.2); (case side2 => exact (Kd.R_reads' q3.out).2.1); rintro e w22 ⟨v210, rfl, ho0, hb⟩; refine ⟨_, rfl, ?_⟩; have n0_ := q0_8 (Kd.R_below (ra q1.out) hb); have n1_ := q0_8 (Kd.R_elder' (ra q2.out) (Kd.R_base ho0) hb); have n2_ := q0_8 (Kd.R_below (ra q3.out) hb); have n3_ := q0_8 (Kd.R_lower (Kd.R_new' ho0 (Kd.R_lt (ra q2.out))) (below_size (q8_8))); have n4_ := q0_8 (below_step (q8_8) hb); clear q1; clear q2; clear q3; clear HB; have q1 := n0_; have q2 := n1_; have q3 := n2_; have q5 := n3_; have HB := n4_; clear n0_ n1_ n2_ n3_ n4_; (try clear hb); (try clear hb2); (try clear hk); (try clear hi); (try clear ho0); obtain ⟨q9, qa, eo23⟩ := Kd.R_slice q5.out; subst eo23; obtain ⟨qe, qf, eo24⟩ := Kd.R_slice q2.out; subst eo24) | ((with_reducible refine gate_callee (f := 18) rfl ?_); refine goesL_ (some 33) rfl rfl Try.func18 (by kernel_rfl) rfl #[.slice q9 t209.length qa, .slice qe t203.length qf] rfl ma ?_; (with_reducible refine (laws_eqIntS.calls k _ _ t209 _ _ t203 true _ ?side1 ?side2 ?side3 ?side4 A10.out).mono ?_); (case side1 => exact ca (Kd.R_reads' q5.out).2.2); (case side2 => exact (Kd.R_reads' q5.out).2.1); (case side3 => exact ca (Kd.R_reads' q2.out).2.2); (case side4 => exact (Kd.R_reads' q2.out).2.1); rintro e w' ⟨rfl, ⟨nd, rfl⟩⟩; refine ⟨_, rfl, ?_⟩) | ((with_reducible refine gate_callee (f := 16) rfl ?_); refine goesL_ (some 37) rfl rfl Try.func16 (by kernel_rfl) rfl #[.slice A0 l0.length c0] rfl ma ?_; (with_reducible refine (laws_toEventS.calls k _ _ l0 t213 _ ?side1 ?side2 A12.out).mono ?_); (case side1 => exact ca (Kd.C_below HR0.out (q8_8))); (case side2 => exact HC0.out); rintro e w25 ⟨v214, rfl, ho0, hb⟩; refine ⟨_, rfl, ?_⟩; have n0_ := q0_8 (Kd.R_elder' (ra q1.out) (Kd.R_base ho0) hb); have n1_ := q0_8 (Kd.R_below (ra q2.out) hb); have n2_ := q0_8 (Kd.R_elder' (ra q3.out) (Kd.R_base ho0) hb); have n3_ := q0_8 (Kd.R_below (ra q5.out) hb); have n4_ := q0_8 (Kd.R_lower (Kd.R_new' (Kd.R_new' ho0 (Kd.R_lt (ra q1.out))) (Kd.R_lt (ra q3.out))) (below_size (q8_8))); have n5_ := q0_8 (below_step (q8_8) hb); clear q1; clear q2; clear q3; clear q5; clear HB; have q1 := n0_; have q2 := n1_; have q3 := n2_; have q5 := n3_; have q6 := n4_; have HB := n5_; clear n0_ n1_ n2_ n3_ n4_ n5_; (try clear hb); (try clear hb2); (try clear hk); (try clear hi); (try clear ho0); obtain ⟨qj, qk, eo26⟩ := Kd.R_slice q6.out; subst eo26) | ((with_reducible refine gate_callee (f := 19) rfl ?_); refine goesL_ (some 38) rfl rfl Try.func19 (by kernel_rfl) rfl #[.slice qc t206.length qd, .slice qj t213.length qk] rfl ma ?_; (with_reducible refine (laws_eqEventS.calls k _ _ t206 _ _ t213 true _ ?side1 ?side2 ?side3 ?side4 A13.out).mono ?_); (case side1 => exact ca (Kd.R_reads' q3.out).2.2); (case side2 => exact (Kd.R_reads' q3.out).2.1); (case side3 => exact ca (Kd.R_reads' q6.out).2.2); (case side4 => exact (Kd.R_reads' q6.out).2.1); rintro e w27 ⟨rfl, hb⟩; refine ⟨_, rfl, ?_⟩; have n0_ := q0_8 (Kd.R_below (ra q1.out) hb); have n1_ := q0_8 (Kd.R_below (ra q2.out) hb); have n2_ := q0_8 (Kd.R_below (ra q3.out) hb); have n3_ := q0_8 (Kd.R_below (ra q5.out) hb); have n4_ := q0_8 (Kd.R_below (ra q6.out) hb); have n5_ := q0_8 (below_step (q8_8) hb); clear q1; clear q2; clear q3; clear q5; clear q6; clear HB; have q1 := n0_; have q2 := n1_; have q3 := n2_; have q5 := n3_; have q6 := n4_; have HB := n5_; clear n0_ n1_ n2_ n3_ n4_ n5_; (try clear hb); (try clear hb2); (try clear hk); (try clear hi)) | ((with_reducible refine gate_callee (f := 20) rfl ?_); refine goesL_ (some 42) rfl rfl Try.func20 (by kernel_rfl) rfl #[.slice qc t206.length qd, .int .i64 1] rfl ma ?_; (with_reducible refine (laws_markEventS.calls k (fun k_ => some k_ = (.slice qc t206.length qd : Value).ownBlock) (.slice qc t206.length qd) t206 1 t217 t218 w _ ?side1 ?side2 A15.out).mono ?_); (case side1 => exact (q8_8)); (case side2 => exact Kd.R_tight rfl q3.out); rintro e w28 ⟨rfl, hy0, hb, hkp⟩; refine ⟨_, rfl, ?_⟩; have n0_ := q0_8 (Kd.R_mono (ok' := fun k_ => some k_ ≠ (.slice qc t206.length qd : Value).ownBlock ∧ some k_ ≠ (.slice qj t213.length qk : Value).ownBlock) (Kd.R_keptB (q1.out) hkp (fun k_ hk_ hs_ => absurd hs_ (pq hk_))) pk); have n1_ := q0_8 (Kd.R_mono (ok' := fun k_ => some k_ ≠ (.slice q9 t209.length qa : Value).ownBlock) (Kd.R_keptB ((Kd.R_apart' q2.out (Kd.R_typed q3.out) (by decide))) hkp (fun k_ hk_ hs_ => absurd hs_ (pq hk_))) (fun k_ hk_ => hk_.1.1.2)); have n2_ := q0_8 (Kd.R_reok rfl hy0 (fun k_ e_ => q3.out.1 k_ e_)); have n3_ := q0_8 (Kd.R_mono (ok' := fun k_ => some k_ ≠ (.slice qe t203.length qf : Value).ownBlock) (Kd.R_keptB ((Kd.R_apart' q5.out (Kd.R_typed q3.out) (by decide))) hkp (fun k_ hk_ hs_ => absurd hs_ (pq hk_))) (fun k_ hk_ => hk_.1.1.2)); have n4_ := q0_8 (Kd.R_mono (ok' := fun k_ => some k_ ≠ (.slice qh t200.length qi : Value).ownBlock ∧ some k_ ≠ (.slice qc t206.length qd : Value).ownBlock) (Kd.R_keptB (q6.out) hkp (fun k_ hk_ hs_ => absurd hs_ (pq hk_))) pk); have n5_ := q0_8 (hb); clear q1; clear q2; clear q3; clear q5; clear q6; clear HB; have q1 := n0_; have q2 := n1_; have q3 := n2_; have q5 := n3_; have q6 := n4_; have HB := n5_; clear n0_ n1_ n2_ n3_ n4_ n5_; (try clear hb); (try clear hkp); (try clear hy0))))
       ((try simp only [Act.put, List.setIfInBounds_toArray, List.set_cons_zero, List.set_cons_succ])); (go_cut [50] (fun v50 wc => ∃ (kq : Nat) (x50_15 : Bool), v50 = .bool x50_15 ∧ Aside0 (laws_FnExactLeapsIn.j0 kq l0 a1 a2 t203 t209 x50_15 = some true) ∧ Aside0 (kq ≤ k) ∧ Aside0 (Kd.R (Kd.int .i64) 3 wc w.heap.size (fun k_ => some k_ ≠ ((.slice q9 t209.length qa) : Value).ownBlock) (.slice qe t203.length qf) t203) ∧ Aside0 (Kd.R (Kd.int .i64) 3 wc w.heap.size (fun k_ => some k_ ≠ ((.slice qe t203.length qf) : Value).ownBlock) (.slice q9 t209.length qa) t209) ∧ Aside0 (Below w.heap.size w wc)))
       case first =>
        have H := HC16.out; clear HC16
        by_cases c29 : t217 < 0
        · rw [if_pos c29] at H
          (have c29b0 : decide (t217 < 0) = true := decide_eq_true c29); clear c29; ((first | rw [c29b0] | (simp only [i64_w, i32_w]; rw [c29b0]) | skip)); (exact absurd H (by cases k <;> simp [laws_FnExactLeapsIn.j0]))
        · rw [if_neg c29] at H
          (have c29b0 : decide (t217 < 0) = false := decide_eq_false c29); clear c29; ((first | rw [c29b0] | (simp only [i64_w, i32_w]; rw [c29b0]) | skip)); replace H := Option.bind_eq_some_iff.mp H; obtain ⟨t219, A300, H⟩ := H; (try dsimp only at H); have A30 := q0_8 A300; clear A300; (have H' := q0_8 H); clear H; (go_wp2_with (first | (go_at_call 18; (with_reducible refine (laws_eqIntS.calls k _ _ t209 _ _ t203 t219 _ ?side1 ?side2 ?side3 ?side4 A30.out).mono ?_); (case side1 => exact ca (Kd.R_reads' q5.out).2.2); (case side2 => exact (Kd.R_reads' q5.out).2.1); (case side3 => exact ca (Kd.R_reads' q2.out).2.2); (case side4 => exact (Kd.R_reads' q2.out).2.1); rintro e w' ⟨rfl, ⟨nd, rfl⟩⟩))); (go_meet)
          case rel => exact ⟨_, (!t219), (by first | rfl | (simp; done) | (simp [*]; done)), H', ⟨by first | omega | exact Nat.le_refl _⟩, ⟨by refine ra ?_; exact q2.out⟩, ⟨by refine ra ?_; exact q5.out⟩, ⟨by exact (q8_8)⟩⟩
       case rest =>
        clear HC16; (try clear c1); (try clear c2); (try clear p2); (try clear c3); (try clear c5); (try clear c5b0); (try clear c11); (try clear c14); (try clear c15); (try clear c16); (try clear c17); (try clear c18); (try clear c19); (try clear c20); (try clear c29); (try clear c29b0); obtain ⟨kq, x50_15, rfl, HA, HJ15, q7, q4, HB⟩ := hcut
        cases kq with
        | zero => exact absurd HA.out (by simp [laws_FnExactLeapsIn.j0])
        | succ kj15 =>
         have H := HA.out; clear HA; (simp only [laws_FnExactLeapsIn.j0] at H)
         by_cases c31 : x50_15 = true
         · subst c31
           have H1 := H; rw [if_pos rfl] at H1; clear H; have H := H1; clear H1; exact absurd H (by simp)
         · replace c31 := Bool.eq_false_iff.mpr c31
           subst c31; (have H1 : ((laws_markIntS.f kj15 t209 1).bind fun bt220 => ((laws_heldIntS.f kj15 bt220.2 1).bind fun t222 => (if t222 < 0 then (some false) else (if t222 = bt220.1 then ((laws_toEventS.f kj15 l0).bind fun t223 => ((impl_LeapsIn.f kj15 t223 a1 a2).bind fun t226 => ((laws_eqIntS.f kj15 t226 t203).bind fun t229 => (if t229 = true then ((laws_heldIntS.f kj15 bt220.2 1).bind fun t230 => (if t230 < 0 then (some false) else (if t230 = bt220.1 then (some true) else (some false)))) else (some false))))) else (some false))))) = some true := by rw [if_neg (show ¬ (false = true) by decide)] at H; exact H); clear H; have H := H1; clear H1; replace H := Option.bind_eq_some_iff.mp H; obtain ⟨⟨t220, t221⟩, A320, H⟩ := H; (try dsimp only at H); have A32 := q0_8 A320; clear A320; replace H := Option.bind_eq_some_iff.mp H; obtain ⟨t222, A330, H⟩ := H; (try dsimp only at H); have A33 := q0_8 A330; clear A330
           by_cases c34 : t222 < 0
           · rw [if_pos c34] at H
             (have c34b0 : decide (t222 < 0) = true := decide_eq_true c34); clear c34; exact absurd H (by simp)
           · rw [if_neg c34] at H
             (have c34b0 : decide (t222 < 0) = false := decide_eq_false c34); clear c34
             by_cases c36 : t222 = t220
             · rw [if_pos c36] at H
               (have c36b0 : (t222 == t220) = true := beq_iff_eq.mpr c36); (have c36b1 : (t222 != t220) = false := bne_eq_false_iff_eq.mpr c36); clear c36; replace H := Option.bind_eq_some_iff.mp H; obtain ⟨t223, A370, H⟩ := H; (try dsimp only at H); have A37 := q0_8 A370; clear A370; replace H := Option.bind_eq_some_iff.mp H; obtain ⟨t226, A380, H⟩ := H; (try dsimp only at H); have A38 := q0_8 A380; clear A380; replace H := Option.bind_eq_some_iff.mp H; obtain ⟨t229, A390, H⟩ := H; (try dsimp only at H); have A39 := q0_8 A390; clear A390
               by_cases c40 : t229 = true
               · subst c40
                 have H1 := H; rw [if_pos rfl] at H1; clear H; have H := H1; clear H1; replace H := Option.bind_eq_some_iff.mp H; obtain ⟨t230, A410, H⟩ := H; (try dsimp only at H); have A41 := q0_8 A410; clear A410
                 by_cases c42 : t230 < 0
                 · rw [if_pos c42] at H
                   (have c42b0 : decide (t230 < 0) = true := decide_eq_true c42); clear c42; exact absurd H (by simp)
                 · rw [if_neg c42] at H
                   (have c42b0 : decide (t230 < 0) = false := decide_eq_false c42); clear c42
                   by_cases c48 : t230 = t220
                   · rw [if_pos c48] at H
                     (have c48b0 : (t230 == t220) = true := beq_iff_eq.mpr c48); (have c48b1 : (t230 != t220) = false := bne_eq_false_iff_eq.mpr c48); clear c48 H
                     (go_wp2_with (first | ((with_reducible refine gate_callee (f := 21) rfl ?_); refine goesL_ (some 53) rfl rfl Try.func21 (by kernel_rfl) rfl #[.slice q9 t209.length qa, .int .i64 1] rfl ma ?_; (with_reducible refine (laws_markIntS.calls kj15 (fun k_ => some k_ = (.slice q9 t209.length qa : Value).ownBlock) (.slice q9 t209.length qa) t209 1 t220 t221 w _ ?side1 ?side2 A32.out).mono ?_); (case side1 => exact (q8_8)); (case side2 => exact Kd.R_tight rfl q4.out); rintro e w49 ⟨rfl, hy0, hb, hkp⟩; refine ⟨_, rfl, ?_⟩; have n0_ := q0_8 (Kd.R_mono (ok' := fun k_ => some k_ ≠ (.slice q9 t209.length qa : Value).ownBlock) (Kd.R_keptB (q7.out) hkp (fun k_ hk_ hs_ => absurd hs_ (pq hk_))) (fun k_ hk_ => hk_.1)); have n1_ := q0_8 (Kd.R_reok rfl hy0 (fun k_ e_ => q4.out.1 k_ e_)); have n2_ := q0_8 (hb); clear q7; clear q4; clear HB; have q7 := n0_; have q4 := n1_; have HB := n2_; clear n0_ n1_ n2_; (try clear hb); (try clear hkp); (try clear hy0)) | ((with_reducible refine gate_callee (f := 22) rfl ?_); refine goesL_ (some 56) rfl rfl Try.func22 (by kernel_rfl) rfl #[.slice q9 t221.length qa, .int .i64 1] rfl (by (try simp only [List.map_toArray, List.map_cons, List.map_nil]); first | done | (rw [show t221.length = t209.length from (Kd.R_reads' q4.out).1.symm] <;> rfl) | rfl | (simp only [List.length_drop, List.length_take]; rfl)) ?_; (with_reducible refine (laws_heldIntS.calls kj15 _ _ t221 1 t222 _ ?side1 ?side2 A33.out).mono ?_); (case side1 => exact ca (Kd.R_reads' q4.out).2.2); (case side2 => rw [show t221.length = t209.length from (Kd.R_reads' q4.out).1.symm]; exact (Kd.R_reads' q4.out).2.1); rintro e w' ⟨rfl, ⟨nd, rfl⟩⟩; refine ⟨_, rfl, ?_⟩) | ((with_reducible refine gate_callee (f := 16) rfl ?_); refine goesL_ (some 63) rfl rfl Try.func16 (by kernel_rfl) rfl #[.slice A0 l0.length c0] rfl ma ?_; (with_reducible refine (laws_toEventS.calls kj15 _ _ l0 t223 _ ?side1 ?side2 A37.out).mono ?_); (case side1 => exact ca (Kd.C_below HR0.out (q8_8))); (case side2 => exact HC0.out); rintro e w50 ⟨v224, rfl, ho0, hb⟩; refine ⟨_, rfl, ?_⟩; have n0_ := q0_8 (Kd.R_below (ra q7.out) hb); have n1_ := q0_8 (Kd.R_below (ra q4.out) hb); have n2_ := q0_8 (Kd.R_lower ho0 (below_size (q8_8))); have n3_ := q0_8 (below_step (q8_8) hb); clear q7; clear q4; clear HB; have q7 := n0_; have q4 := n1_; have qb := n2_; have HB := n3_; clear n0_ n1_ n2_ n3_; (try clear hb); (try clear hb2); (try clear hk); (try clear hi); (try clear ho0); obtain ⟨ql, qm, eo51⟩ := Kd.R_slice qb.out; subst eo51) | ((with_reducible refine gate_callee (f := 17) rfl ?_); refine goesL_ (some 66) rfl rfl Try.func17 (by kernel_rfl) rfl #[.slice ql t223.length qm, .int .i64 a1, .int .i64 a2] rfl ma ?_; (with_reducible refine (impl_LeapsIn.calls kj15 _ _ t223 a1 a2 t226 _ ?side1 ?side2 A38.out).mono ?_); (case side1 => exact ca (Kd.R_reads' qb.out).2.2); (case side2 => exact (Kd.R_reads' qb.out).2.1); rintro e w52 ⟨v227, rfl, ho0, hb⟩; refine ⟨_, rfl, ?_⟩; have n0_ := q0_8 (Kd.R_elder' (ra q7.out) (Kd.R_base ho0) hb); have n1_ := q0_8 (Kd.R_elder' (ra q4.out) (Kd.R_base ho0) hb); have n2_ := q0_8 (Kd.R_below (ra qb.out) hb); have n3_ := q0_8 (Kd.R_lower (Kd.R_new' (Kd.R_new' ho0 (Kd.R_lt (ra q7.out))) (Kd.R_lt (ra q4.out))) (below_size (q8_8))); have n4_ := q0_8 (below_step (q8_8) hb); clear q7; clear q4; clear qb; clear HB; have q7 := n0_; have q4 := n1_; have qb := n2_; have qg := n3_; have HB := n4_; clear n0_ n1_ n2_ n3_ n4_; (try clear hb); (try clear hb2); (try clear hk); (try clear hi); (try clear ho0); obtain ⟨qn, qo, eo53⟩ := Kd.R_slice qg.out; subst eo53) | ((with_reducible refine gate_callee (f := 18) rfl ?_); refine goesL_ (some 69) rfl rfl Try.func18 (by kernel_rfl) rfl #[.slice qn t226.length qo, .slice qe t203.length qf] rfl ma ?_; (with_reducible refine (laws_eqIntS.calls kj15 _ _ t226 _ _ t203 true _ ?side1 ?side2 ?side3 ?side4 A39.out).mono ?_); (case side1 => exact ca (Kd.R_reads' qg.out).2.2); (case side2 => exact (Kd.R_reads' qg.out).2.1); (case side3 => exact ca (Kd.R_reads' q7.out).2.2); (case side4 => exact (Kd.R_reads' q7.out).2.1); rintro e w' ⟨rfl, ⟨nd, rfl⟩⟩; refine ⟨_, rfl, ?_⟩) | ((with_reducible refine gate_callee (f := 22) rfl ?_); refine goesL_ (some 73) rfl rfl Try.func22 (by kernel_rfl) rfl #[.slice q9 t221.length qa, .int .i64 1] rfl (by (try simp only [List.map_toArray, List.map_cons, List.map_nil]); first | done | (rw [show t221.length = t209.length from (Kd.R_reads' q4.out).1.symm] <;> rfl) | rfl | (simp only [List.length_drop, List.length_take]; rfl)) ?_; (with_reducible refine (laws_heldIntS.calls kj15 _ _ t221 1 t230 _ ?side1 ?side2 A41.out).mono ?_); (case side1 => exact ca (Kd.R_reads' q4.out).2.2); (case side2 => rw [show t221.length = t209.length from (Kd.R_reads' q4.out).1.symm]; exact (Kd.R_reads' q4.out).2.1); rintro e w' ⟨rfl, ⟨nd, rfl⟩⟩; refine ⟨_, rfl, ?_⟩)))
                     go_ret; (exact ⟨by first | rfl | (simp [errW_none, errW_some] <;> rfl) | (simp [*, errW_none, errW_some] <;> rfl), by exact (q8_8)⟩)
                   · rw [if_neg c48] at H
                     (have c48b0 : (t230 == t220) = false := beq_eq_false_iff_ne.mpr c48); (have c48b1 : (t230 != t220) = true := bne_iff_ne.mpr c48); exact absurd H (by simp)
               · replace c40 := Bool.eq_false_iff.mpr c40
                 subst c40; (have H1 : (some false) = some true := by rw [if_neg (show ¬ (false = true) by decide)] at H; exact H); clear H; have H := H1; clear H1; exact absurd H (by simp)
             · rw [if_neg c36] at H
               (have c36b0 : (t222 == t220) = false := beq_eq_false_iff_ne.mpr c36); (have c36b1 : (t222 != t220) = true := bne_iff_ne.mpr c36); exact absurd H (by simp)
     · replace c14 := Bool.eq_false_iff.mpr c14
       subst c14; (have H1 : (some false) = some true := by rw [if_neg (show ¬ (false = true) by decide)] at H; exact H); clear H; have H := H1; clear H1; exact absurd H (by simp)
   · replace c11 := Bool.eq_false_iff.mpr c11
     subst c11; (have H1 : (some false) = some true := by rw [if_neg (show ¬ (false = true) by decide)] at H; exact H); clear H; have H := H1; clear H1; exact absurd H (by simp)
end Go.Proofs.Ytlkcbmcbmanmiaa.PFnExactLeapsIn
