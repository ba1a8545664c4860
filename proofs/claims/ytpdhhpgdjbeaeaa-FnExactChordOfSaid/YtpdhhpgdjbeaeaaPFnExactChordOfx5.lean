-- Written for this claim by a program of this repository (wip/tools/print2.py), out of the translation; Lean checks it.
import Derived.Test.YtpdhhpgdjbeaeaaPFnExactChordOfx0
import Derived.Test.YtpdhhpgdjbeaeaaPFnExactChordOfx1
import Derived.Test.YtpdhhpgdjbeaeaaPFnExactChordOfx3
import Derived.Test.YtpdhhpgdjbeaeaaPFnExactChordOfx4
namespace Go.Proofs.Ytpdhhpgdjbeaeaa.PFnExactChordOf
open Go.RowKit Go.Proofs.YtpdhhpgdjbeaeaaW.PrintWords Go.Proofs.YtpdhhpgdjbeaeaaW.PrintLast Go.Proofs.YtpdhhpgdjbeaeaaW.PrintMore
attribute [local go_sem] max2_int min2_int max_two min_two max_three min_three max_four min_four   -- for this text's walks alone
set_option linter.unusedVariables false
set_option linter.unusedSimpArgs false
-- SHORT
theorem qf_5 {p : Prop} (f : p := by repeat (first | (with_reducible first | exact HB.out | apply below_alloc | apply pw_below_drewN | apply below_drew1) | exact HB.out)) : p := f
theorem q8_5 {p : Prop} (f : p := by repeat (first | (with_reducible first | exact HB.out | apply below_alloc | apply pw_below_drewN | apply below_drew1 | refine below_set ?_ qi.out) | exact HB.out)) : p := f
theorem q6_5 {p : Prop} (f : p := by repeat (first | (with_reducible first | exact HB.out | apply below_alloc | apply pw_below_drewN | apply below_drew1 | refine below_set ?_ qi.out | refine below_set ?_ qj.out) | exact HB.out)) : p := f
theorem q0_5 {p : Prop} (h : p) : Aside0 p := ⟨h⟩
/-! ### laws_FnExactChordOf: function 5 -/
def laws_FnExactChordOf.j0 : Nat → List Int → List Int → Bool → Option (Bool)
 | 0, _, _, _ => none
 | k + 1, x0, x5, x32 => if x32 = true then (some false) else ((laws_toIntS.f k x0).bind fun t284 => ((laws_eqIntS.f k x5 t284).bind fun t287 => (if t287 = true then (some true) else (some false))))
def laws_FnExactChordOf.f (k : Nat) (l0 : List Int) : Option (Bool) := if (l0.length : Int) > 1048576 then (some true) else ((laws_toIntS.f k l0).bind fun t269 => ((spec_ChordOf.f k t269).bind fun bt272 => ((laws_toIntS.f k l0).bind fun t276 => ((impl_ChordOf.f k t276).bind fun bt279 => ((laws_eqChord.f bt279.1 bt279.2.1 bt272.1 bt272.2.1).bind fun t283 => (if t283 = true then (laws_FnExactChordOf.j0 k l0 t276 (bt279.2.2 != bt272.2.2)) else (laws_FnExactChordOf.j0 k l0 t276 true)))))))
theorem laws_FnExactChordOf.mono_l : ∀ k, (∀ y0 y1 y2, LeO (laws_FnExactChordOf.j0 k y0 y1 y2) (laws_FnExactChordOf.j0 (k + 1) y0 y1 y2))
 | 0 => fun _ _ _ r h => by simp [laws_FnExactChordOf.j0] at h
 | k + 1 => by
  have ih0 := laws_FnExactChordOf.mono_l k
  · intro y0 y1 y2
    unfold laws_FnExactChordOf.j0
    repeat' first
    | (with_reducible exact ih0 _ _ _)
    | (with_reducible exact impl_ChordOf.mono _ _)
    | (with_reducible exact laws_eqIntS.mono _ _ _)
    | (with_reducible exact laws_toIntS.mono _ _)
    | (with_reducible exact spec_ChordOf.mono _ _)
    | (with_reducible exact LeO.refl _)
    | (with_reducible exact LeO.none _)
    | (with_reducible refine LeO.ite ?_ ?_)
    | (with_reducible refine LeO.bind ?_ (fun _ => ?_))
    | exact ih0 _ _ _
    | exact impl_ChordOf.mono _ _
    | exact laws_eqIntS.mono _ _ _
    | exact laws_toIntS.mono _ _
    | exact spec_ChordOf.mono _ _
    | exact LeO.none _
    | refine LeO.ite ?_ ?_
    | refine LeO.bind ?_ (fun _ => ?_)
theorem laws_FnExactChordOf.mono : ∀ a0 k, LeO (laws_FnExactChordOf.f k a0) (laws_FnExactChordOf.f (k + 1) a0) := by
 intro a0 k; have ih0 := laws_FnExactChordOf.mono_l k; unfold laws_FnExactChordOf.f
 repeat' first
  | (with_reducible exact ih0 _ _ _)
  | (with_reducible exact impl_ChordOf.mono _ _)
  | (with_reducible exact laws_eqIntS.mono _ _ _)
  | (with_reducible exact laws_toIntS.mono _ _)
  | (with_reducible exact spec_ChordOf.mono _ _)
  | (with_reducible exact LeO.refl _)
  | (with_reducible exact LeO.none _)
  | (with_reducible refine LeO.ite ?_ ?_)
  | (with_reducible refine LeO.bind ?_ (fun _ => ?_))
  | exact ih0 _ _ _
  | exact impl_ChordOf.mono _ _
  | exact laws_eqIntS.mono _ _ _
  | exact laws_toIntS.mono _ _
  | exact spec_ChordOf.mono _ _
  | exact LeO.none _
  | refine LeO.ite ?_ ?_
  | refine LeO.bind ?_ (fun _ => ?_)
set_option maxHeartbeats 8000000 in
set_option maxRecDepth 100000 in
theorem laws_FnExactChordOf.calls_true (k : Nat) (A0 : Option Addr) (c0 : Nat) (l0 : List Int) (w : World) (hr0 : Kd.C (Kd.int .i64) w A0 l0.length l0) (hc0 : l0.length ≤ c0) (h : laws_FnExactChordOf.f k l0 = some true) :
 Calls Try.prog 5 #[.slice A0 l0.length c0] w fun e w' => e = .returned (.bool true) ∧ Below w.heap.size w w' := by
 have hu30 := Try.underlying30; have HR0 := q0_5 hr0; have HC0 := q0_5 hc0; clear hr0 hc0; have HB := q0_5 (Below.refl w.heap.size w); (have H : (if (l0.length : Int) > 1048576 then (some true) else ((laws_toIntS.f k l0).bind fun t269 => ((spec_ChordOf.f k t269).bind fun bt272 => ((laws_toIntS.f k l0).bind fun t276 => ((impl_ChordOf.f k t276).bind fun bt279 => ((laws_eqChord.f bt279.1 bt279.2.1 bt272.1 bt272.2.1).bind fun t283 => (if t283 = true then (laws_FnExactChordOf.j0 k l0 t276 (bt279.2.2 != bt272.2.2)) else (laws_FnExactChordOf.j0 k l0 t276 true)))))))) = some true := h); clear h
 by_cases c2 : (l0.length : Int) > 1048576
 · rw [if_pos c2] at H
   (have c2b0 : decide (1048576 < (l0.length : Int)) = true := decide_eq_true c2); (have c2b1 : decide (1048576 < l0.length) = true := decide_eq_true (by omega)); clear c2 H; go_enter Try.func5, Try.ntmps5; (go_wp2); go_ret; (exact ⟨by first | rfl | (simp [errW_none, errW_some] <;> rfl) | (simp [*, errW_none, errW_some] <;> rfl), by exact (qf_5)⟩)
 · rw [if_neg c2] at H
   (have c2b0 : decide (1048576 < (l0.length : Int)) = false := decide_eq_false c2); (have c2b1 : decide (1048576 < l0.length) = false := decide_eq_false (by omega)); clear c2; replace H := Option.bind_eq_some_iff.mp H; obtain ⟨t269, A30, H⟩ := H; (try dsimp only at H); have A3 := q0_5 A30; clear A30; replace H := Option.bind_eq_some_iff.mp H; obtain ⟨⟨t272, t273, t274⟩, A40, H⟩ := H; (try dsimp only at H); have A4 := q0_5 A40; clear A40; replace H := Option.bind_eq_some_iff.mp H; obtain ⟨t276, A50, H⟩ := H; (try dsimp only at H); have A5 := q0_5 A50; clear A50; replace H := Option.bind_eq_some_iff.mp H; obtain ⟨⟨t279, t280, t281⟩, A60, H⟩ := H; (try dsimp only at H); have A6 := q0_5 A60; clear A60; have HC7 := q0_5 H; clear H; go_enter Try.func5, Try.ntmps5
   (go_upto_region 6 with (first | ((with_reducible refine gate_callee (f := 10) rfl ?_); refine goesL_ (some 13) rfl rfl Try.func10 (by kernel_rfl) rfl #[.slice A0 l0.length c0] rfl ma ?_; (with_reducible refine (laws_toIntS.calls k _ _ l0 t269 _ ?side1 ?side2 A3.out).mono ?_); (case side1 => repeat (first | exact HR0.out | (with_reducible refine Kd.C_alloc ?_ _) | (with_reducible refine Kd.C_drewN ?_ _) | (with_reducible refine Kd.C_drew ?_))); (case side2 => exact HC0.out); rintro e w8 ⟨v270, rfl, ho0, hb⟩; refine ⟨_, rfl, ?_⟩; have n0_ := q0_5 (Kd.R_lower ho0 (below_size (qf_5))); have n1_ := q0_5 (below_step (qf_5) hb); clear HB; have q2 := n0_; have HB := n1_; clear n0_ n1_; (try clear hb); (try clear hb2); (try clear hk); (try clear hi); (try clear ho0); obtain ⟨qk, ql, eo9⟩ := Kd.R_slice q2.out; subst eo9) | ((with_reducible refine gate_callee (f := 18) rfl ?_); refine goesL_ (some 14) rfl rfl Try.func18 (by kernel_rfl) rfl #[.slice qk t269.length ql] rfl ma ?_; (with_reducible refine (spec_ChordOf.calls k _ _ t269 t272 t273 t274 _ ?side1 ?side2 A4.out).mono ?_); (case side1 => exact ca (Kd.R_reads' q2.out).2.2); (case side2 => exact (Kd.R_reads' q2.out).2.1); rintro e w10 ⟨rfl, hb⟩; refine ⟨_, rfl, ?_⟩; have n0_ := q0_5 (Kd.R_below (ra q2.out) hb); have n1_ := q0_5 (below_step (qf_5) hb); clear q2; clear HB; have q2 := n0_; have HB := n1_; clear n0_ n1_; (try clear hb); (try clear hb2); (try clear hk); (try clear hi)) | ((with_reducible refine gate_dst (N := 3) rfl ?_); refine box_event ?hg (N := 3) ?hd (cs := #[.int .i64 0, .int .i64 0]) (t := 30) ?hr ?_; (case hd => rfl); (case hg => rfl); (case hr => first | (go_simp; done) | (go_simp; rfl)); intro q4 hg w11 hbox hb; have n0_ := q0_5 (Kd.R_below (ra q2.out) hb); have n1_ := q0_5 (below_step (qf_5) hb); have n2_ := q0_5 (hbox); have n3_ := q0_5 ((by rw [hg]; exact (below_size (qf_5)) : w.heap.size ≤ q4)); have n4_ := q0_5 ((by rw [hg]; exact (below_size (qf_5)) : w.heap.size ≤ q4)); clear q2; clear HB; have q2 := n0_; have HB := n1_; have q1 := n2_; have GW275 := n3_; have qi := n4_; clear n0_ n1_ n2_ n3_ n4_; clear hb hbox hg; have hcz12_0 : w11.cell? ⟨q4, 0, none⟩ = some (.int .i64 0) := (blk_cell q1.out 0).trans rfl; have hcz12_1 : w11.cell? ⟨q4, 1, none⟩ = some (.int .i64 0) := (blk_cell q1.out 1).trans rfl; have hfz12_0 := blk_frozen q1.out 0; have hfz12_1 := blk_frozen q1.out 1) | ((with_reducible refine gate_callee (f := 10) rfl ?_); refine goesL_ (some 18) rfl rfl Try.func10 (by kernel_rfl) rfl #[.slice A0 l0.length c0] rfl ma ?_; (with_reducible refine (laws_toIntS.calls k _ _ l0 t276 _ ?side1 ?side2 A5.out).mono ?_); (case side1 => exact Kd.C_below HR0.out (q8_5)); (case side2 => exact HC0.out); rintro e w13 ⟨v277, rfl, ho0, hb⟩; refine ⟨_, rfl, ?_⟩; have n0_ := q0_5 (Kd.R_elder' (by refine ra ?_; exact (Kd.R_mono (Kd.R_far (p := ⟨q4, 1, none⟩) (Kd.R_far (p := ⟨q4, 0, none⟩) (Kd.R_types q2.out q1.out (by decide)) (fun _ hk => hk.2) (.int .i64 t272)) (fun _ hk => hk.2) (.int .i64 t273)) (fun _ h_ => h_.1))) (Kd.R_base ho0) hb); have n1_ := q0_5 (Kd.R_lower (Kd.R_new' ho0 (Kd.R_lt (by refine ra ?_; exact (Kd.R_mono (Kd.R_far (p := ⟨q4, 1, none⟩) (Kd.R_far (p := ⟨q4, 0, none⟩) (Kd.R_types q2.out q1.out (by decide)) (fun _ hk => hk.2) (.int .i64 t272)) (fun _ hk => hk.2) (.int .i64 t273)) (fun _ h_ => h_.1))))) (below_size (q8_5))); have n2_ := q0_5 (blk_below (g := q4) (o := .cells #[.int .i64 t272, .int .i64 t273] 30 (0, 0)) (by refine ba ?_; refine blk_put (cs := #[.int .i64 t272, .int .i64 0]) ?_ 1 _ rfl; refine ba ?_; refine blk_put (cs := #[.int .i64 0, .int .i64 0]) ?_ 0 _ rfl; refine ba ?_; exact q1.out) hb); have n3_ := q0_5 (below_step (q8_5) hb); clear q2; clear q1; clear HB; have q2 := n0_; have q7 := n1_; have q1 := n2_; have HB := n3_; clear n0_ n1_ n2_ n3_; (try clear hb); (try clear hb2); (try clear hk); (try clear hi); (try clear ho0); obtain ⟨qd, qe, eo14⟩ := Kd.R_slice q7.out; subst eo14) | ((with_reducible refine gate_callee (f := 19) rfl ?_); refine goesL_ (some 21) rfl rfl Try.func19 (by kernel_rfl) rfl #[.slice qd t276.length qe] rfl ma ?_; (with_reducible refine (impl_ChordOf.calls k _ _ t276 t279 t280 t281 _ ?side1 ?side2 A6.out).mono ?_); (case side1 => exact ca (Kd.R_reads' q7.out).2.2); (case side2 => exact (Kd.R_reads' q7.out).2.1); rintro e w15 ⟨rfl, hb⟩; refine ⟨_, rfl, ?_⟩; have n0_ := q0_5 (Kd.R_below (ra q2.out) hb); have n1_ := q0_5 (Kd.R_below (ra q7.out) hb); have n2_ := q0_5 (bb q1.out hb); have n3_ := q0_5 (below_step (q8_5) hb); clear q2; clear q7; clear q1; clear HB; have q2 := n0_; have q7 := n1_; have q1 := n2_; have HB := n3_; clear n0_ n1_ n2_ n3_; (try clear hb); (try clear hb2); (try clear hk); (try clear hi)) | ((with_reducible refine gate_dst (N := 6) rfl ?_); refine box_event ?hg (N := 6) ?hd (cs := #[.int .i64 0, .int .i64 0]) (t := 30) ?hr ?_; (case hd => rfl); (case hg => rfl); (case hr => first | (go_simp; done) | (go_simp; rfl)); intro q5 hg w16 hbox hb; have n0_ := q0_5 (Kd.R_below (ra q2.out) hb); have n1_ := q0_5 (Kd.R_below (ra q7.out) hb); have n2_ := q0_5 (bb q1.out hb); have n3_ := q0_5 (below_step (q8_5) hb); have n4_ := q0_5 (hbox); have n5_ := q0_5 ((by rw [hg]; exact (below_size (q8_5)) : w.heap.size ≤ q5)); have n6_ := q0_5 ((by rw [hg]; exact (below_size (q8_5)) : w.heap.size ≤ q5)); have n7_ := q0_5 ((by rw [hg]; exact Nat.ne_of_lt (bl q1.out) : q4 ≠ q5)); have n8_ := q0_5 ((by rw [hg]; exact Nat.ne_of_gt (bl q1.out) : q5 ≠ q4)); clear q2; clear q7; clear q1; clear HB; have q2 := n0_; have q7 := n1_; have q1 := n2_; have HB := n3_; have q3 := n4_; have GW282 := n5_; have qj := n6_; have q9 := n7_; have qa := n8_; clear n0_ n1_ n2_ n3_ n4_ n5_ n6_ n7_ n8_; clear hb hbox hg; have hnb17 := qa.out; have hnc17 := q9.out; have hcz18_0 : w16.cell? ⟨q5, 0, none⟩ = some (.int .i64 0) := (blk_cell q3.out 0).trans rfl; have hcz18_1 : w16.cell? ⟨q5, 1, none⟩ = some (.int .i64 0) := (blk_cell q3.out 1).trans rfl; have hfz18_0 := blk_frozen q3.out 0; have hfz18_1 := blk_frozen q3.out 1)))
   ((try simp only [Act.put, List.setIfInBounds_toArray, List.set_cons_zero, List.set_cons_succ])); (go_cut [32] (fun v32 wc => ∃ (kq : Nat) (x32_6 : Bool), v32 = .bool x32_6 ∧ Aside0 (laws_FnExactChordOf.j0 kq l0 t276 x32_6 = some true) ∧ Aside0 (kq ≤ k) ∧ Aside0 (Kd.R (Kd.int .i64) 3 wc w.heap.size (fun _ => True) (.slice qd t276.length qe) t276) ∧ Aside0 (wc.heap[q4]? = some (.cells #[.int .i64 t272, .int .i64 t273] 30 (0, 0))) ∧ Aside0 (wc.heap[q5]? = some (.cells #[.int .i64 t279, .int .i64 t280] 30 (0, 0))) ∧ Aside0 (Below w.heap.size w wc)))
   case first =>
    have H := HC7.out; clear HC7; replace H := Option.bind_eq_some_iff.mp H; obtain ⟨t283, A190, H⟩ := H; (try dsimp only at H); have A19 := q0_5 A190; clear A190
    by_cases c20 : t283 = true
    · subst c20
      have H1 := H; rw [if_pos rfl] at H1; clear H; have H := H1; clear H1; (have H' := q0_5 H); clear H; have hnb21 := qa.out; have hnc21 := q9.out; (have hcz22_0 : w16.cell? ⟨q5, 0, none⟩ = some (.int .i64 0) := (blk_cell q3.out 0).trans rfl); (have hcz22_1 : w16.cell? ⟨q5, 1, none⟩ = some (.int .i64 0) := (blk_cell q3.out 1).trans rfl); have hfz22_0 := blk_frozen q3.out 0; have hfz22_1 := blk_frozen q3.out 1; (have hcz23_0 : w16.cell? ⟨q4, 0, none⟩ = some (.int .i64 t272) := (blk_cell q1.out 0).trans rfl); (have hcz23_1 : w16.cell? ⟨q4, 1, none⟩ = some (.int .i64 t273) := (blk_cell q1.out 1).trans rfl); have hfz23_0 := blk_frozen q1.out 0; have hfz23_1 := blk_frozen q1.out 1; (go_wp2_with (first | ((with_reducible refine gate_callee (f := 20) rfl ?_); refine goesL_ (some 26) rfl rfl Try.func20 (by kernel_rfl) rfl #[.agg #[.int .i64 t279, .int .i64 t280], .agg #[.int .i64 t272, .int .i64 t273]] rfl ma ?_; (with_reducible refine (laws_eqChord.calls t279 t280 t272 t273 true _ A19.out).mono ?_); rintro e w24 ⟨rfl, hb⟩; refine ⟨_, rfl, ?_⟩; have n0_ := q0_5 (Kd.R_below (by refine ra ?_; exact (Kd.R_mono (Kd.R_far (p := ⟨q5, 1, none⟩) (Kd.R_far (p := ⟨q5, 0, none⟩) (Kd.R_types q2.out q3.out (by decide)) (fun _ hk => hk.2) (.int .i64 t279)) (fun _ hk => hk.2) (.int .i64 t280)) (fun _ h_ => h_.1))) hb); have n1_ := q0_5 (Kd.R_below (by refine ra ?_; exact (Kd.R_mono (Kd.R_far (p := ⟨q5, 1, none⟩) (Kd.R_far (p := ⟨q5, 0, none⟩) (Kd.R_types q7.out q3.out (by decide)) (fun _ hk => hk.2) (.int .i64 t279)) (fun _ hk => hk.2) (.int .i64 t280)) (fun _ h_ => h_.1))) hb); have n2_ := q0_5 (blk_below (g := q4) (o := .cells #[.int .i64 t272, .int .i64 t273] 30 (0, 0)) (by refine ba ?_; refine blk_far ?_ q9.out _; refine ba ?_; refine blk_far ?_ q9.out _; refine ba ?_; exact q1.out) hb); have n3_ := q0_5 (blk_below (g := q5) (o := .cells #[.int .i64 t279, .int .i64 t280] 30 (0, 0)) (by refine ba ?_; refine blk_put (cs := #[.int .i64 t279, .int .i64 0]) ?_ 1 _ rfl; refine ba ?_; refine blk_put (cs := #[.int .i64 0, .int .i64 0]) ?_ 0 _ rfl; refine ba ?_; exact q3.out) hb); have n4_ := q0_5 (below_step (q6_5) hb); clear q2; clear q7; clear q1; clear q3; clear HB; have q2 := n0_; have q7 := n1_; have q1 := n2_; have q3 := n3_; have HB := n4_; clear n0_ n1_ n2_ n3_ n4_; (try clear hb); (try clear hb2); (try clear hk); (try clear hi)))); (go_meet)
      case rel => exact ⟨_, ((t281 != t274)), (by first | rfl | (simp; done) | (simp [*]; done)), H', ⟨by first | omega | exact Nat.le_refl _⟩, ⟨by refine ra ?_; exact Kd.R_mono q7.out (fun _ hk => trivial)⟩, ⟨by refine ba ?_; exact q1.out⟩, ⟨by refine ba ?_; exact q3.out⟩, ⟨by exact (q6_5)⟩⟩
    · replace c20 := Bool.eq_false_iff.mpr c20
      subst c20; (have H1 : (laws_FnExactChordOf.j0 k l0 t276 true) = some true := by rw [if_neg (show ¬ (false = true) by decide)] at H; exact H); clear H; have H := H1; clear H1; (exact absurd H (by cases k <;> simp [laws_FnExactChordOf.j0]))
   case rest =>
    clear HC7; (try clear c1); (try clear c2); (try clear c2b0); (try clear c2b1); (try clear p2); (try clear c5); (try clear c10); (try clear c17); (try clear c18); (try clear c19); (try clear c20); (try clear c21); (try clear c25); (try clear hcz12_0); (try clear hcz12_1); (try clear hcz18_0); (try clear hcz18_1); (try clear hcz22_0); (try clear hcz22_1); (try clear hcz23_0); (try clear hcz23_1); (try clear hcz26_0); (try clear hcz26_1); (try clear hcz27_0); (try clear hcz27_1); (try clear hfz12_0); (try clear hfz12_1); (try clear hfz18_0); (try clear hfz18_1); (try clear hfz22_0); (try clear hfz22_1); (try clear hfz23_0); (try clear hfz23_1); (try clear hfz26_0); (try clear hfz26_1); (try clear hfz27_0); (try clear hfz27_1); obtain ⟨kq, x32_6, rfl, HA, HJ6, qb, q1, q3, HB⟩ := hcut
    cases kq with
    | zero => exact absurd HA.out (by simp [laws_FnExactChordOf.j0])
    | succ kj6 =>
     have H := HA.out; clear HA; (simp only [laws_FnExactChordOf.j0] at H)
     by_cases c29 : x32_6 = true
     · subst c29
       have H1 := H; rw [if_pos rfl] at H1; clear H; have H := H1; clear H1; exact absurd H (by simp)
     · replace c29 := Bool.eq_false_iff.mpr c29
       subst c29; (have H1 : ((laws_toIntS.f kj6 l0).bind fun t284 => ((laws_eqIntS.f kj6 t276 t284).bind fun t287 => (if t287 = true then (some true) else (some false)))) = some true := by rw [if_neg (show ¬ (false = true) by decide)] at H; exact H); clear H; have H := H1; clear H1; replace H := Option.bind_eq_some_iff.mp H; obtain ⟨t284, A300, H⟩ := H; (try dsimp only at H); have A30 := q0_5 A300; clear A300; replace H := Option.bind_eq_some_iff.mp H; obtain ⟨t287, A310, H⟩ := H; (try dsimp only at H); have A31 := q0_5 A310; clear A310
       by_cases c32 : t287 = true
       · subst c32
         (have H1 : (some true) = some true := rfl); clear H; have H := H1; clear H1 H; (go_wp2_with (first | ((with_reducible refine gate_callee (f := 10) rfl ?_); refine goesL_ (some 35) rfl rfl Try.func10 (by kernel_rfl) rfl #[.slice A0 l0.length c0] rfl ma ?_; (with_reducible refine (laws_toIntS.calls kj6 _ _ l0 t284 _ ?side1 ?side2 A30.out).mono ?_); (case side1 => exact ca (Kd.C_below HR0.out HB.out)); (case side2 => exact HC0.out); rintro e w33 ⟨v285, rfl, ho0, hb⟩; refine ⟨_, rfl, ?_⟩; have n0_ := q0_5 (Kd.R_elder' (ra qb.out) (Kd.R_base ho0) hb); have n1_ := q0_5 (Kd.R_lower (Kd.R_new' ho0 (Kd.R_lt (ra qb.out))) (below_size (q6_5))); have n2_ := q0_5 (bb q1.out hb); have n3_ := q0_5 (bb q3.out hb); have n4_ := q0_5 (below_step (q6_5) hb); clear qb; clear q1; clear q3; clear HB; have qb := n0_; have qc := n1_; have q1 := n2_; have q3 := n3_; have HB := n4_; clear n0_ n1_ n2_ n3_ n4_; (try clear hb); (try clear hb2); (try clear hk); (try clear hi); (try clear ho0); obtain ⟨qg, qh, eo34⟩ := Kd.R_slice qc.out; subst eo34) | ((with_reducible refine gate_callee (f := 12) rfl ?_); refine goesL_ (some 36) rfl rfl Try.func12 (by kernel_rfl) rfl #[.slice qd t276.length qe, .slice qg t284.length qh] rfl ma ?_; (with_reducible refine (laws_eqIntS.calls kj6 _ _ t276 _ _ t284 true _ ?side1 ?side2 ?side3 ?side4 A31.out).mono ?_); (case side1 => exact ca (Kd.R_reads' qb.out).2.2); (case side2 => exact (Kd.R_reads' qb.out).2.1); (case side3 => exact ca (Kd.R_reads' qc.out).2.2); (case side4 => exact (Kd.R_reads' qc.out).2.1); rintro e w' ⟨rfl, ⟨nd, rfl⟩⟩; refine ⟨_, rfl, ?_⟩))); go_ret; (exact ⟨by first | rfl | (simp [errW_none, errW_some] <;> rfl) | (simp [*, errW_none, errW_some] <;> rfl), by exact (q6_5)⟩)
       · replace c32 := Bool.eq_false_iff.mpr c32
         subst c32; (have H1 : (some false) = some true := by rw [if_neg (show ¬ (false = true) by decide)] at H; exact H); clear H; have H := H1; clear H1; exact absurd H (by simp)
end Go.Proofs.Ytpdhhpgdjbeaeaa.PFnExactChordOf
