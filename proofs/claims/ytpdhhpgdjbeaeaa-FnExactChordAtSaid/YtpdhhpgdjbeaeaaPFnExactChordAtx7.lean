-- Written for this claim by a program of this repository (wip/tools/print2.py), out of the translation; Lean checks it.
import Derived.Test.YtpdhhpgdjbeaeaaPFnExactChordAtx0
import Derived.Test.YtpdhhpgdjbeaeaaPFnExactChordAtx6
namespace Go.Proofs.Ytpdhhpgdjbeaeaa.PFnExactChordAt
open Go.RowKit Go.Proofs.YtpdhhpgdjbeaeaaW.PrintWords Go.Proofs.YtpdhhpgdjbeaeaaW.PrintLast Go.Proofs.YtpdhhpgdjbeaeaaW.PrintMore
attribute [local go_sem] max2_int min2_int max_two min_two max_three min_three max_four min_four   -- for this text's walks alone
set_option linter.unusedVariables false
set_option linter.unusedSimpArgs false
-- SHORT
theorem qm_7 {p : Prop} (f : p := by repeat (first | (with_reducible first | exact HB.out | apply below_alloc | apply pw_below_drewN | apply below_drew1) | exact HB.out)) : p := f
theorem q2_7 {p : Prop} (f : p := by repeat (first | (with_reducible first | exact HB.out | apply below_alloc | apply pw_below_drewN | apply below_drew1 | refine below_set ?_ qn.out) | exact HB.out)) : p := f
theorem qe_7 {p : Prop} (f : p := by repeat (first | (with_reducible first | exact HB.out | apply below_alloc | apply pw_below_drewN | apply below_drew1 | refine below_set ?_ z08.out) | exact HB.out)) : p := f
theorem q9_7 {p : Prop} (f : p := by repeat (first | (with_reducible first | exact HB.out | apply below_alloc | apply pw_below_drewN | apply below_drew1 | refine below_set ?_ z08.out | refine below_set ?_ z01.out) | exact HB.out)) : p := f
theorem q0_7 {p : Prop} (h : p) : Aside0 p := ⟨h⟩
/-! ### impl_TonesOf: function 17 -/
def impl_TonesOf.l0 : Nat → List Int → List Int → Int → Int → Int → Int → Option (List Int)
 | 0, _, _, _, _, _, _ => none
 | k + 1, x3, x21, x22, x23, x275000, x275001 => if x23 < x22 then (if 0 ≤ x23 then (if x23 < (x21.length : Int) then (if x3.length < 17592186044416 then (impl_TonesOf.l0 k (x3 ++ [wrap64 (x275000 + (rd x21 x23))]) x21 x22 (wrap64 (x23 + 1)) x275000 x275001) else (none)) else (none)) else (none)) else ((impl_ClassesOf.f k x3).bind fun t305 => (some t305))
def impl_TonesOf.f (k : Nat) (a0_0 : Int) (a0_1 : Int) : Option (List Int) := (impl_IsChord.f a0_0 a0_1).bind fun t275 => (if t275 = true then ((some (([(([0, 4, 7] : List Int)), (([0, 3, 7] : List Int)), (([0, 3, 6] : List Int)), (([0, 4, 8] : List Int)), (([0, 4, 7, 10] : List Int))] : List (List Int)) : List (List Int))).bind fun y297 => (if 0 ≤ (wrap64 (a0_1 - 1)) then (if (wrap64 (a0_1 - 1)) < (y297.length : Int) then (impl_TonesOf.l0 k (([] : List Int)) (rd_L2 y297 (wrap64 (a0_1 - 1))) ((rd_L2 y297 (wrap64 (a0_1 - 1))).length : Int) 0 a0_0 a0_1) else (none)) else (none))) else (some (([] : List Int))))
theorem impl_TonesOf.mono_l : ∀ k, (∀ y0 y1 y2 y3 y4 y5, LeO (impl_TonesOf.l0 k y0 y1 y2 y3 y4 y5) (impl_TonesOf.l0 (k + 1) y0 y1 y2 y3 y4 y5))
 | 0 => fun _ _ _ _ _ _ r h => by simp [impl_TonesOf.l0] at h
 | k + 1 => by
  have ih0 := impl_TonesOf.mono_l k
  · intro y0 y1 y2 y3 y4 y5
    unfold impl_TonesOf.l0
    repeat' first
    | (with_reducible exact ih0 _ _ _ _ _ _)
    | (with_reducible exact impl_ClassesOf.mono _ _)
    | (with_reducible exact LeO.refl _)
    | (with_reducible exact LeO.none _)
    | (with_reducible refine LeO.ite ?_ ?_)
    | (with_reducible refine LeO.bind ?_ (fun _ => ?_))
    | exact ih0 _ _ _ _ _ _
    | exact impl_ClassesOf.mono _ _
    | exact LeO.none _
    | refine LeO.ite ?_ ?_
    | refine LeO.bind ?_ (fun _ => ?_)
theorem impl_TonesOf.mono : ∀ a0 a1 k, LeO (impl_TonesOf.f k a0 a1) (impl_TonesOf.f (k + 1) a0 a1) := by
 intro a0 a1 k; have ih0 := impl_TonesOf.mono_l k; unfold impl_TonesOf.f
 repeat' first
  | (with_reducible exact ih0 _ _ _ _ _ _)
  | (with_reducible exact impl_ClassesOf.mono _ _)
  | (with_reducible exact LeO.refl _)
  | (with_reducible exact LeO.none _)
  | (with_reducible refine LeO.ite ?_ ?_)
  | (with_reducible refine LeO.bind ?_ (fun _ => ?_))
  | exact ih0 _ _ _ _ _ _
  | exact impl_ClassesOf.mono _ _
  | exact LeO.none _
  | refine LeO.ite ?_ ?_
  | refine LeO.bind ?_ (fun _ => ?_)
set_option maxHeartbeats 8000000 in
set_option maxRecDepth 100000 in
theorem impl_TonesOf.calls (k : Nat) (a0_0 : Int) (a0_1 : Int) (r : List Int) (w : World) (h : impl_TonesOf.f k a0_0 a0_1 = some r) :
 Calls Try.prog 17 #[.agg #[.int .i64 a0_0, .int .i64 a0_1]] w fun e w' => ∃ v0_ : Value, e = .returned (v0_) ∧ Kd.R (Kd.int .i64) 3 w' w.heap.size (fun _ => True) v0_ r ∧ Below w.heap.size w w' := by
 have hu30 := Try.underlying30; have HB := q0_7 (Below.refl w.heap.size w); (have H : ((impl_IsChord.f a0_0 a0_1).bind fun t275 => (if t275 = true then ((some (([(([0, 4, 7] : List Int)), (([0, 3, 7] : List Int)), (([0, 3, 6] : List Int)), (([0, 4, 8] : List Int)), (([0, 4, 7, 10] : List Int))] : List (List Int)) : List (List Int))).bind fun y297 => (if 0 ≤ (wrap64 (a0_1 - 1)) then (if (wrap64 (a0_1 - 1)) < (y297.length : Int) then (impl_TonesOf.l0 k (([] : List Int)) (rd_L2 y297 (wrap64 (a0_1 - 1))) ((rd_L2 y297 (wrap64 (a0_1 - 1))).length : Int) 0 a0_0 a0_1) else (none)) else (none))) else (some (([] : List Int))))) = some r := h); clear h; replace H := Option.bind_eq_some_iff.mp H; obtain ⟨t275, A20, H⟩ := H; replace H : (if t275 = true then ((some (([(([0, 4, 7] : List Int)), (([0, 3, 7] : List Int)), (([0, 3, 6] : List Int)), (([0, 4, 8] : List Int)), (([0, 4, 7, 10] : List Int))] : List (List Int)) : List (List Int))).bind fun y297 => (if 0 ≤ (wrap64 (a0_1 - 1)) then (if (wrap64 (a0_1 - 1)) < (y297.length : Int) then (impl_TonesOf.l0 k (([] : List Int)) (rd_L2 y297 (wrap64 (a0_1 - 1))) ((rd_L2 y297 (wrap64 (a0_1 - 1))).length : Int) 0 a0_0 a0_1) else (none)) else (none))) else (some (([] : List Int)))) = some r := H; have A2 := q0_7 A20; clear A20
 by_cases c3 : t275 = true
 · subst c3
   have H1 : ((some (([(([0, 4, 7] : List Int)), (([0, 3, 7] : List Int)), (([0, 3, 6] : List Int)), (([0, 4, 8] : List Int)), (([0, 4, 7, 10] : List Int))] : List (List Int)) : List (List Int))).bind fun y297 => (if 0 ≤ (wrap64 (a0_1 - 1)) then (if (wrap64 (a0_1 - 1)) < (y297.length : Int) then (impl_TonesOf.l0 k (([] : List Int)) (rd_L2 y297 (wrap64 (a0_1 - 1))) ((rd_L2 y297 (wrap64 (a0_1 - 1))).length : Int) 0 a0_0 a0_1) else (none)) else (none))) = some r := by rw [if_pos rfl] at H; exact H
   clear H; have H := H1; clear H1; obtain ⟨y279, hy279⟩ : ∃ y_ : List Int, y_ = (([] : List Int)) := ⟨_, rfl⟩; (replace H : ((some (([(([0, 4, 7] : List Int)), (([0, 3, 7] : List Int)), (([0, 3, 6] : List Int)), (([0, 4, 8] : List Int)), (([0, 4, 7, 10] : List Int))] : List (List Int)) : List (List Int))).bind fun y297 => (if 0 ≤ (wrap64 (a0_1 - 1)) then (if (wrap64 (a0_1 - 1)) < (y297.length : Int) then (impl_TonesOf.l0 k y279 (rd_L2 y297 (wrap64 (a0_1 - 1))) ((rd_L2 y297 (wrap64 (a0_1 - 1))).length : Int) 0 a0_0 a0_1) else (none)) else (none))) = some r := by first | (rw [hy279]; with_reducible exact H) | (have H2_ := (Option.bind_some _ _).symm.trans H; rw [hy279]; with_reducible exact H2_) | (have H2_ := (Option.bind_some _ _).symm.trans H; with_reducible exact H2_) | with_reducible exact H | (rw [hy279]; exact H) | exact H); have Ny279 := q0_7 hy279; clear hy279; obtain ⟨y282, hy282⟩ : ∃ y_ : List Int, y_ = (([0, 4, 7] : List Int)) := ⟨_, rfl⟩; (replace H : ((some (([y282, (([0, 3, 7] : List Int)), (([0, 3, 6] : List Int)), (([0, 4, 8] : List Int)), (([0, 4, 7, 10] : List Int))] : List (List Int)) : List (List Int))).bind fun y297 => (if 0 ≤ (wrap64 (a0_1 - 1)) then (if (wrap64 (a0_1 - 1)) < (y297.length : Int) then (impl_TonesOf.l0 k y279 (rd_L2 y297 (wrap64 (a0_1 - 1))) ((rd_L2 y297 (wrap64 (a0_1 - 1))).length : Int) 0 a0_0 a0_1) else (none)) else (none))) = some r := by first | (rw [hy282]; with_reducible exact H) | (have H2_ := (Option.bind_some _ _).symm.trans H; rw [hy282]; with_reducible exact H2_) | (have H2_ := (Option.bind_some _ _).symm.trans H; with_reducible exact H2_) | with_reducible exact H | (rw [hy282]; exact H) | exact H); have Ny282 := q0_7 hy282; clear hy282; obtain ⟨y285, hy285⟩ : ∃ y_ : List Int, y_ = (([0, 3, 7] : List Int)) := ⟨_, rfl⟩; (replace H : ((some (([y282, y285, (([0, 3, 6] : List Int)), (([0, 4, 8] : List Int)), (([0, 4, 7, 10] : List Int))] : List (List Int)) : List (List Int))).bind fun y297 => (if 0 ≤ (wrap64 (a0_1 - 1)) then (if (wrap64 (a0_1 - 1)) < (y297.length : Int) then (impl_TonesOf.l0 k y279 (rd_L2 y297 (wrap64 (a0_1 - 1))) ((rd_L2 y297 (wrap64 (a0_1 - 1))).length : Int) 0 a0_0 a0_1) else (none)) else (none))) = some r := by first | (rw [hy285]; with_reducible exact H) | (have H2_ := (Option.bind_some _ _).symm.trans H; rw [hy285]; with_reducible exact H2_) | (have H2_ := (Option.bind_some _ _).symm.trans H; with_reducible exact H2_) | with_reducible exact H | (rw [hy285]; exact H) | exact H); have Ny285 := q0_7 hy285; clear hy285; obtain ⟨y288, hy288⟩ : ∃ y_ : List Int, y_ = (([0, 3, 6] : List Int)) := ⟨_, rfl⟩
   replace H : ((some (([y282, y285, y288, (([0, 4, 8] : List Int)), (([0, 4, 7, 10] : List Int))] : List (List Int)) : List (List Int))).bind fun y297 => (if 0 ≤ (wrap64 (a0_1 - 1)) then (if (wrap64 (a0_1 - 1)) < (y297.length : Int) then (impl_TonesOf.l0 k y279 (rd_L2 y297 (wrap64 (a0_1 - 1))) ((rd_L2 y297 (wrap64 (a0_1 - 1))).length : Int) 0 a0_0 a0_1) else (none)) else (none))) = some r := by first | (rw [hy288]; with_reducible exact H) | (have H2_ := (Option.bind_some _ _).symm.trans H; rw [hy288]; with_reducible exact H2_) | (have H2_ := (Option.bind_some _ _).symm.trans H; with_reducible exact H2_) | with_reducible exact H | (rw [hy288]; exact H) | exact H
   have Ny288 := q0_7 hy288; clear hy288; obtain ⟨y291, hy291⟩ : ∃ y_ : List Int, y_ = (([0, 4, 8] : List Int)) := ⟨_, rfl⟩; (replace H : ((some (([y282, y285, y288, y291, (([0, 4, 7, 10] : List Int))] : List (List Int)) : List (List Int))).bind fun y297 => (if 0 ≤ (wrap64 (a0_1 - 1)) then (if (wrap64 (a0_1 - 1)) < (y297.length : Int) then (impl_TonesOf.l0 k y279 (rd_L2 y297 (wrap64 (a0_1 - 1))) ((rd_L2 y297 (wrap64 (a0_1 - 1))).length : Int) 0 a0_0 a0_1) else (none)) else (none))) = some r := by first | (rw [hy291]; with_reducible exact H) | (have H2_ := (Option.bind_some _ _).symm.trans H; rw [hy291]; with_reducible exact H2_) | (have H2_ := (Option.bind_some _ _).symm.trans H; with_reducible exact H2_) | with_reducible exact H | (rw [hy291]; exact H) | exact H); have Ny291 := q0_7 hy291; clear hy291; obtain ⟨y294, hy294⟩ : ∃ y_ : List Int, y_ = (([0, 4, 7, 10] : List Int)) := ⟨_, rfl⟩; (replace H : ((some (([y282, y285, y288, y291, y294] : List (List Int)) : List (List Int))).bind fun y297 => (if 0 ≤ (wrap64 (a0_1 - 1)) then (if (wrap64 (a0_1 - 1)) < (y297.length : Int) then (impl_TonesOf.l0 k y279 (rd_L2 y297 (wrap64 (a0_1 - 1))) ((rd_L2 y297 (wrap64 (a0_1 - 1))).length : Int) 0 a0_0 a0_1) else (none)) else (none))) = some r := by first | (rw [hy294]; with_reducible exact H) | (have H2_ := (Option.bind_some _ _).symm.trans H; rw [hy294]; with_reducible exact H2_) | (have H2_ := (Option.bind_some _ _).symm.trans H; with_reducible exact H2_) | with_reducible exact H | (rw [hy294]; exact H) | exact H); have Ny294 := q0_7 hy294; clear hy294; obtain ⟨y297, hy297⟩ : ∃ y_ : List (List Int), y_ = (([y282, y285, y288, y291, y294] : List (List Int))) := ⟨_, rfl⟩; (replace H : (if 0 ≤ (wrap64 (a0_1 - 1)) then (if (wrap64 (a0_1 - 1)) < (y297.length : Int) then (impl_TonesOf.l0 k y279 (rd_L2 y297 (wrap64 (a0_1 - 1))) ((rd_L2 y297 (wrap64 (a0_1 - 1))).length : Int) 0 a0_0 a0_1) else (none)) else (none)) = some r := by first | (rw [hy297]; with_reducible exact H) | (have H2_ := (Option.bind_some _ _).symm.trans H; rw [hy297]; with_reducible exact H2_) | (have H2_ := (Option.bind_some _ _).symm.trans H; with_reducible exact H2_) | with_reducible exact H | (rw [hy297]; exact H) | exact H); have Ny297 := q0_7 hy297; clear hy297; obtain ⟨ji4, hji4⟩ : ∃ j_ : Int, (wrap64 (a0_1 - 1)) = j_ := ⟨_, rfl⟩; (replace H : (if 0 ≤ (ji4) then (if (ji4) < (y297.length : Int) then (impl_TonesOf.l0 k y279 (rd_L2 y297 (ji4)) ((rd_L2 y297 (ji4)).length : Int) 0 a0_0 a0_1) else (none)) else (none)) = some r := by first | (rw [hji4] at H; exact H) | (simp only [hji4] at H ⊢; exact H)); ((try rw [hji4] at A2)); (have hji4w : (IntKind.i64.wrap (a0_1 - 1)) = ji4 := (i64_w _).trans hji4)
   by_cases c5 : 0 ≤ (ji4)
   · rw [if_pos c5] at H
     (have c5b0 : decide (0 ≤ (ji4)) = true := decide_eq_true c5); clear c5
     by_cases c6 : (ji4) < (y297.length : Int)
     · rw [if_pos c6] at H
       (have c6b0 : decide ((ji4) < (y297.length : Int)) = true := decide_eq_true c6); clear c6; (have H' := q0_7 H); clear H; go_enter Try.func17, Try.ntmps17
       (go_wp2_with (first | ((with_reducible refine gate_dst (N := 1) rfl ?_); refine box_event ?hg (N := 1) ?hd (cs := #[.int .i64 a0_0, .int .i64 a0_1]) (t := 30) ?hr ?_; (case hd => rfl); (case hg => rfl); (case hr => first | (go_simp; done) | (go_simp; rfl)); intro q5 hg w7 hbox hb; have n0_ := q0_7 (below_step (qm_7) hb); have n1_ := q0_7 (hbox); have n2_ := q0_7 ((by rw [hg]; exact (below_size (qm_7)) : w.heap.size ≤ q5)); have n3_ := q0_7 ((by rw [hg]; exact (below_size (qm_7)) : w.heap.size ≤ q5)); clear HB; have HB := n0_; have q1 := n1_; have GW274 := n2_; have qn := n3_; clear n0_ n1_ n2_ n3_; clear hb hbox hg; have hcz8_0 : w7.cell? ⟨q5, 0, none⟩ = some (.int .i64 a0_0) := (blk_cell q1.out 0).trans rfl; have hcz8_1 : w7.cell? ⟨q5, 1, none⟩ = some (.int .i64 a0_1) := (blk_cell q1.out 1).trans rfl; have hfz8_0 := blk_frozen q1.out 0; have hfz8_1 := blk_frozen q1.out 1) | ((with_reducible refine gate_callee (f := 41) rfl ?_); refine goesL_ (some 7) rfl rfl Try.func41 (by kernel_rfl) rfl #[.agg #[.int .i64 a0_0, .int .i64 a0_1]] rfl ma ?_; (with_reducible refine (impl_IsChord.calls a0_0 a0_1 true _ A2.out).mono ?_); rintro e w9 ⟨rfl, hb⟩; refine ⟨_, rfl, ?_⟩; have n0_ := q0_7 (bb q1.out hb); have n1_ := q0_7 (below_step (q2_7) hb); clear q1; clear HB; have q1 := n0_; have HB := n1_; clear n0_ n1_; (try clear hb); (try clear hb2); (try clear hk); (try clear hi)) | ((with_reducible refine gate_dst (N := 10) rfl ?_); refine Kd.R_lit (Kd.int .i64) _ 3 ?hg (N := 10) ?hd (xs := ([] : List Int)) (inner := []) (ok := fun _ => True) (okp := fun _ => True) ?hr ?hp (fun _ hk => hk) trivial (Below.refl _ _) (Nat.le_refl _) (by simp) ?_; (case hd => rfl); (case hg => rfl); (case hr => first | (go_simp; done) | (go_simp; rfl)); (case hp => exact (Reps.none _ _)); intro v280 w10 ho11 hb hg_ hnew_; clear hg_ hnew_; (first | rw [← Ny279.out] at ho11 | (simp only [Int.reduceToNat] at ho11; rw [← Ny279.out] at ho11)); have n0_ := q0_7 (Kd.R_lower ho11 (below_size (q2_7))); have n1_ := q0_7 (bb q1.out hb); have n2_ := q0_7 (below_step (q2_7) hb); clear q1; clear HB; have q6 := n0_; have q1 := n1_; have HB := n2_; clear n0_ n1_ n2_; clear hb ho11) | ((with_reducible refine gate_dst (N := 11) rfl ?_); refine Kd.R_lit (Kd.int .i64) _ 3 ?hg (N := 11) ?hd (xs := ([0, 4, 7] : List Int)) (inner := [.int .i64 0, .int .i64 4, .int .i64 7]) (ok := fun _ => True) (okp := fun _ => True) ?hr ?hp (fun _ hk => hk) trivial (Below.refl _ _) (Nat.le_refl _) (by simp) ?_; (case hd => rfl); (case hg => rfl); (case hr => first | (go_simp; done) | (go_simp; rfl)); (case hp => exact (Reps.one (show Kd.M (Kd.int .i64) _ _ _ 0 [.int .i64 0] from rfl) (Reps.one (show Kd.M (Kd.int .i64) _ _ _ 4 [.int .i64 4] from rfl) (Reps.one (show Kd.M (Kd.int .i64) _ _ _ 7 [.int .i64 7] from rfl) (Reps.none _ _))))); intro v283 w12 ho13 hb hg_ hnew_; clear hg_ hnew_; (first | rw [← Ny282.out] at ho13 | (simp only [Int.reduceToNat] at ho13; rw [← Ny282.out] at ho13)); have n0_ := q0_7 (Kd.R_elder' (ra q6.out) (Kd.R_base ho13) hb); have n1_ := q0_7 (Kd.R_lower (Kd.R_new' ho13 (Kd.R_lt (ra q6.out))) (below_size (q2_7))); have n2_ := q0_7 (bb q1.out hb); have n3_ := q0_7 (below_step (q2_7) hb); clear q6; clear q1; clear HB; have q6 := n0_; have q8 := n1_; have q1 := n2_; have HB := n3_; clear n0_ n1_ n2_ n3_; clear hb ho13) | ((with_reducible refine gate_dst (N := 12) rfl ?_); refine Kd.R_lit (Kd.int .i64) _ 3 ?hg (N := 12) ?hd (xs := ([0, 3, 7] : List Int)) (inner := [.int .i64 0, .int .i64 3, .int .i64 7]) (ok := fun _ => True) (okp := fun _ => True) ?hr ?hp (fun _ hk => hk) trivial (Below.refl _ _) (Nat.le_refl _) (by simp) ?_; (case hd => rfl); (case hg => rfl); (case hr => first | (go_simp; done) | (go_simp; rfl)); (case hp => exact (Reps.one (show Kd.M (Kd.int .i64) _ _ _ 0 [.int .i64 0] from rfl) (Reps.one (show Kd.M (Kd.int .i64) _ _ _ 3 [.int .i64 3] from rfl) (Reps.one (show Kd.M (Kd.int .i64) _ _ _ 7 [.int .i64 7] from rfl) (Reps.none _ _))))); intro v286 w14 ho15 hb hg_ hnew_; clear hg_ hnew_; (first | rw [← Ny285.out] at ho15 | (simp only [Int.reduceToNat] at ho15; rw [← Ny285.out] at ho15)); have n0_ := q0_7 (Kd.R_elder' (ra q6.out) (Kd.R_base ho15) hb); have n1_ := q0_7 (Kd.R_elder' (ra q8.out) (Kd.R_base ho15) hb); have n2_ := q0_7 (Kd.R_lower (Kd.R_new' (Kd.R_new' ho15 (Kd.R_lt (ra q6.out))) (Kd.R_lt (ra q8.out))) (below_size (q2_7))); have n3_ := q0_7 (bb q1.out hb); have n4_ := q0_7 (below_step (q2_7) hb); clear q6; clear q8; clear q1; clear HB; have q6 := n0_; have q8 := n1_; have qd := n2_; have q1 := n3_; have HB := n4_; clear n0_ n1_ n2_ n3_ n4_; clear hb ho15) | ((with_reducible refine gate_dst (N := 13) rfl ?_); refine Kd.R_lit (Kd.int .i64) _ 3 ?hg (N := 13) ?hd (xs := ([0, 3, 6] : List Int)) (inner := [.int .i64 0, .int .i64 3, .int .i64 6]) (ok := fun _ => True) (okp := fun _ => True) ?hr ?hp (fun _ hk => hk) trivial (Below.refl _ _) (Nat.le_refl _) (by simp) ?_; (case hd => rfl); (case hg => rfl); (case hr => first | (go_simp; done) | (go_simp; rfl)); (case hp => exact (Reps.one (show Kd.M (Kd.int .i64) _ _ _ 0 [.int .i64 0] from rfl) (Reps.one (show Kd.M (Kd.int .i64) _ _ _ 3 [.int .i64 3] from rfl) (Reps.one (show Kd.M (Kd.int .i64) _ _ _ 6 [.int .i64 6] from rfl) (Reps.none _ _))))); intro v289 w16 ho17 hb hg_ hnew_; clear hg_ hnew_; (first | rw [← Ny288.out] at ho17 | (simp only [Int.reduceToNat] at ho17; rw [← Ny288.out] at ho17)); have n0_ := q0_7 (Kd.R_elder' (ra q6.out) (Kd.R_base ho17) hb); have n1_ := q0_7 (Kd.R_elder' (ra q8.out) (Kd.R_base ho17) hb); have n2_ := q0_7 (Kd.R_elder' (ra qd.out) (Kd.R_base ho17) hb); have n3_ := q0_7 (Kd.R_lower (Kd.R_new' (Kd.R_new' (Kd.R_new' ho17 (Kd.R_lt (ra q6.out))) (Kd.R_lt (ra q8.out))) (Kd.R_lt (ra qd.out))) (below_size (q2_7))); have n4_ := q0_7 (bb q1.out hb); have n5_ := q0_7 (below_step (q2_7) hb); clear q6; clear q8; clear qd; clear q1; clear HB; have q6 := n0_; have q8 := n1_; have qd := n2_; have qf := n3_; have q1 := n4_; have HB := n5_; clear n0_ n1_ n2_ n3_ n4_ n5_; clear hb ho17) | ((with_reducible refine gate_dst (N := 14) rfl ?_); refine Kd.R_lit (Kd.int .i64) _ 3 ?hg (N := 14) ?hd (xs := ([0, 4, 8] : List Int)) (inner := [.int .i64 0, .int .i64 4, .int .i64 8]) (ok := fun _ => True) (okp := fun _ => True) ?hr ?hp (fun _ hk => hk) trivial (Below.refl _ _) (Nat.le_refl _) (by simp) ?_; (case hd => rfl); (case hg => rfl); (case hr => first | (go_simp; done) | (go_simp; rfl)); (case hp => exact (Reps.one (show Kd.M (Kd.int .i64) _ _ _ 0 [.int .i64 0] from rfl) (Reps.one (show Kd.M (Kd.int .i64) _ _ _ 4 [.int .i64 4] from rfl) (Reps.one (show Kd.M (Kd.int .i64) _ _ _ 8 [.int .i64 8] from rfl) (Reps.none _ _))))); intro v292 w18 ho19 hb hg_ hnew_; clear hg_ hnew_; (first | rw [← Ny291.out] at ho19 | (simp only [Int.reduceToNat] at ho19; rw [← Ny291.out] at ho19)); have n0_ := q0_7 (Kd.R_elder' (ra q6.out) (Kd.R_base ho19) hb); have n1_ := q0_7 (Kd.R_elder' (ra q8.out) (Kd.R_base ho19) hb); have n2_ := q0_7 (Kd.R_elder' (ra qd.out) (Kd.R_base ho19) hb); have n3_ := q0_7 (Kd.R_elder' (ra qf.out) (Kd.R_base ho19) hb); have n4_ := q0_7 (Kd.R_lower (Kd.R_new' (Kd.R_new' (Kd.R_new' (Kd.R_new' ho19 (Kd.R_lt (ra q6.out))) (Kd.R_lt (ra q8.out))) (Kd.R_lt (ra qd.out))) (Kd.R_lt (ra qf.out))) (below_size (q2_7))); have n5_ := q0_7 (bb q1.out hb); have n6_ := q0_7 (below_step (q2_7) hb); clear q6; clear q8; clear qd; clear qf; clear q1; clear HB; have q6 := n0_; have q8 := n1_; have qd := n2_; have qf := n3_; have qi := n4_; have q1 := n5_; have HB := n6_; clear n0_ n1_ n2_ n3_ n4_ n5_ n6_; clear hb ho19) | ((with_reducible refine gate_dst (N := 15) rfl ?_); refine Kd.R_lit (Kd.int .i64) _ 3 ?hg (N := 15) ?hd (xs := ([0, 4, 7, 10] : List Int)) (inner := [.int .i64 0, .int .i64 4, .int .i64 7, .int .i64 10]) (ok := fun _ => True) (okp := fun _ => True) ?hr ?hp (fun _ hk => hk) trivial (Below.refl _ _) (Nat.le_refl _) (by simp) ?_; (case hd => rfl); (case hg => rfl); (case hr => first | (go_simp; done) | (go_simp; rfl)); (case hp => exact (Reps.one (show Kd.M (Kd.int .i64) _ _ _ 0 [.int .i64 0] from rfl) (Reps.one (show Kd.M (Kd.int .i64) _ _ _ 4 [.int .i64 4] from rfl) (Reps.one (show Kd.M (Kd.int .i64) _ _ _ 7 [.int .i64 7] from rfl) (Reps.one (show Kd.M (Kd.int .i64) _ _ _ 10 [.int .i64 10] from rfl) (Reps.none _ _)))))); intro v295 w20 ho21 hb hg_ hnew_; clear hg_ hnew_; (first | rw [← Ny294.out] at ho21 | (simp only [Int.reduceToNat] at ho21; rw [← Ny294.out] at ho21)); have n0_ := q0_7 (Kd.R_elder' (ra q6.out) (Kd.R_base ho21) hb); have n1_ := q0_7 (Kd.R_elder' (ra q8.out) (Kd.R_base ho21) hb); have n2_ := q0_7 (Kd.R_elder' (ra qd.out) (Kd.R_base ho21) hb); have n3_ := q0_7 (Kd.R_elder' (ra qf.out) (Kd.R_base ho21) hb); have n4_ := q0_7 (Kd.R_elder' (ra qi.out) (Kd.R_base ho21) hb); have n5_ := q0_7 (Kd.R_lower (Kd.R_new' (Kd.R_new' (Kd.R_new' (Kd.R_new' (Kd.R_new' ho21 (Kd.R_lt (ra q6.out))) (Kd.R_lt (ra q8.out))) (Kd.R_lt (ra qd.out))) (Kd.R_lt (ra qf.out))) (Kd.R_lt (ra qi.out))) (below_size (q2_7))); have n6_ := q0_7 (bb q1.out hb); have n7_ := q0_7 (below_step (q2_7) hb); clear q6; clear q8; clear qd; clear qf; clear qi; clear q1; clear HB; have q6 := n0_; have q8 := n1_; have qd := n2_; have qf := n3_; have qi := n4_; have qk := n5_; have q1 := n6_; have HB := n7_; clear n0_ n1_ n2_ n3_ n4_ n5_ n6_ n7_; clear hb ho21; obtain ⟨qo, qp, eo22⟩ := Kd.R_slice q8.out; subst eo22; obtain ⟨qq, qr, eo23⟩ := Kd.R_slice qd.out; subst eo23; obtain ⟨qs, qt, eo24⟩ := Kd.R_slice qf.out; subst eo24; obtain ⟨qu, qv, eo25⟩ := Kd.R_slice qi.out; subst eo25; obtain ⟨qw, qx, eo26⟩ := Kd.R_slice qk.out; subst eo26) | ((with_reducible refine gate_dst (N := 16) rfl ?_); refine Kd.N_lit (Kd.slice 3 (Kd.int .i64)) _ 22 ?hg (N' := 16) ?hd (xs := ([y282, y285, y288, y291, y294] : List (List Int))) (inner := [.slice qo y282.length qp, .slice qq y285.length qr, .slice qs y288.length qt, .slice qu y291.length qv, .slice qw y294.length qx]) (ok := (fun k_ => some k_ ≠ (v280 : Value).ownBlock ∧ k_ ≠ q5)) (okp := (fun k_ => some k_ ≠ (v280 : Value).ownBlock ∧ k_ ≠ q5)) ?hr ?hp (fun _ hk => hk) ((show ∀ k_, w20.heap.size ≤ k_ → (fun k_ => some k_ ≠ (v280 : Value).ownBlock ∧ k_ ≠ q5) k_ from fun k_ hk => ⟨Kd.fresh' (Kd.R_lt (ra q6.out)) k_ hk, Kd.freshB (g := q5) (o := .cells #[.int .i64 a0_0, .int .i64 a0_1] 30 (0, 0)) (ba q1.out) k_ hk⟩) _ (Nat.le_refl _)) (Below.refl _ _) (Nat.le_refl _) (by simp) ?_; (case hd => rfl); (case hg => rfl); (case hr => first | (go_simp; done) | (go_simp; rfl)); (case hp => exact (Reps.one (show Kd.FK (Kd.slice 3 (Kd.int .i64)) _ _ y282 [.slice qo y282.length qp] from (Kd.FK_slice_mk (Kd.R_reads' (Kd.R_mono (ok' := (fun k_ => some k_ ≠ (v280 : Value).ownBlock ∧ k_ ≠ q5)) (Kd.R_types (q8.out) q1.out (by decide)) (fun k_ hk => ⟨hk.1.1.1.1.1.2, hk.2⟩))).2.1 (Kd.R_F (Kd.R_mono (ok' := (fun k_ => some k_ ≠ (v280 : Value).ownBlock ∧ k_ ≠ q5)) (Kd.R_types (q8.out) q1.out (by decide)) (fun k_ hk => ⟨hk.1.1.1.1.1.2, hk.2⟩))))) (Reps.one (show Kd.FK (Kd.slice 3 (Kd.int .i64)) _ _ y285 [.slice qq y285.length qr] from (Kd.FK_slice_mk (Kd.R_reads' (Kd.R_mono (ok' := (fun k_ => some k_ ≠ (v280 : Value).ownBlock ∧ k_ ≠ q5)) (Kd.R_types (qd.out) q1.out (by decide)) (fun k_ hk => ⟨hk.1.1.1.1.1.2, hk.2⟩))).2.1 (Kd.R_F (Kd.R_mono (ok' := (fun k_ => some k_ ≠ (v280 : Value).ownBlock ∧ k_ ≠ q5)) (Kd.R_types (qd.out) q1.out (by decide)) (fun k_ hk => ⟨hk.1.1.1.1.1.2, hk.2⟩))))) (Reps.one (show Kd.FK (Kd.slice 3 (Kd.int .i64)) _ _ y288 [.slice qs y288.length qt] from (Kd.FK_slice_mk (Kd.R_reads' (Kd.R_mono (ok' := (fun k_ => some k_ ≠ (v280 : Value).ownBlock ∧ k_ ≠ q5)) (Kd.R_types (qf.out) q1.out (by decide)) (fun k_ hk => ⟨hk.1.1.1.1.1.2, hk.2⟩))).2.1 (Kd.R_F (Kd.R_mono (ok' := (fun k_ => some k_ ≠ (v280 : Value).ownBlock ∧ k_ ≠ q5)) (Kd.R_types (qf.out) q1.out (by decide)) (fun k_ hk => ⟨hk.1.1.1.1.1.2, hk.2⟩))))) (Reps.one (show Kd.FK (Kd.slice 3 (Kd.int .i64)) _ _ y291 [.slice qu y291.length qv] from (Kd.FK_slice_mk (Kd.R_reads' (Kd.R_mono (ok' := (fun k_ => some k_ ≠ (v280 : Value).ownBlock ∧ k_ ≠ q5)) (Kd.R_types (qi.out) q1.out (by decide)) (fun k_ hk => ⟨hk.1.1.1.1.1.2, hk.2⟩))).2.1 (Kd.R_F (Kd.R_mono (ok' := (fun k_ => some k_ ≠ (v280 : Value).ownBlock ∧ k_ ≠ q5)) (Kd.R_types (qi.out) q1.out (by decide)) (fun k_ hk => ⟨hk.1.1.1.1.1.2, hk.2⟩))))) (Reps.one (show Kd.FK (Kd.slice 3 (Kd.int .i64)) _ _ y294 [.slice qw y294.length qx] from (Kd.FK_slice_mk (Kd.R_reads' (Kd.R_mono (ok' := (fun k_ => some k_ ≠ (v280 : Value).ownBlock ∧ k_ ≠ q5)) (Kd.R_types (qk.out) q1.out (by decide)) (fun k_ hk => ⟨hk.1.1.1.1.1.2, hk.2⟩))).2.1 (Kd.R_F (Kd.R_mono (ok' := (fun k_ => some k_ ≠ (v280 : Value).ownBlock ∧ k_ ≠ q5)) (Kd.R_types (qk.out) q1.out (by decide)) (fun k_ hk => ⟨hk.1.1.1.1.1.2, hk.2⟩))))) (Reps.none _ _))))))); intro v298 w27 ho28 hb hg_ hnew_; clear hg_ hnew_; (first | rw [← Ny297.out] at ho28 | (simp only [Int.reduceToNat] at ho28; rw [← Ny297.out] at ho28)); have n0_ := q0_7 (Kd.R_below (ra q6.out) hb); have n1_ := q0_7 (Kd.N_lower ho28 (below_size (q2_7))); have n2_ := q0_7 (bb q1.out hb); have n3_ := q0_7 (below_step (q2_7) hb); clear q6; clear q1; clear HB; clear q8; clear qd; clear qf; clear qi; clear qk; have q6 := n0_; have ql := n1_; have q1 := n2_; have HB := n3_; clear n0_ n1_ n2_ n3_; clear hb ho28; have hcz29_0 : w27.cell? ⟨q5, 0, none⟩ = some (.int .i64 a0_0) := (blk_cell q1.out 0).trans rfl; have hcz29_1 : w27.cell? ⟨q5, 1, none⟩ = some (.int .i64 a0_1) := (blk_cell q1.out 1).trans rfl; have hfz29_0 := blk_frozen q1.out 0; have hfz29_1 := blk_frozen q1.out 1; obtain ⟨z09, z0a, eo30⟩ := Kd.N_slice ql.out; subst eo30; have p300 : 0 ≤ ((ji4) : Int) := of_decide_eq_true (by first | (with_reducible assumption) | assumption); have q300 : (ji4) < (y297.length : Int) := of_decide_eq_true (by first | (with_reducible assumption) | assumption); obtain ⟨ad300, A300_0, c300_0, e300, hx300_0, hl300_0, hi300_0⟩ := at_L2 (Kd.N_reads' ql.out).2.2 (ji4) p300 q300; cases e300; obtain ⟨ce300, hce300, hMe300, hcc300⟩ := Kd.N_get ql.out [] (ji4) p300 (by first | exact q300 | exact of_decide_eq_true (by first | (with_reducible assumption) | assumption) | (have e_ := (Kd.N_reads' ql.out).1; omega)); obtain ⟨ua300_0, uc300_0, rfl, ul300_0, ge300_0⟩ := Kd.FK_slice_open hMe300; have hv300_0 := hcc300 0 _ rfl; rw [Nat.add_zero, show ((Kd.slice 3 (Kd.int .i64))).sz = 1 from rfl, Nat.mul_one] at hv300_0; replace hv300_0 := Option.some.inj (hv300_0.symm.trans hx300_0); injection hv300_0 with hva_ hvn_ hvc_; rw [hva_] at ge300_0; rw [hvc_] at ul300_0; have HL300_0 := q0_7 (show Kd.V (Kd.int .i64) 3 _ w.heap.size _ _ (rd_L2 y297 (ji4)) from Kd.V_mk ul300_0 ge300_0); clear hva_ hvn_ hvc_ ge300_0 ul300_0; clear hcc300 hce300; have HR300_0 := q0_7 hi300_0; have HC300_0 := q0_7 hl300_0; clear hi300_0 hl300_0; replace p300 := eq_true p300; replace q300 := eq_true q300)))
       (go_loopg [3, 23] k (fun kq v3 v23 w' => ∃ (x3_1 : List Int) (x23_1 : Int), v23 = .int .i64 x23_1 ∧ Aside0 (impl_TonesOf.l0 kq x3_1 (rd_L2 y297 (ji4)) ((rd_L2 y297 (ji4)).length : Int) x23_1 a0_0 a0_1 = some r) ∧ Aside0 (kq ≤ k) ∧ Aside0 (Kd.V (Kd.int .i64) 3 w' w.heap.size (fun k_ => True ∧ some k_ ≠ (v3 : Value).ownBlock) (.slice A300_0 (rd_L2 y297 (ji4)).length c300_0) (rd_L2 y297 (ji4))) ∧ Aside0 (Kd.R (Kd.int .i64) 3 w' w.heap.size (fun _ => True) v3 x3_1) ∧ Aside0 (w'.heap[q5]? = some (.cells #[.int .i64 a0_0, .int .i64 a0_1] 30 (0, 0))) ∧ Aside0 (Below w.heap.size w w')))
       case atStart => exact ⟨(y279), (0), (by first | rfl | (simp; done) | (simp [*]; done)), H', ⟨Nat.le_refl _⟩, ⟨by (repeat (first | exact (Kd.V_mono HL300_0.out (by intro k_ h_; (try dsimp only at h_); (try dsimp only); (repeat' (apply And.intro)) <;> simp only [h_, ne_eq, not_false_eq_true, and_self])) | refine Kd.V_drewN ?_ _ | refine Kd.V_drew ?_ | refine Kd.V_alloc ?_ _))⟩, ⟨by refine ra ?_; exact Kd.R_mono q6.out (fun _ hk => trivial)⟩, ⟨by refine ba ?_; exact q1.out⟩, ⟨by exact (q2_7)⟩⟩
       case round =>
        clear H'; (try clear c1); (try clear p2); (try clear c3); (try clear p3); (try clear q3); (try clear hx3); (try clear c4); (try clear c5); (try clear c5b0); (try clear c6); (try clear c6b0); (try clear p6); (try clear c17); (try clear c30); (try clear p30); (try clear q30); (try clear hx30); (try clear hcz29_0); (try clear hcz29_1); (try clear hcz8_0); (try clear hcz8_1); (try clear hfz29_0); (try clear hfz29_1); (try clear hfz8_0); (try clear hfz8_1); (try clear hx300_0); (try clear p300); (try clear q300); obtain ⟨x3_1, x23_1, rfl, HA, HK1, HVX, qj, q1, HB⟩ := hrel
        cases gk with
        | zero => exact absurd HA.out (by simp [impl_TonesOf.l0])
        | succ k1 =>
         have H := HA.out; clear HA; (simp only [impl_TonesOf.l0] at H)
         by_cases c31 : x23_1 < ((rd_L2 y297 (ji4)).length : Int)
         · rw [if_pos c31] at H
           (have c31b0 : decide (x23_1 < ((rd_L2 y297 (ji4)).length : Int)) = true := decide_eq_true c31); clear c31
           by_cases c32 : 0 ≤ x23_1
           · rw [if_pos c32] at H
             (have c32b0 : decide (0 ≤ x23_1) = true := decide_eq_true c32); clear c32
             by_cases c33 : x23_1 < ((rd_L2 y297 (ji4)).length : Int)
             · rw [if_pos c33] at H
               (have c33b0 : decide (x23_1 < ((rd_L2 y297 (ji4)).length : Int)) = true := decide_eq_true c33); clear c33
               by_cases c34 : x3_1.length < 17592186044416
               · rw [if_pos c34] at H
                 have LMc34 := q0_7 c34; clear c34; obtain ⟨y302, hy302⟩ : ∃ y_ : List Int, y_ = (x3_1 ++ [wrap64 (a0_0 + (rd (rd_L2 y297 (ji4)) x23_1))]) := ⟨_, rfl⟩; (replace H : (impl_TonesOf.l0 k1 y302 (rd_L2 y297 (ji4)) ((rd_L2 y297 (ji4)).length : Int) (wrap64 (x23_1 + 1)) a0_0 a0_1) = some r := by first | (rw [hy302]; with_reducible exact H) | (have H2_ := (Option.bind_some _ _).symm.trans H; rw [hy302]; with_reducible exact H2_) | (have H2_ := (Option.bind_some _ _).symm.trans H; with_reducible exact H2_) | with_reducible exact H | (rw [hy302]; exact H) | exact H); have Ny302 := q0_7 hy302; clear hy302; (have H' := q0_7 H); clear H; (have p301 : 0 ≤ (x23_1 : Int) := of_decide_eq_true (by first | (with_reducible assumption) | assumption)); (have q301 : x23_1 < ((rd_L2 y297 (ji4)).length : Int) := of_decide_eq_true (by first | (with_reducible assumption) | assumption)); obtain ⟨ad301, e301, hx301_0⟩ := Kd.at_int (Kd.V_reads' HVX.out).2.2 x23_1 p301 q301
                 cases e301
                 replace p301 := eq_true p301; replace q301 := eq_true q301; (have hcz35_0 : wr.cell? ⟨q5, 0, none⟩ = some (.int .i64 a0_0) := (blk_cell q1.out 0).trans rfl); (have hcz35_1 : wr.cell? ⟨q5, 1, none⟩ = some (.int .i64 a0_1) := (blk_cell q1.out 1).trans rfl); have hfz35_0 := blk_frozen q1.out 0; have hfz35_1 := blk_frozen q1.out 1; (go_wp2_with (first | ((with_reducible refine gate_builtin (b := .append) (xs := #[.tmp 27, .tmp 32]) rfl ?_); at_builtin; refine Kd.R_append (Kd.int .i64) (w0 := w) w.heap.size rfl (.tmp 27) (.tmp 32) 22 3 (.int .i64 0) 8 rfl Try.underlying22 info3 rfl (by decide) (by omega) u3 x3_1 (wrap64 (a0_0 + (rd (rd_L2 y297 (ji4)) x23_1))) [.int .i64 (wrap64 (a0_0 + (rd (rd_L2 y297 (ji4)) x23_1)))] (fun _ => True) (fun _ => False) rfl rfl ?aP (fun _ hk => hk.elim) ?aF ?aO ?aB ?aS ?aL ?_; (case aP => exact rfl); (case aB => exact (q2_7)); (case aF => exact (fun _ _ => trivial)); (case aO => exact (ra qj.out)); (case aS => exact (below_size (q2_7))); (case aL => have := LMc34.out; omega); intro v303 w36 ho hb hg hat; have HVY := q0_7 (Kd.V_after HVX.out hg hat); rw [← Ny302.out] at ho; have n0_ := q0_7 (blk_grown (g := q5) (o := .cells #[.int .i64 a0_0, .int .i64 a0_1] 30 (0, 0)) (ba q1.out) hg (Kd.R_ne qj.out q1.out (by decide))); have n1_ := q0_7 (hb); have n2_ := q0_7 (ho); clear q1; clear HB; clear qj; have q1 := n0_; have HB := n1_; have qy := n2_; clear n0_ n1_ n2_; clear ho hb hg hat))); (go_roundg k1)
                 case measure => have := HK1.out; omega
                 case rel => exact ⟨(y302), (wrap64 (x23_1 + 1)), (by first | rfl | (simp; done) | (simp [*]; done)), (by first | exact H' | (have H2_ := H'; (try simp only [← hji4] at H2_); (try simp only [← hji4]); exact H2_)), ⟨by have := HK1.out; omega⟩, ⟨by (repeat (first | exact HVY.out | refine Kd.V_drewN ?_ _ | refine Kd.V_drew ?_ | refine Kd.V_alloc ?_ _))⟩, ⟨by refine ra ?_; exact qy.out⟩, ⟨by refine ba ?_; exact q1.out⟩, ⟨by exact (q2_7)⟩⟩
               · rw [if_neg c34] at H
                 exact absurd H (by simp)
             · rw [if_neg c33] at H
               exact absurd H (by simp)
           · rw [if_neg c32] at H
             exact absurd H (by simp)
         · rw [if_neg c31] at H
           (have c31b0 : decide (x23_1 < ((rd_L2 y297 (ji4)).length : Int)) = false := decide_eq_false c31); clear c31; replace H := Option.bind_eq_some_iff.mp H; obtain ⟨t305, A370, H⟩ := H; replace H : (some t305) = some r := H; have A37 := q0_7 A370; clear A370; obtain rfl := Option.some.inj H; obtain ⟨z04, z05, eo38⟩ := Kd.R_slice qj.out; subst eo38; (go_wp2_with (first | ((with_reducible refine gate_callee (f := 11) rfl ?_); refine goesL_ (some 36) rfl rfl Try.func11 (by kernel_rfl) rfl #[.slice z04 x3_1.length z05] rfl ma ?_; (with_reducible refine (impl_ClassesOf.calls k1 _ _ x3_1 t305 _ ?side1 ?side2 A37.out).mono ?_); (case side1 => exact ca (Kd.R_reads' qj.out).2.2); (case side2 => exact (Kd.R_reads' qj.out).2.1); rintro e w39 ⟨v306, rfl, ho0, hb⟩; refine ⟨_, rfl, ?_⟩; have n0_ := q0_7 (Kd.R_elder' (ra qj.out) (Kd.R_base ho0) hb); have n1_ := q0_7 (Kd.R_lower (Kd.R_new' ho0 (Kd.R_lt (ra qj.out))) (below_size (q2_7))); have n2_ := q0_7 (bb q1.out hb); have n3_ := q0_7 (below_step (q2_7) hb); clear qj; clear q1; clear HB; have qj := n0_; have qz := n1_; have q1 := n2_; have HB := n3_; clear n0_ n1_ n2_ n3_; (try clear hb); (try clear hb2); (try clear hk); (try clear hi); (try clear ho0)))); go_ret; (exact ⟨_, by first | rfl | (simp [errW_none, errW_some] <;> rfl) | (simp only [← hji4]; first | rfl | (simp [errW_none, errW_some] <;> rfl)) | (simp [*, errW_none, errW_some] <;> rfl), by refine ra ?_; exact Kd.R_mono qz.out (fun _ hk => trivial), by exact (q2_7)⟩)
     · rw [if_neg c6] at H
       exact absurd H (by simp)
   · rw [if_neg c5] at H
     exact absurd H (by simp)
 · replace c3 := Bool.eq_false_iff.mpr c3
   subst c3; (have H1 : (some (([] : List Int))) = some r := by rw [if_neg (show ¬ (false = true) by decide)] at H; exact H); clear H; have H := H1; clear H1; obtain ⟨y276, hy276⟩ : ∃ y_ : List Int, y_ = (([] : List Int)) := ⟨_, rfl⟩; (replace H : (some y276) = some r := by first | (rw [hy276]; with_reducible exact H) | (have H2_ := (Option.bind_some _ _).symm.trans H; rw [hy276]; with_reducible exact H2_) | (have H2_ := (Option.bind_some _ _).symm.trans H; with_reducible exact H2_) | with_reducible exact H | (rw [hy276]; exact H) | exact H); have Ny276 := q0_7 hy276; clear hy276; obtain rfl := Option.some.inj H; go_enter Try.func17, Try.ntmps17; (go_wp2_with (first | ((with_reducible refine gate_dst (N := 1) rfl ?_); refine box_event ?hg (N := 1) ?hd (cs := #[.int .i64 a0_0, .int .i64 a0_1]) (t := 30) ?hr ?_; (case hd => rfl); (case hg => rfl); (case hr => first | (go_simp; done) | (go_simp; rfl)); intro q5 hg w40 hbox hb; have n0_ := q0_7 (below_step (qm_7) hb); have n1_ := q0_7 (hbox); have n2_ := q0_7 ((by rw [hg]; exact (below_size (qm_7)) : w.heap.size ≤ q5)); have n3_ := q0_7 ((by rw [hg]; exact (below_size (qm_7)) : w.heap.size ≤ q5)); clear HB; have HB := n0_; have q1 := n1_; have GW274 := n2_; have qn := n3_; clear n0_ n1_ n2_ n3_; clear hb hbox hg; have hcz41_0 : w40.cell? ⟨q5, 0, none⟩ = some (.int .i64 a0_0) := (blk_cell q1.out 0).trans rfl; have hcz41_1 : w40.cell? ⟨q5, 1, none⟩ = some (.int .i64 a0_1) := (blk_cell q1.out 1).trans rfl; have hfz41_0 := blk_frozen q1.out 0; have hfz41_1 := blk_frozen q1.out 1) | ((with_reducible refine gate_callee (f := 41) rfl ?_); refine goesL_ (some 7) rfl rfl Try.func41 (by kernel_rfl) rfl #[.agg #[.int .i64 a0_0, .int .i64 a0_1]] rfl ma ?_; (with_reducible refine (impl_IsChord.calls a0_0 a0_1 false _ A2.out).mono ?_); rintro e w42 ⟨rfl, hb⟩; refine ⟨_, rfl, ?_⟩; have n0_ := q0_7 (bb q1.out hb); have n1_ := q0_7 (below_step (q2_7) hb); clear q1; clear HB; have q1 := n0_; have HB := n1_; clear n0_ n1_; (try clear hb); (try clear hb2); (try clear hk); (try clear hi)) | ((with_reducible refine gate_dst (N := 9) rfl ?_); refine Kd.R_lit (Kd.int .i64) _ 3 ?hg (N := 9) ?hd (xs := ([] : List Int)) (inner := []) (ok := fun _ => True) (okp := fun _ => True) ?hr ?hp (fun _ hk => hk) trivial (Below.refl _ _) (Nat.le_refl _) (by simp) ?_; (case hd => rfl); (case hg => rfl); (case hr => first | (go_simp; done) | (go_simp; rfl)); (case hp => exact (Reps.none _ _)); intro v277 w43 ho44 hb hg_ hnew_; clear hg_ hnew_; (first | rw [← Ny276.out] at ho44 | (simp only [Int.reduceToNat] at ho44; rw [← Ny276.out] at ho44)); have n0_ := q0_7 (Kd.R_lower ho44 (below_size (q2_7))); have n1_ := q0_7 (bb q1.out hb); have n2_ := q0_7 (below_step (q2_7) hb); clear q1; clear HB; have z00 := n0_; have q1 := n1_; have HB := n2_; clear n0_ n1_ n2_; clear hb ho44))); go_ret
   (exact ⟨_, by first | rfl | (simp [errW_none, errW_some] <;> rfl) | (simp [*, errW_none, errW_some] <;> rfl), by refine ra ?_; exact z00.out, by exact (q2_7)⟩)
/-! ### slices_Equal_int_int: function 43 -/
def slices_Equal_int_int.l0 : Nat → List Int → List Int → Int → Int → Option (Bool)
 | 0, _, _, _, _ => none
 | k + 1, x0, x1, x12, x13 => if x13 < x12 then (if 0 ≤ x13 then (if x13 < (x0.length : Int) then (if x13 < (x1.length : Int) then (if (rd x0 x13) = (rd x1 x13) then (slices_Equal_int_int.l0 k x0 x1 x12 (wrap64 (x13 + 1))) else (some false)) else (none)) else (none)) else (none)) else (some true)
def slices_Equal_int_int.f (k : Nat) (l0 : List Int) (l1 : List Int) : Option (Bool) := if (l0.length : Int) = (l1.length : Int) then (slices_Equal_int_int.l0 k l0 l1 (l0.length : Int) 0) else (some false)
theorem slices_Equal_int_int.mono_l : ∀ k, (∀ y0 y1 y2 y3, LeO (slices_Equal_int_int.l0 k y0 y1 y2 y3) (slices_Equal_int_int.l0 (k + 1) y0 y1 y2 y3))
 | 0 => fun _ _ _ _ r h => by simp [slices_Equal_int_int.l0] at h
 | k + 1 => by
  have ih0 := slices_Equal_int_int.mono_l k
  · intro y0 y1 y2 y3
    unfold slices_Equal_int_int.l0
    repeat' first
    | (with_reducible exact ih0 _ _ _ _)
    | (with_reducible exact LeO.refl _)
    | (with_reducible exact LeO.none _)
    | (with_reducible refine LeO.ite ?_ ?_)
    | (with_reducible refine LeO.bind ?_ (fun _ => ?_))
    | exact ih0 _ _ _ _
    | exact LeO.none _
    | refine LeO.ite ?_ ?_
    | refine LeO.bind ?_ (fun _ => ?_)
theorem slices_Equal_int_int.mono : ∀ a0 a1 k, LeO (slices_Equal_int_int.f k a0 a1) (slices_Equal_int_int.f (k + 1) a0 a1) := by
 intro a0 a1 k; have ih0 := slices_Equal_int_int.mono_l k; unfold slices_Equal_int_int.f
 repeat' first
  | (with_reducible exact ih0 _ _ _ _)
  | (with_reducible exact LeO.refl _)
  | (with_reducible exact LeO.none _)
  | (with_reducible refine LeO.ite ?_ ?_)
  | (with_reducible refine LeO.bind ?_ (fun _ => ?_))
  | exact ih0 _ _ _ _
  | exact LeO.none _
  | refine LeO.ite ?_ ?_
  | refine LeO.bind ?_ (fun _ => ?_)
set_option maxHeartbeats 8000000 in
set_option maxRecDepth 100000 in
theorem slices_Equal_int_int.calls (k : Nat) (A0 : Option Addr) (c0 : Nat) (l0 : List Int) (A1 : Option Addr) (c1 : Nat) (l1 : List Int) (r : Bool) (w : World) (hr0 : Kd.C (Kd.int .i64) w A0 l0.length l0) (hc0 : l0.length ≤ c0) (hr1 : Kd.C (Kd.int .i64) w A1 l1.length l1) (hc1 : l1.length ≤ c1) (h : slices_Equal_int_int.f k l0 l1 = some r) :
 Calls Try.prog 43 #[.slice A0 l0.length c0, .slice A1 l1.length c1] w fun e w' => e = .returned (.bool r) ∧ Drawn0 w w' := by
 have HR0 := q0_7 hr0; have HC0 := q0_7 hc0; clear hr0 hc0; have HR1 := q0_7 hr1; have HC1 := q0_7 hc1; clear hr1 hc1; (have H : (if (l0.length : Int) = (l1.length : Int) then (slices_Equal_int_int.l0 k l0 l1 (l0.length : Int) 0) else (some false)) = some r := h); clear h
 by_cases c3 : (l0.length : Int) = (l1.length : Int)
 · rw [if_pos c3] at H
   (have c3b0 : ((l0.length : Int) == (l1.length : Int)) = true := beq_iff_eq.mpr c3); (have c3b1 : ((l0.length : Int) != (l1.length : Int)) = false := bne_eq_false_iff_eq.mpr c3); (have c3b2 : (l0.length == l1.length) = true := by first | simpa using c3 | (simp at c3 ⊢; omega)); clear c3; (have H' := q0_7 H); clear H; go_enter Try.func43, Try.ntmps43; (go_wp2); (repeat (go_quiet (fail); try go_wp2)); (go_loopg [13] k (fun kq v13 w' => ∃ (x13_1 : Int), v13 = .int .i64 x13_1 ∧ Aside0 (slices_Equal_int_int.l0 kq l0 l1 (l0.length : Int) x13_1 = some r) ∧ Aside0 (kq ≤ k) ∧ Drawn0 w w'))
   case atStart => exact ⟨(0), (by first | rfl | (simp; done) | (simp [*]; done)), H', ⟨Nat.le_refl _⟩, by repeat (first | exact Drawn0.refl _ | apply Drawn0.step)⟩
   case round =>
    clear H'; (try clear c1); (try clear p2); (try clear c3); (try clear c3b0); (try clear c3b1); (try clear c3b2); obtain ⟨x13_1, rfl, HA, HK1, ⟨m1, rfl⟩⟩ := hrel
    cases gk with
    | zero => exact absurd HA.out (by simp [slices_Equal_int_int.l0])
    | succ k1 =>
     have H := HA.out; clear HA; (simp only [slices_Equal_int_int.l0] at H)
     by_cases c4 : x13_1 < (l0.length : Int)
     · rw [if_pos c4] at H
       (have c4b0 : decide (x13_1 < (l0.length : Int)) = true := decide_eq_true c4); clear c4
       by_cases c5 : 0 ≤ x13_1
       · rw [if_pos c5] at H
         (have c5b0 : decide (0 ≤ x13_1) = true := decide_eq_true c5); clear c5
         by_cases c6 : x13_1 < (l0.length : Int)
         · rw [if_pos c6] at H
           (have c6b0 : decide (x13_1 < (l0.length : Int)) = true := decide_eq_true c6); clear c6
           by_cases c7 : x13_1 < (l1.length : Int)
           · rw [if_pos c7] at H
             (have c7b0 : decide (x13_1 < (l1.length : Int)) = true := decide_eq_true c7); clear c7
             by_cases c8 : (rd l0 x13_1) = (rd l1 x13_1)
             · rw [if_pos c8] at H
               (have c8b0 : ((rd l0 x13_1) == (rd l1 x13_1)) = true := beq_iff_eq.mpr c8); (have c8b1 : ((rd l0 x13_1) != (rd l1 x13_1)) = false := bne_eq_false_iff_eq.mpr c8); clear c8; (have H' := q0_7 H); clear H; (have p308 : 0 ≤ (x13_1 : Int) := of_decide_eq_true (by first | (with_reducible assumption) | assumption)); (have q308 : x13_1 < (l0.length : Int) := of_decide_eq_true (by first | (with_reducible assumption) | assumption)); obtain ⟨ad308, e308, hx308_0⟩ := Kd.at_int HR0.out x13_1 p308 q308
               cases e308
               replace p308 := eq_true p308; replace q308 := eq_true q308; (have p309 : 0 ≤ (x13_1 : Int) := of_decide_eq_true (by first | (with_reducible assumption) | assumption)); (have q309 : x13_1 < (l1.length : Int) := of_decide_eq_true (by first | (with_reducible assumption) | assumption)); obtain ⟨ad309, e309, hx309_0⟩ := Kd.at_int HR1.out x13_1 p309 q309
               cases e309
               replace p309 := eq_true p309; replace q309 := eq_true q309; (go_wp2); (repeat (go_quiet (fail); try go_wp2)); (go_roundg k1)
               case measure => have := HK1.out; omega
               case rel => exact ⟨(wrap64 (x13_1 + 1)), (by first | rfl | (simp; done) | (simp [*]; done)), H', ⟨by have := HK1.out; omega⟩, by repeat (first | exact Drawn0.refl _ | apply Drawn0.step)⟩
             · rw [if_neg c8] at H
               (have c8b0 : ((rd l0 x13_1) == (rd l1 x13_1)) = false := beq_eq_false_iff_ne.mpr c8); (have c8b1 : ((rd l0 x13_1) != (rd l1 x13_1)) = true := bne_iff_ne.mpr c8); obtain rfl := Option.some.inj H; (have p308 : 0 ≤ (x13_1 : Int) := of_decide_eq_true (by first | (with_reducible assumption) | assumption)); (have q308 : x13_1 < (l0.length : Int) := of_decide_eq_true (by first | (with_reducible assumption) | assumption)); obtain ⟨ad308, e308, hx308_0⟩ := Kd.at_int HR0.out x13_1 p308 q308
               cases e308
               replace p308 := eq_true p308; replace q308 := eq_true q308; (have p309 : 0 ≤ (x13_1 : Int) := of_decide_eq_true (by first | (with_reducible assumption) | assumption)); (have q309 : x13_1 < (l1.length : Int) := of_decide_eq_true (by first | (with_reducible assumption) | assumption)); obtain ⟨ad309, e309, hx309_0⟩ := Kd.at_int HR1.out x13_1 p309 q309
               cases e309
               replace p309 := eq_true p309; replace q309 := eq_true q309; (go_wp2); (repeat (go_quiet (fail); try go_wp2)); go_ret; exact ⟨by first | rfl | (simp; done) | (simp [*]; done), by repeat (first | exact Drawn0.refl _ | apply Drawn0.step)⟩
           · rw [if_neg c7] at H
             exact absurd H (by simp)
         · rw [if_neg c6] at H
           exact absurd H (by simp)
       · rw [if_neg c5] at H
         exact absurd H (by simp)
     · rw [if_neg c4] at H
       (have c4b0 : decide (x13_1 < (l0.length : Int)) = false := decide_eq_false c4); clear c4; obtain rfl := Option.some.inj H; (go_wp2); (repeat (go_quiet (fail); try go_wp2)); go_ret; exact ⟨by first | rfl | (simp; done) | (simp [*]; done), by repeat (first | exact Drawn0.refl _ | apply Drawn0.step)⟩
 · rw [if_neg c3] at H
   (have c3b0 : ((l0.length : Int) == (l1.length : Int)) = false := beq_eq_false_iff_ne.mpr c3); (have c3b1 : ((l0.length : Int) != (l1.length : Int)) = true := bne_iff_ne.mpr c3); (have c3b2 : (l0.length == l1.length) = false := by first | simpa using c3 | (simp at c3 ⊢; omega)); obtain rfl := Option.some.inj H; go_enter Try.func43, Try.ntmps43; (go_wp2); (repeat (go_quiet (fail); try go_wp2)); go_ret; exact ⟨by first | rfl | (simp; done) | (simp [*]; done), by repeat (first | exact Drawn0.refl _ | apply Drawn0.step)⟩
/-! ### impl_ChordOf: function 19 -/
mutual
def impl_ChordOf.l0 : Nat → List Int → Int → Option (Int × Int × Bool)
 | 0, _, _ => none
 | k + 1, x0, x4 => if x4 ≤ 5 then (impl_ChordOf.l1 k x0 x4 0) else (some (0, 0, false))
def impl_ChordOf.l1 : Nat → List Int → Int → Int → Option (Int × Int × Bool)
 | 0, _, _, _ => none
 | k + 1, x0, x4, x11 => if x11 < 12 then ((impl_TonesOf.f k x11 x4).bind fun t312 => ((slices_Equal_int_int.f k t312 x0).bind fun t315 => (if t315 = true then (some (x11, x4, true)) else (impl_ChordOf.l1 k x0 x4 (wrap64 (x11 + 1)))))) else (impl_ChordOf.l0 k x0 (wrap64 (x4 + 1)))
end
def impl_ChordOf.f (k : Nat) (l0 : List Int) : Option (Int × Int × Bool) := impl_ChordOf.l0 k l0 1
theorem impl_ChordOf.mono_l : ∀ k, (∀ y0 y1, LeO (impl_ChordOf.l0 k y0 y1) (impl_ChordOf.l0 (k + 1) y0 y1)) ∧ (∀ y0 y1 y2, LeO (impl_ChordOf.l1 k y0 y1 y2) (impl_ChordOf.l1 (k + 1) y0 y1 y2))
 | 0 => ⟨fun _ _ r h => by simp [impl_ChordOf.l0] at h, fun _ _ _ r h => by simp [impl_ChordOf.l1] at h⟩
 | k + 1 => by
  obtain ⟨ih0, ih1⟩ := impl_ChordOf.mono_l k; refine ⟨?_, ?_⟩
  · intro y0 y1
    unfold impl_ChordOf.l0
    repeat' first
    | (with_reducible exact ih0 _ _)
    | (with_reducible exact ih1 _ _ _)
    | (with_reducible exact impl_TonesOf.mono _ _ _)
    | (with_reducible exact slices_Equal_int_int.mono _ _ _)
    | (with_reducible exact LeO.refl _)
    | (with_reducible exact LeO.none _)
    | (with_reducible refine LeO.ite ?_ ?_)
    | (with_reducible refine LeO.bind ?_ (fun _ => ?_))
    | exact ih0 _ _
    | exact ih1 _ _ _
    | exact impl_TonesOf.mono _ _ _
    | exact slices_Equal_int_int.mono _ _ _
    | exact LeO.none _
    | refine LeO.ite ?_ ?_
    | refine LeO.bind ?_ (fun _ => ?_)
  · intro y0 y1 y2
    unfold impl_ChordOf.l1
    repeat' first
    | (with_reducible exact ih0 _ _)
    | (with_reducible exact ih1 _ _ _)
    | (with_reducible exact impl_TonesOf.mono _ _ _)
    | (with_reducible exact slices_Equal_int_int.mono _ _ _)
    | (with_reducible exact LeO.refl _)
    | (with_reducible exact LeO.none _)
    | (with_reducible refine LeO.ite ?_ ?_)
    | (with_reducible refine LeO.bind ?_ (fun _ => ?_))
    | exact ih0 _ _
    | exact ih1 _ _ _
    | exact impl_TonesOf.mono _ _ _
    | exact slices_Equal_int_int.mono _ _ _
    | exact LeO.none _
    | refine LeO.ite ?_ ?_
    | refine LeO.bind ?_ (fun _ => ?_)
theorem impl_ChordOf.mono : ∀ a0 k, LeO (impl_ChordOf.f k a0) (impl_ChordOf.f (k + 1) a0) := by
 intro a0 k; obtain ⟨ih0, ih1⟩ := impl_ChordOf.mono_l k; unfold impl_ChordOf.f
 repeat' first
  | (with_reducible exact ih0 _ _)
  | (with_reducible exact ih1 _ _ _)
  | (with_reducible exact impl_TonesOf.mono _ _ _)
  | (with_reducible exact slices_Equal_int_int.mono _ _ _)
  | (with_reducible exact LeO.refl _)
  | (with_reducible exact LeO.none _)
  | (with_reducible refine LeO.ite ?_ ?_)
  | (with_reducible refine LeO.bind ?_ (fun _ => ?_))
  | exact ih0 _ _
  | exact ih1 _ _ _
  | exact impl_TonesOf.mono _ _ _
  | exact slices_Equal_int_int.mono _ _ _
  | exact LeO.none _
  | refine LeO.ite ?_ ?_
  | refine LeO.bind ?_ (fun _ => ?_)
set_option maxHeartbeats 8000000 in
set_option maxRecDepth 100000 in
theorem impl_ChordOf.calls (k : Nat) (A0 : Option Addr) (c0 : Nat) (l0 : List Int) (r1 : Int) (r2 : Int) (r3 : Bool) (w : World) (hr0 : Kd.C (Kd.int .i64) w A0 l0.length l0) (hc0 : l0.length ≤ c0) (h : impl_ChordOf.f k l0 = some (r1, r2, r3)) :
 Calls Try.prog 19 #[.slice A0 l0.length c0] w fun e w' => e = .returned (.tuple #[.agg #[.int .i64 r1, .int .i64 r2], .bool r3]) ∧ Below w.heap.size w w' := by
 have hu30 := Try.underlying30; have HR0 := q0_7 hr0; have HC0 := q0_7 hc0; clear hr0 hc0; have HB := q0_7 (Below.refl w.heap.size w); (have H : (impl_ChordOf.l0 k l0 1) = some (r1, r2, r3) := h); clear h; (have H' := q0_7 H); clear H; go_enter Try.func19, Try.ntmps19; (go_wp2_with (first | ((with_reducible refine gate_dst (N := 2) rfl ?_); refine box_event ?hg (N := 2) ?hd (cs := #[.int .i64 0, .int .i64 0]) (t := 30) ?hr ?_; (case hd => rfl); (case hg => rfl); (case hr => first | (go_simp; done) | (go_simp; rfl)); intro qc hg w2 hbox hb; have n0_ := q0_7 (below_step (qm_7) hb); have n1_ := q0_7 (hbox); have n2_ := q0_7 ((by rw [hg]; exact (below_size (qm_7)) : w.heap.size ≤ qc)); have n3_ := q0_7 ((by rw [hg]; exact (below_size (qm_7)) : w.heap.size ≤ qc)); clear HB; have HB := n0_; have q4 := n1_; have GW310 := n2_; have z08 := n3_; clear n0_ n1_ n2_ n3_; clear hb hbox hg))); (go_loopg [4] k (fun kq v4 w' => ∃ (x4_1 : Int) (x311000_1 : Int) (x311001_1 : Int), v4 = .int .i64 x4_1 ∧ Aside0 (impl_ChordOf.l0 kq l0 x4_1 = some (r1, r2, r3)) ∧ Aside0 (kq ≤ k) ∧ Aside0 (w'.heap[qc]? = some (.cells #[.int .i64 x311000_1, .int .i64 x311001_1] 30 (0, 0))) ∧ Aside0 (Below w.heap.size w w')))
 case atStart => exact ⟨(1), (0), (0), (by first | rfl | (simp; done) | (simp [*]; done)), H', ⟨Nat.le_refl _⟩, ⟨by refine ba ?_; exact q4.out⟩, ⟨by exact (qe_7)⟩⟩
 case round =>
  clear H'; (try clear c1); (try clear p2); obtain ⟨x4_1, x311000_1, x311001_1, rfl, HA, HK1, q4, HB⟩ := hrel
  cases gk with
  | zero => exact absurd HA.out (by simp [impl_ChordOf.l0])
  | succ k1 =>
   have H := HA.out; clear HA; (simp only [impl_ChordOf.l0] at H)
   by_cases c3 : x4_1 ≤ 5
   · rw [if_pos c3] at H
     (have c3b0 : decide (x4_1 ≤ 5) = true := decide_eq_true c3); clear c3; (have H' := q0_7 H); clear H; (go_wp2); (go_loopg [11] k1 (fun kq v11 w' => ∃ (x11_2 : Int) (x311000_2 : Int) (x311001_2 : Int), v11 = .int .i64 x11_2 ∧ Aside0 (impl_ChordOf.l1 kq l0 x4_1 x11_2 = some (r1, r2, r3)) ∧ Aside0 (kq ≤ k1) ∧ Aside0 (w'.heap[qc]? = some (.cells #[.int .i64 x311000_2, .int .i64 x311001_2] 30 (0, 0))) ∧ Aside0 (Below w.heap.size w w')))
     case atStart => exact ⟨(0), (x311000_1), (x311001_1), (by first | rfl | (simp; done) | (simp [*]; done)), H', ⟨Nat.le_refl _⟩, ⟨by refine ba ?_; exact q4.out⟩, ⟨by exact (qe_7)⟩⟩
     case round =>
      clear H'; (try clear c1); (try clear p2); (try clear c3); (try clear c3b0); (try clear p2); obtain ⟨x11_2, x311000_2, x311001_2, rfl, HA, HK2, q4, HB⟩ := hrel
      cases gk with
      | zero => exact absurd HA.out (by simp [impl_ChordOf.l1])
      | succ k2 =>
       have H := HA.out; clear HA; (simp only [impl_ChordOf.l1] at H)
       by_cases c4 : x11_2 < 12
       · rw [if_pos c4] at H
         (have c4b0 : decide (x11_2 < 12) = true := decide_eq_true c4); clear c4; replace H := Option.bind_eq_some_iff.mp H; obtain ⟨t312, A50, H⟩ := H; replace H : ((slices_Equal_int_int.f k2 t312 l0).bind fun t315 => (if t315 = true then (some (x11_2, x4_1, true)) else (impl_ChordOf.l1 k2 l0 x4_1 (wrap64 (x11_2 + 1))))) = some (r1, r2, r3) := H; have A5 := q0_7 A50; clear A50; replace H := Option.bind_eq_some_iff.mp H; obtain ⟨t315, A60, H⟩ := H; replace H : (if t315 = true then (some (x11_2, x4_1, true)) else (impl_ChordOf.l1 k2 l0 x4_1 (wrap64 (x11_2 + 1)))) = some (r1, r2, r3) := H; have A6 := q0_7 A60; clear A60
         by_cases c7 : t315 = true
         · subst c7
           have H1 : (some (x11_2, x4_1, true)) = some (r1, r2, r3) := by rw [if_pos rfl] at H; exact H
           clear H; have H := H1; clear H1; (simp only [Option.some.injEq, Prod.mk.injEq] at H); obtain ⟨rfl, rfl, rfl⟩ := H
           (go_wp2_with (first | ((with_reducible refine gate_dst (N := 6) rfl ?_); refine box_event ?hg (N := 6) ?hd (cs := #[.int .i64 0, .int .i64 0]) (t := 30) ?hr ?_; (case hd => rfl); (case hg => rfl); (case hr => first | (go_simp; done) | (go_simp; rfl)); intro qa hg w8 hbox hb; have n0_ := q0_7 (bb q4.out hb); have n1_ := q0_7 (below_step (qe_7) hb); have n2_ := q0_7 (hbox); have n3_ := q0_7 ((by rw [hg]; exact (below_size (qe_7)) : w.heap.size ≤ qa)); have n4_ := q0_7 ((by rw [hg]; exact (below_size (qe_7)) : w.heap.size ≤ qa)); have n5_ := q0_7 ((by rw [hg]; exact Nat.ne_of_lt (bl q4.out) : qc ≠ qa)); have n6_ := q0_7 ((by rw [hg]; exact Nat.ne_of_gt (bl q4.out) : qa ≠ qc)); clear q4; clear HB; have q4 := n0_; have HB := n1_; have q7 := n2_; have GW311 := n3_; have z01 := n4_; have qb := n5_; have qh := n6_; clear n0_ n1_ n2_ n3_ n4_ n5_ n6_; clear hb hbox hg; have hnb9 := qh.out; have hnc9 := qb.out; have hcz10_0 : w8.cell? ⟨qa, 0, none⟩ = some (.int .i64 0) := (blk_cell q7.out 0).trans rfl; have hcz10_1 : w8.cell? ⟨qa, 1, none⟩ = some (.int .i64 0) := (blk_cell q7.out 1).trans rfl; have hfz10_0 := blk_frozen q7.out 0; have hfz10_1 := blk_frozen q7.out 1) | ((with_reducible refine gate_callee (f := 17) rfl ?_); refine goesL_ (some 18) rfl rfl Try.func17 (by kernel_rfl) rfl #[.agg #[.int .i64 x11_2, .int .i64 x4_1]] rfl ma ?_; (with_reducible refine (impl_TonesOf.calls k2 x11_2 x4_1 t312 _ A5.out).mono ?_); rintro e w11 ⟨v313, rfl, ho0, hb⟩; refine ⟨_, rfl, ?_⟩; have n0_ := q0_7 (Kd.R_lower ho0 (below_size (q9_7))); have n1_ := q0_7 (blk_below (g := qc) (o := .cells #[.int .i64 x311000_2, .int .i64 x311001_2] 30 (0, 0)) (by refine ba ?_; refine blk_far ?_ qb.out _; refine ba ?_; refine blk_far ?_ qb.out _; refine ba ?_; exact q4.out) hb); have n2_ := q0_7 (blk_below (g := qa) (o := .cells #[.int .i64 x11_2, .int .i64 x4_1] 30 (0, 0)) (by refine ba ?_; refine blk_put (cs := #[.int .i64 x11_2, .int .i64 0]) ?_ 1 _ rfl; refine ba ?_; refine blk_put (cs := #[.int .i64 0, .int .i64 0]) ?_ 0 _ rfl; refine ba ?_; exact q7.out) hb); have n3_ := q0_7 (below_step (q9_7) hb); clear q4; clear q7; clear HB; have qg := n0_; have q4 := n1_; have q7 := n2_; have HB := n3_; clear n0_ n1_ n2_ n3_; (try clear hb); (try clear hb2); (try clear hk); (try clear hi); (try clear ho0); obtain ⟨z02, z03, eo12⟩ := Kd.R_slice qg.out; subst eo12) | ((with_reducible refine gate_callee (f := 43) rfl ?_); refine goesL_ (some 20) rfl rfl Try.func43 (by kernel_rfl) rfl #[.slice z02 t312.length z03, .slice A0 l0.length c0] rfl ma ?_; (with_reducible refine (slices_Equal_int_int.calls k2 _ _ t312 _ _ l0 true _ ?side1 ?side2 ?side3 ?side4 A6.out).mono ?_); (case side1 => exact ca (Kd.R_reads' qg.out).2.2); (case side2 => exact (Kd.R_reads' qg.out).2.1); (case side3 => exact ca (Kd.C_below HR0.out HB.out)); (case side4 => exact HC0.out); rintro e w' ⟨rfl, ⟨nd, rfl⟩⟩; refine ⟨_, rfl, ?_⟩; (repeat (rw [drewN_self w11]; generalize hq_ : World.drewN w11 _ = w11; have n0_ : Aside0 (Kd.R (Kd.int .i64) 3 w11 w.heap.size (fun _ => True) (.slice z02 t312.length z03) t312) := ⟨by rw [← hq_]; exact (ra qg.out)⟩; have n1_ : Aside0 (w11.heap[qc]? = some (.cells #[.int .i64 x311000_2, .int .i64 x311001_2] 30 (0, 0))) := ⟨by rw [← hq_]; exact (ba q4.out)⟩; have n2_ : Aside0 (w11.heap[qa]? = some (.cells #[.int .i64 x11_2, .int .i64 x4_1] 30 (0, 0))) := ⟨by rw [← hq_]; exact (ba q7.out)⟩; have n3_ : Aside0 (Below w.heap.size w w11) := ⟨by rw [← hq_]; exact (q9_7)⟩; clear qg q4 q7 HB hq_; have qg := n0_; have q4 := n1_; have q7 := n2_; have HB := n3_; clear n0_ n1_ n2_ n3_)); have hcz13_0 : w11.cell? ⟨qa, 0, none⟩ = some (.int .i64 x11_2) := (blk_cell q7.out 0).trans rfl; have hcz13_1 : w11.cell? ⟨qa, 1, none⟩ = some (.int .i64 x4_1) := (blk_cell q7.out 1).trans rfl; have hfz13_0 := blk_frozen q7.out 0; have hfz13_1 := blk_frozen q7.out 1; have hcz14_0 : w11.cell? ⟨qc, 0, none⟩ = some (.int .i64 x311000_2) := (blk_cell q4.out 0).trans rfl; have hcz14_1 : w11.cell? ⟨qc, 1, none⟩ = some (.int .i64 x311001_2) := (blk_cell q4.out 1).trans rfl; have hfz14_0 := blk_frozen q4.out 0; have hfz14_1 := blk_frozen q4.out 1)))
           refine bodyPost_ret (results_ct rfl _ _ qc 30 #[.int .i64 x11_2, .int .i64 x4_1] (0, 0) _ rfl (by refine ba ?_; refine blk_put (cs := #[.int .i64 x11_2, .int .i64 x311001_2]) ?_ 1 _ rfl; refine ba ?_; refine blk_put (cs := #[.int .i64 x311000_2, .int .i64 x311001_2]) ?_ 0 _ rfl; refine ba ?_; exact q4.out) Try.underlying30 rfl (by kernel_rfl)) rfl ?_; (exact ⟨by first | rfl | (simp [errW_none, errW_some] <;> rfl) | (simp [*, errW_none, errW_some] <;> rfl), by exact (q9_7)⟩)
         · replace c7 := Bool.eq_false_iff.mpr c7
           subst c7; (have H1 : (impl_ChordOf.l1 k2 l0 x4_1 (wrap64 (x11_2 + 1))) = some (r1, r2, r3) := by rw [if_neg (show ¬ (false = true) by decide)] at H; exact H); clear H; have H := H1; clear H1; (have H' := q0_7 H); clear H
           (go_wp2_with (first | ((with_reducible refine gate_dst (N := 6) rfl ?_); refine box_event ?hg (N := 6) ?hd (cs := #[.int .i64 0, .int .i64 0]) (t := 30) ?hr ?_; (case hd => rfl); (case hg => rfl); (case hr => first | (go_simp; done) | (go_simp; rfl)); intro qa hg w15 hbox hb; have n0_ := q0_7 (bb q4.out hb); have n1_ := q0_7 (below_step (qe_7) hb); have n2_ := q0_7 (hbox); have n3_ := q0_7 ((by rw [hg]; exact (below_size (qe_7)) : w.heap.size ≤ qa)); have n4_ := q0_7 ((by rw [hg]; exact (below_size (qe_7)) : w.heap.size ≤ qa)); have n5_ := q0_7 ((by rw [hg]; exact Nat.ne_of_lt (bl q4.out) : qc ≠ qa)); have n6_ := q0_7 ((by rw [hg]; exact Nat.ne_of_gt (bl q4.out) : qa ≠ qc)); clear q4; clear HB; have q4 := n0_; have HB := n1_; have q7 := n2_; have GW311 := n3_; have z01 := n4_; have qb := n5_; have qh := n6_; clear n0_ n1_ n2_ n3_ n4_ n5_ n6_; clear hb hbox hg; have hnb16 := qh.out; have hnc16 := qb.out; have hcz17_0 : w15.cell? ⟨qa, 0, none⟩ = some (.int .i64 0) := (blk_cell q7.out 0).trans rfl; have hcz17_1 : w15.cell? ⟨qa, 1, none⟩ = some (.int .i64 0) := (blk_cell q7.out 1).trans rfl; have hfz17_0 := blk_frozen q7.out 0; have hfz17_1 := blk_frozen q7.out 1) | ((with_reducible refine gate_callee (f := 17) rfl ?_); refine goesL_ (some 18) rfl rfl Try.func17 (by kernel_rfl) rfl #[.agg #[.int .i64 x11_2, .int .i64 x4_1]] rfl ma ?_; (with_reducible refine (impl_TonesOf.calls k2 x11_2 x4_1 t312 _ A5.out).mono ?_); rintro e w18 ⟨v313, rfl, ho0, hb⟩; refine ⟨_, rfl, ?_⟩; have n0_ := q0_7 (Kd.R_lower ho0 (below_size (q9_7))); have n1_ := q0_7 (blk_below (g := qc) (o := .cells #[.int .i64 x311000_2, .int .i64 x311001_2] 30 (0, 0)) (by refine ba ?_; refine blk_far ?_ qb.out _; refine ba ?_; refine blk_far ?_ qb.out _; refine ba ?_; exact q4.out) hb); have n2_ := q0_7 (blk_below (g := qa) (o := .cells #[.int .i64 x11_2, .int .i64 x4_1] 30 (0, 0)) (by refine ba ?_; refine blk_put (cs := #[.int .i64 x11_2, .int .i64 0]) ?_ 1 _ rfl; refine ba ?_; refine blk_put (cs := #[.int .i64 0, .int .i64 0]) ?_ 0 _ rfl; refine ba ?_; exact q7.out) hb); have n3_ := q0_7 (below_step (q9_7) hb); clear q4; clear q7; clear HB; have qg := n0_; have q4 := n1_; have q7 := n2_; have HB := n3_; clear n0_ n1_ n2_ n3_; (try clear hb); (try clear hb2); (try clear hk); (try clear hi); (try clear ho0); obtain ⟨z06, z07, eo19⟩ := Kd.R_slice qg.out; subst eo19) | ((with_reducible refine gate_callee (f := 43) rfl ?_); refine goesL_ (some 20) rfl rfl Try.func43 (by kernel_rfl) rfl #[.slice z06 t312.length z07, .slice A0 l0.length c0] rfl ma ?_; (with_reducible refine (slices_Equal_int_int.calls k2 _ _ t312 _ _ l0 false _ ?side1 ?side2 ?side3 ?side4 A6.out).mono ?_); (case side1 => exact ca (Kd.R_reads' qg.out).2.2); (case side2 => exact (Kd.R_reads' qg.out).2.1); (case side3 => exact ca (Kd.C_below HR0.out HB.out)); (case side4 => exact HC0.out); rintro e w' ⟨rfl, ⟨nd, rfl⟩⟩; refine ⟨_, rfl, ?_⟩)))
           (go_roundg k2)
           case measure => have := HK1.out; have := HK2.out; omega
           case rel => exact ⟨(wrap64 (x11_2 + 1)), (x311000_2), (x311001_2), (by first | rfl | (simp; done) | (simp [*]; done)), H', ⟨by have := HK1.out; have := HK2.out; omega⟩, ⟨by refine ba ?_; exact q4.out⟩, ⟨by exact (q9_7)⟩⟩
       · rw [if_neg c4] at H
         (have c4b0 : decide (x11_2 < 12) = false := decide_eq_false c4); clear c4; (have H' := q0_7 H); clear H; (go_wp2); (go_roundg k2)
         case measure => have := HK1.out; have := HK2.out; omega
         case rel => exact ⟨(wrap64 (x4_1 + 1)), (x311000_2), (x311001_2), (by first | rfl | (simp; done) | (simp [*]; done)), H', ⟨by have := HK1.out; have := HK2.out; omega⟩, ⟨by refine ba ?_; exact q4.out⟩, ⟨by exact (qe_7)⟩⟩
   · rw [if_neg c3] at H
     (have c3b0 : decide (x4_1 ≤ 5) = false := decide_eq_false c3); clear c3; (simp only [Option.some.injEq, Prod.mk.injEq] at H); obtain ⟨rfl, rfl, rfl⟩ := H; (have hcz20_0 : wr.cell? ⟨qc, 0, none⟩ = some (.int .i64 x311000_1) := (blk_cell q4.out 0).trans rfl); (have hcz20_1 : wr.cell? ⟨qc, 1, none⟩ = some (.int .i64 x311001_1) := (blk_cell q4.out 1).trans rfl); have hfz20_0 := blk_frozen q4.out 0; have hfz20_1 := blk_frozen q4.out 1; (go_wp2); refine bodyPost_ret (results_ct rfl _ _ qc 30 #[.int .i64 0, .int .i64 0] (0, 0) _ rfl (by refine ba ?_; refine blk_put (cs := #[.int .i64 0, .int .i64 x311001_1]) ?_ 1 _ rfl; refine ba ?_; refine blk_put (cs := #[.int .i64 x311000_1, .int .i64 x311001_1]) ?_ 0 _ rfl; refine ba ?_; exact q4.out) Try.underlying30 rfl (by kernel_rfl)) rfl ?_; (exact ⟨by first | rfl | (simp [errW_none, errW_some] <;> rfl) | (simp [*, errW_none, errW_some] <;> rfl), by exact (qe_7)⟩)
/-! ### cmp_Or_int: function 89 -/
def cmp_Or_int.l0 : Nat → Int → List Int → Int → Int → Option (Int)
 | 0, _, _, _, _ => none
 | k + 1, x3, x6, x7, x8 => if x8 < x7 then (if 0 ≤ x8 then (if x8 < (x6.length : Int) then (if (rd x6 x8) = x3 then (cmp_Or_int.l0 k x3 x6 x7 (wrap64 (x8 + 1))) else (some (rd x6 x8))) else (none)) else (none)) else (some x3)
def cmp_Or_int.f (k : Nat) (l0 : List Int) : Option (Int) := cmp_Or_int.l0 k 0 l0 (l0.length : Int) 0
theorem cmp_Or_int.mono_l : ∀ k, (∀ y0 y1 y2 y3, LeO (cmp_Or_int.l0 k y0 y1 y2 y3) (cmp_Or_int.l0 (k + 1) y0 y1 y2 y3))
 | 0 => fun _ _ _ _ r h => by simp [cmp_Or_int.l0] at h
 | k + 1 => by
  have ih0 := cmp_Or_int.mono_l k
  · intro y0 y1 y2 y3
    unfold cmp_Or_int.l0
    repeat' first
    | (with_reducible exact ih0 _ _ _ _)
    | (with_reducible exact LeO.refl _)
    | (with_reducible exact LeO.none _)
    | (with_reducible refine LeO.ite ?_ ?_)
    | (with_reducible refine LeO.bind ?_ (fun _ => ?_))
    | exact ih0 _ _ _ _
    | exact LeO.none _
    | refine LeO.ite ?_ ?_
    | refine LeO.bind ?_ (fun _ => ?_)
theorem cmp_Or_int.mono : ∀ a0 k, LeO (cmp_Or_int.f k a0) (cmp_Or_int.f (k + 1) a0) := by
 intro a0 k; have ih0 := cmp_Or_int.mono_l k; unfold cmp_Or_int.f
 repeat' first
  | (with_reducible exact ih0 _ _ _ _)
  | (with_reducible exact LeO.refl _)
  | (with_reducible exact LeO.none _)
  | (with_reducible refine LeO.ite ?_ ?_)
  | (with_reducible refine LeO.bind ?_ (fun _ => ?_))
  | exact ih0 _ _ _ _
  | exact LeO.none _
  | refine LeO.ite ?_ ?_
  | refine LeO.bind ?_ (fun _ => ?_)
set_option maxHeartbeats 8000000 in
set_option maxRecDepth 100000 in
theorem cmp_Or_int.calls (k : Nat) (A0 : Option Addr) (c0 : Nat) (l0 : List Int) (r : Int) (w : World) (hr0 : Kd.C (Kd.int .i64) w A0 l0.length l0) (hc0 : l0.length ≤ c0) (h : cmp_Or_int.f k l0 = some r) :
 Calls Try.prog 89 #[.slice A0 l0.length c0] w fun e w' => e = .returned (.int .i64 r) ∧ Drawn0 w w' := by
 have HR0 := q0_7 hr0; have HC0 := q0_7 hc0; clear hr0 hc0; (have H : (cmp_Or_int.l0 k 0 l0 (l0.length : Int) 0) = some r := h); clear h; (have H' := q0_7 H); clear H; go_enter Try.func89, Try.ntmps89; (go_wp2); (go_loopg [8] k (fun kq v8 w' => ∃ (x8_1 : Int), v8 = .int .i64 x8_1 ∧ Aside0 (cmp_Or_int.l0 kq 0 l0 (l0.length : Int) x8_1 = some r) ∧ Aside0 (kq ≤ k) ∧ Drawn0 w w'))
 case atStart => exact ⟨(0), (by first | rfl | (simp; done) | (simp [*]; done)), H', ⟨Nat.le_refl _⟩, by repeat (first | exact Drawn0.refl _ | apply Drawn0.step)⟩
 case round =>
  clear H'; obtain ⟨x8_1, rfl, HA, HK1, ⟨m1, rfl⟩⟩ := hrel
  cases gk with
  | zero => exact absurd HA.out (by simp [cmp_Or_int.l0])
  | succ k1 =>
   have H := HA.out; clear HA; (simp only [cmp_Or_int.l0] at H)
   by_cases c2 : x8_1 < (l0.length : Int)
   · rw [if_pos c2] at H
     (have c2b0 : decide (x8_1 < (l0.length : Int)) = true := decide_eq_true c2); clear c2
     by_cases c3 : 0 ≤ x8_1
     · rw [if_pos c3] at H
       (have c3b0 : decide (0 ≤ x8_1) = true := decide_eq_true c3); clear c3
       by_cases c4 : x8_1 < (l0.length : Int)
       · rw [if_pos c4] at H
         (have c4b0 : decide (x8_1 < (l0.length : Int)) = true := decide_eq_true c4); clear c4
         by_cases c5 : (rd l0 x8_1) = 0
         · rw [if_pos c5] at H
           (have c5b0 : ((rd l0 x8_1) == 0) = true := beq_iff_eq.mpr c5); (have c5b1 : ((rd l0 x8_1) != 0) = false := bne_eq_false_iff_eq.mpr c5); clear c5; (have H' := q0_7 H); clear H; (have p316 : 0 ≤ (x8_1 : Int) := of_decide_eq_true (by first | (with_reducible assumption) | assumption)); (have q316 : x8_1 < (l0.length : Int) := of_decide_eq_true (by first | (with_reducible assumption) | assumption)); obtain ⟨ad316, e316, hx316_0⟩ := Kd.at_int HR0.out x8_1 p316 q316
           cases e316
           replace p316 := eq_true p316; replace q316 := eq_true q316; (go_wp2); (go_roundg k1)
           case measure => have := HK1.out; omega
           case rel => exact ⟨(wrap64 (x8_1 + 1)), (by first | rfl | (simp; done) | (simp [*]; done)), H', ⟨by have := HK1.out; omega⟩, by repeat (first | exact Drawn0.refl _ | apply Drawn0.step)⟩
         · rw [if_neg c5] at H
           (have c5b0 : ((rd l0 x8_1) == 0) = false := beq_eq_false_iff_ne.mpr c5); (have c5b1 : ((rd l0 x8_1) != 0) = true := bne_iff_ne.mpr c5); obtain rfl := Option.some.inj H; (have p316 : 0 ≤ (x8_1 : Int) := of_decide_eq_true (by first | (with_reducible assumption) | assumption)); (have q316 : x8_1 < (l0.length : Int) := of_decide_eq_true (by first | (with_reducible assumption) | assumption)); obtain ⟨ad316, e316, hx316_0⟩ := Kd.at_int HR0.out x8_1 p316 q316
           cases e316
           replace p316 := eq_true p316; replace q316 := eq_true q316; (go_wp2); go_ret; exact ⟨by first | rfl | (simp; done) | (simp [*]; done), by repeat (first | exact Drawn0.refl _ | apply Drawn0.step)⟩
       · rw [if_neg c4] at H
         exact absurd H (by simp)
     · rw [if_neg c3] at H
       exact absurd H (by simp)
   · rw [if_neg c2] at H
     (have c2b0 : decide (x8_1 < (l0.length : Int)) = false := decide_eq_false c2); clear c2; obtain rfl := Option.some.inj H; (go_wp2); go_ret; exact ⟨by first | rfl | (simp; done) | (simp [*]; done), by repeat (first | exact Drawn0.refl _ | apply Drawn0.step)⟩
/-! ### cmp_isNaN_int: function 88 -/
def cmp_isNaN_int.f (a0 : Int) : Option (Bool) := some (a0 != a0)
set_option maxHeartbeats 8000000 in
set_option maxRecDepth 100000 in
theorem cmp_isNaN_int.calls (a0 : Int) (r : Bool) (w : World) (h : cmp_isNaN_int.f a0 = some r) :
 Calls Try.prog 88 #[.int .i64 a0] w fun e w' => e = .returned (.bool r) ∧ Drawn0 w w' := by
 (have H : (some (a0 != a0)) = some r := h); clear h; obtain rfl := Option.some.inj H; go_enter Try.func88, Try.ntmps88; (go_wp2); go_ret; exact ⟨by first | rfl | (simp; done) | (simp [*]; done), by repeat (first | exact Drawn0.refl _ | apply Drawn0.step)⟩
/-! ### cmp_Compare_int: function 90 -/
def cmp_Compare_int.f (a0 : Int) (a1 : Int) : Option (Int) := (cmp_isNaN_int.f a0).bind fun t317 => ((cmp_isNaN_int.f a1).bind fun t318 => (if t317 = true then (if t318 = true then (some 0) else (some (-1))) else (if t318 = true then (some 1) else (if a0 < a1 then (some (-1)) else (if a0 > a1 then (some 1) else (some 0))))))
set_option maxHeartbeats 8000000 in
set_option maxRecDepth 100000 in
theorem cmp_Compare_int.calls (a0 : Int) (a1 : Int) (r : Int) (w : World) (h : cmp_Compare_int.f a0 a1 = some r) :
 Calls Try.prog 90 #[.int .i64 a0, .int .i64 a1] w fun e w' => e = .returned (.int .i64 r) ∧ Drawn0 w w' := by
 (have H : ((cmp_isNaN_int.f a0).bind fun t317 => ((cmp_isNaN_int.f a1).bind fun t318 => (if t317 = true then (if t318 = true then (some 0) else (some (-1))) else (if t318 = true then (some 1) else (if a0 < a1 then (some (-1)) else (if a0 > a1 then (some 1) else (some 0))))))) = some r := h); clear h; replace H := Option.bind_eq_some_iff.mp H; obtain ⟨t317, A30, H⟩ := H; replace H : ((cmp_isNaN_int.f a1).bind fun t318 => (if t317 = true then (if t318 = true then (some 0) else (some (-1))) else (if t318 = true then (some 1) else (if a0 < a1 then (some (-1)) else (if a0 > a1 then (some 1) else (some 0)))))) = some r := H; have A3 := q0_7 A30; clear A30; replace H := Option.bind_eq_some_iff.mp H; obtain ⟨t318, A40, H⟩ := H; replace H : (if t317 = true then (if t318 = true then (some 0) else (some (-1))) else (if t318 = true then (some 1) else (if a0 < a1 then (some (-1)) else (if a0 > a1 then (some 1) else (some 0))))) = some r := H; have A4 := q0_7 A40; clear A40
 by_cases c5 : t317 = true
 · subst c5
   have H1 : (if t318 = true then (some 0) else (some (-1))) = some r := by rw [if_pos rfl] at H; exact H
   clear H; have H := H1; clear H1
   by_cases c6 : t318 = true
   · subst c6
     have H1 : (some 0) = some r := by rw [if_pos rfl] at H; exact H
     clear H; have H := H1; clear H1; obtain rfl := Option.some.inj H; go_enter Try.func90, Try.ntmps90; (go_wp2_with (first | ((with_reducible refine gate_callee (f := 88) rfl ?_); refine goesL_ (some 8) rfl rfl Try.func88 (by kernel_rfl) rfl #[.int .i64 a0] rfl ma ?_; (with_reducible refine (cmp_isNaN_int.calls a0 true _ A3.out).mono ?_); rintro e w' ⟨rfl, ⟨nd, rfl⟩⟩; refine ⟨_, rfl, ?_⟩) | ((with_reducible refine gate_callee (f := 88) rfl ?_); refine goesL_ (some 10) rfl rfl Try.func88 (by kernel_rfl) rfl #[.int .i64 a1] rfl ma ?_; (with_reducible refine (cmp_isNaN_int.calls a1 true _ A4.out).mono ?_); rintro e w' ⟨rfl, ⟨nd, rfl⟩⟩; refine ⟨_, rfl, ?_⟩))); go_ret; exact ⟨by first | rfl | (simp; done) | (simp [*]; done), by repeat (first | exact Drawn0.refl _ | apply Drawn0.step)⟩
   · replace c6 := Bool.eq_false_iff.mpr c6
     subst c6; (have H1 : (some (-1)) = some r := by rw [if_neg (show ¬ (false = true) by decide)] at H; exact H); clear H; have H := H1; clear H1; obtain rfl := Option.some.inj H; go_enter Try.func90, Try.ntmps90; (go_wp2_with (first | ((with_reducible refine gate_callee (f := 88) rfl ?_); refine goesL_ (some 8) rfl rfl Try.func88 (by kernel_rfl) rfl #[.int .i64 a0] rfl ma ?_; (with_reducible refine (cmp_isNaN_int.calls a0 true _ A3.out).mono ?_); rintro e w' ⟨rfl, ⟨nd, rfl⟩⟩; refine ⟨_, rfl, ?_⟩) | ((with_reducible refine gate_callee (f := 88) rfl ?_); refine goesL_ (some 10) rfl rfl Try.func88 (by kernel_rfl) rfl #[.int .i64 a1] rfl ma ?_; (with_reducible refine (cmp_isNaN_int.calls a1 false _ A4.out).mono ?_); rintro e w' ⟨rfl, ⟨nd, rfl⟩⟩; refine ⟨_, rfl, ?_⟩))); go_ret; exact ⟨by first | rfl | (simp; done) | (simp [*]; done), by repeat (first | exact Drawn0.refl _ | apply Drawn0.step)⟩
 · replace c5 := Bool.eq_false_iff.mpr c5
   subst c5; (have H1 : (if t318 = true then (some 1) else (if a0 < a1 then (some (-1)) else (if a0 > a1 then (some 1) else (some 0)))) = some r := by rw [if_neg (show ¬ (false = true) by decide)] at H; exact H); clear H; have H := H1; clear H1
   by_cases c7 : t318 = true
   · subst c7
     have H1 : (some 1) = some r := by rw [if_pos rfl] at H; exact H
     clear H; have H := H1; clear H1; obtain rfl := Option.some.inj H; go_enter Try.func90, Try.ntmps90; (go_wp2_with (first | ((with_reducible refine gate_callee (f := 88) rfl ?_); refine goesL_ (some 8) rfl rfl Try.func88 (by kernel_rfl) rfl #[.int .i64 a0] rfl ma ?_; (with_reducible refine (cmp_isNaN_int.calls a0 false _ A3.out).mono ?_); rintro e w' ⟨rfl, ⟨nd, rfl⟩⟩; refine ⟨_, rfl, ?_⟩) | ((with_reducible refine gate_callee (f := 88) rfl ?_); refine goesL_ (some 10) rfl rfl Try.func88 (by kernel_rfl) rfl #[.int .i64 a1] rfl ma ?_; (with_reducible refine (cmp_isNaN_int.calls a1 true _ A4.out).mono ?_); rintro e w' ⟨rfl, ⟨nd, rfl⟩⟩; refine ⟨_, rfl, ?_⟩))); go_ret; exact ⟨by first | rfl | (simp; done) | (simp [*]; done), by repeat (first | exact Drawn0.refl _ | apply Drawn0.step)⟩
   · replace c7 := Bool.eq_false_iff.mpr c7
     subst c7; (have H1 : (if a0 < a1 then (some (-1)) else (if a0 > a1 then (some 1) else (some 0))) = some r := by rw [if_neg (show ¬ (false = true) by decide)] at H; exact H); clear H; have H := H1; clear H1
     by_cases c8 : a0 < a1
     · rw [if_pos c8] at H
       (have c8b0 : decide (a0 < a1) = true := decide_eq_true c8); clear c8; obtain rfl := Option.some.inj H; go_enter Try.func90, Try.ntmps90; (go_wp2_with (first | ((with_reducible refine gate_callee (f := 88) rfl ?_); refine goesL_ (some 8) rfl rfl Try.func88 (by kernel_rfl) rfl #[.int .i64 a0] rfl ma ?_; (with_reducible refine (cmp_isNaN_int.calls a0 false _ A3.out).mono ?_); rintro e w' ⟨rfl, ⟨nd, rfl⟩⟩; refine ⟨_, rfl, ?_⟩) | ((with_reducible refine gate_callee (f := 88) rfl ?_); refine goesL_ (some 10) rfl rfl Try.func88 (by kernel_rfl) rfl #[.int .i64 a1] rfl ma ?_; (with_reducible refine (cmp_isNaN_int.calls a1 false _ A4.out).mono ?_); rintro e w' ⟨rfl, ⟨nd, rfl⟩⟩; refine ⟨_, rfl, ?_⟩))); go_ret; exact ⟨by first | rfl | (simp; done) | (simp [*]; done), by repeat (first | exact Drawn0.refl _ | apply Drawn0.step)⟩
     · rw [if_neg c8] at H
       (have c8b0 : decide (a0 < a1) = false := decide_eq_false c8); clear c8
       by_cases c9 : a0 > a1
       · rw [if_pos c9] at H
         (have c9b0 : decide (a1 < a0) = true := decide_eq_true c9); clear c9; obtain rfl := Option.some.inj H; go_enter Try.func90, Try.ntmps90; (go_wp2_with (first | ((with_reducible refine gate_callee (f := 88) rfl ?_); refine goesL_ (some 8) rfl rfl Try.func88 (by kernel_rfl) rfl #[.int .i64 a0] rfl ma ?_; (with_reducible refine (cmp_isNaN_int.calls a0 false _ A3.out).mono ?_); rintro e w' ⟨rfl, ⟨nd, rfl⟩⟩; refine ⟨_, rfl, ?_⟩) | ((with_reducible refine gate_callee (f := 88) rfl ?_); refine goesL_ (some 10) rfl rfl Try.func88 (by kernel_rfl) rfl #[.int .i64 a1] rfl ma ?_; (with_reducible refine (cmp_isNaN_int.calls a1 false _ A4.out).mono ?_); rintro e w' ⟨rfl, ⟨nd, rfl⟩⟩; refine ⟨_, rfl, ?_⟩))); go_ret; exact ⟨by first | rfl | (simp; done) | (simp [*]; done), by repeat (first | exact Drawn0.refl _ | apply Drawn0.step)⟩
       · rw [if_neg c9] at H
         (have c9b0 : decide (a1 < a0) = false := decide_eq_false c9); clear c9; obtain rfl := Option.some.inj H; go_enter Try.func90, Try.ntmps90; (go_wp2_with (first | ((with_reducible refine gate_callee (f := 88) rfl ?_); refine goesL_ (some 8) rfl rfl Try.func88 (by kernel_rfl) rfl #[.int .i64 a0] rfl ma ?_; (with_reducible refine (cmp_isNaN_int.calls a0 false _ A3.out).mono ?_); rintro e w' ⟨rfl, ⟨nd, rfl⟩⟩; refine ⟨_, rfl, ?_⟩) | ((with_reducible refine gate_callee (f := 88) rfl ?_); refine goesL_ (some 10) rfl rfl Try.func88 (by kernel_rfl) rfl #[.int .i64 a1] rfl ma ?_; (with_reducible refine (cmp_isNaN_int.calls a1 false _ A4.out).mono ?_); rintro e w' ⟨rfl, ⟨nd, rfl⟩⟩; refine ⟨_, rfl, ?_⟩))); go_ret; exact ⟨by first | rfl | (simp; done) | (simp [*]; done), by repeat (first | exact Drawn0.refl _ | apply Drawn0.step)⟩
end Go.Proofs.Ytpdhhpgdjbeaeaa.PFnExactChordAt
