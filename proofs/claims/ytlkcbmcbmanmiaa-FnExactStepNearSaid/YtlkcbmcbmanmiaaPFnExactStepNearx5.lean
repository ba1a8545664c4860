-- Written for this claim by a program of this repository (wip/tools/print2.py), out of the translation; Lean checks it.
import Derived.Test.YtlkcbmcbmanmiaaPFnExactStepNearx0
import Derived.Test.YtlkcbmcbmanmiaaPFnExactStepNearx1
namespace Go.Proofs.Ytlkcbmcbmanmiaa.PFnExactStepNear
open Go.RowKit Go.Proofs.YtlkcbmcbmanmiaaW.PrintWords Go.Proofs.YtlkcbmcbmanmiaaW.PrintLast Go.Proofs.YtlkcbmcbmanmiaaW.PrintMore
attribute [local go_sem] max2_int min2_int max_two min_two max_three min_three max_four min_four   -- for this text's walks alone
set_option linter.unusedVariables false
set_option linter.unusedSimpArgs false
-- SHORT
theorem qc_5 {p : Prop} (f : p := by repeat (first | (with_reducible first | exact HB.out | apply below_alloc | apply pw_below_drewN | apply below_drew1) | exact HB.out)) : p := f
theorem q4_5 {p : Prop} (f : p := by repeat (first | (with_reducible first | exact HB.out | apply below_alloc | apply pw_below_drewN | apply below_drew1 | refine below_set ?_ qg.out) | exact HB.out)) : p := f
theorem qa_5 {p : Prop} (f : p := by repeat (first | (with_reducible first | exact HB.out | apply below_alloc | apply pw_below_drewN | apply below_drew1 | refine below_set ?_ qg.out | refine below_set ?_ qh.out) | exact HB.out)) : p := f
theorem qe_5 {p : Prop} (f : p := by repeat (first | (with_reducible first | exact HB.out | apply below_alloc | apply pw_below_drewN | apply below_drew1 | refine below_set ?_ ql.out) | exact HB.out)) : p := f
theorem qf_5 {p : Prop} (f : p := by repeat (first | (with_reducible first | exact HB.out | apply below_alloc | apply pw_below_drewN | apply below_drew1 | refine below_set ?_ qk.out) | exact HB.out)) : p := f
theorem q0_5 {p : Prop} (h : p) : Aside0 p := ⟨h⟩
/-! ### laws_eqFollower: function 38 -/
def laws_eqFollower.f (k : Nat) (l0_0 : List Int) (a0_1 : Int) (l1_0 : List Int) (a1_1 : Int) : Option (Bool) := (laws_eqIntS.f k l0_0 l1_0).bind fun t200 => (if t200 = true then (if a0_1 = a1_1 then (some true) else (some false)) else (some false))
theorem laws_eqFollower.mono : ∀ a0 a1 a2 a3 k, LeO (laws_eqFollower.f k a0 a1 a2 a3) (laws_eqFollower.f (k + 1) a0 a1 a2 a3) := by
 intro a0 a1 a2 a3 k; unfold laws_eqFollower.f
 repeat' first
  | (with_reducible exact laws_eqIntS.mono _ _ _)
  | (with_reducible exact LeO.refl _)
  | (with_reducible exact LeO.none _)
  | (with_reducible refine LeO.ite ?_ ?_)
  | (with_reducible refine LeO.bind ?_ (fun _ => ?_))
  | exact laws_eqIntS.mono _ _ _
  | exact LeO.none _
  | refine LeO.ite ?_ ?_
  | refine LeO.bind ?_ (fun _ => ?_)
set_option maxHeartbeats 8000000 in
set_option maxRecDepth 100000 in
theorem laws_eqFollower.calls (k : Nat) (A0_0 : Option Addr) (c0_0 : Nat) (l0_0 : List Int) (a0_1 : Int) (A1_0 : Option Addr) (c1_0 : Nat) (l1_0 : List Int) (a1_1 : Int) (r : Bool) (w : World) (hr0_0 : Kd.C (Kd.int .i64) w A0_0 l0_0.length l0_0) (hc0_0 : l0_0.length ≤ c0_0) (hr1_0 : Kd.C (Kd.int .i64) w A1_0 l1_0.length l1_0) (hc1_0 : l1_0.length ≤ c1_0) (h : laws_eqFollower.f k l0_0 a0_1 l1_0 a1_1 = some r) :
 Calls Try.prog 38 #[.agg #[.slice A0_0 l0_0.length c0_0, .int .i64 a0_1], .agg #[.slice A1_0 l1_0.length c1_0, .int .i64 a1_1]] w fun e w' => e = .returned (.bool r) ∧ Below w.heap.size w w' := by
 have hu51 := Try.underlying51; have HR0_0 := q0_5 hr0_0; have HC0_0 := q0_5 hc0_0; clear hr0_0 hc0_0; have HR1_0 := q0_5 hr1_0; have HC1_0 := q0_5 hc1_0; clear hr1_0 hc1_0; have HB := q0_5 (Below.refl w.heap.size w); (have H : ((laws_eqIntS.f k l0_0 l1_0).bind fun t200 => (if t200 = true then (if a0_1 = a1_1 then (some true) else (some false)) else (some false))) = some r := h); clear h; replace H := Option.bind_eq_some_iff.mp H; obtain ⟨t200, A30, H⟩ := H; replace H : (if t200 = true then (if a0_1 = a1_1 then (some true) else (some false)) else (some false)) = some r := H; have A3 := q0_5 A30; clear A30
 by_cases c4 : t200 = true
 · subst c4
   have H1 : (if a0_1 = a1_1 then (some true) else (some false)) = some r := by rw [if_pos rfl] at H; exact H
   clear H; have H := H1; clear H1
   by_cases c5 : a0_1 = a1_1
   · rw [if_pos c5] at H
     (have c5b0 : (a0_1 == a1_1) = true := beq_iff_eq.mpr c5); (have c5b1 : (a0_1 != a1_1) = false := bne_eq_false_iff_eq.mpr c5); clear c5; obtain rfl := Option.some.inj H; go_enter Try.func38, Try.ntmps38
     (go_wp2_with (first | ((with_reducible refine gate_dst (N := 2) rfl ?_); refine box_event ?hg (N := 2) ?hd (cs := #[.slice A0_0 l0_0.length c0_0, .int .i64 a0_1]) (t := 51) ?hr ?_; (case hd => rfl); (case hg => rfl); (case hr => first | (go_simp; done) | (go_simp; rfl)); intro q2 hg w6 hbox hb; have n0_ := q0_5 (below_step (qc_5) hb); have n1_ := q0_5 (hbox); have n2_ := q0_5 ((by rw [hg]; exact (below_size (qc_5)) : w.heap.size ≤ q2)); have n3_ := q0_5 ((by rw [hg]; exact (below_size (qc_5)) : w.heap.size ≤ q2)); clear HB; have HB := n0_; have q1 := n1_; have GW198 := n2_; have qg := n3_; clear n0_ n1_ n2_ n3_; clear hb hbox hg) | ((with_reducible refine gate_dst (N := 3) rfl ?_); refine box_event ?hg (N := 3) ?hd (cs := #[.slice A1_0 l1_0.length c1_0, .int .i64 a1_1]) (t := 51) ?hr ?_; (case hd => rfl); (case hg => rfl); (case hr => first | (go_simp; done) | (go_simp; rfl)); intro q3 hg w7 hbox hb; have n0_ := q0_5 (bb q1.out hb); have n1_ := q0_5 (below_step (q4_5) hb); have n2_ := q0_5 (hbox); have n3_ := q0_5 ((by rw [hg]; exact (below_size (q4_5)) : w.heap.size ≤ q3)); have n4_ := q0_5 ((by rw [hg]; exact (below_size (q4_5)) : w.heap.size ≤ q3)); have n5_ := q0_5 ((by rw [hg]; exact Nat.ne_of_lt (bl q1.out) : q2 ≠ q3)); have n6_ := q0_5 ((by rw [hg]; exact Nat.ne_of_gt (bl q1.out) : q3 ≠ q2)); clear q1; clear HB; have q1 := n0_; have HB := n1_; have q5 := n2_; have GW199 := n3_; have qh := n4_; have q6 := n5_; have q7 := n6_; clear n0_ n1_ n2_ n3_ n4_ n5_ n6_; clear hb hbox hg; have hnb8 := q6.out; have hnc8 := q7.out; have hcz9_0 : w7.cell? ⟨q2, 0, none⟩ = some (.slice A0_0 l0_0.length c0_0) := (blk_cell q1.out 0).trans rfl; have hcz9_1 : w7.cell? ⟨q2, 1, none⟩ = some (.int .i64 a0_1) := (blk_cell q1.out 1).trans rfl; have hfz9_0 := blk_frozen q1.out 0; have hfz9_1 := blk_frozen q1.out 1; have hcz10_0 : w7.cell? ⟨q3, 0, none⟩ = some (.slice A1_0 l1_0.length c1_0) := (blk_cell q5.out 0).trans rfl; have hcz10_1 : w7.cell? ⟨q3, 1, none⟩ = some (.int .i64 a1_1) := (blk_cell q5.out 1).trans rfl; have hfz10_0 := blk_frozen q5.out 0; have hfz10_1 := blk_frozen q5.out 1) | ((with_reducible refine gate_callee (f := 18) rfl ?_); refine goesL_ (some 9) rfl rfl Try.func18 (by kernel_rfl) rfl #[.slice A0_0 l0_0.length c0_0, .slice A1_0 l1_0.length c1_0] rfl ma ?_; (with_reducible refine (laws_eqIntS.calls k _ _ l0_0 _ _ l1_0 true _ ?side1 ?side2 ?side3 ?side4 A3.out).mono ?_); (case side1 => exact ca (Kd.C_below HR0_0.out HB.out)); (case side2 => exact HC0_0.out); (case side3 => exact ca (Kd.C_below HR1_0.out HB.out)); (case side4 => exact HC1_0.out); rintro e w' ⟨rfl, ⟨nd, rfl⟩⟩; refine ⟨_, rfl, ?_⟩))); go_ret; (exact ⟨by first | rfl | (simp [errW_none, errW_some] <;> rfl) | (simp [*, errW_none, errW_some] <;> rfl), by exact (qa_5)⟩)
   · rw [if_neg c5] at H
     (have c5b0 : (a0_1 == a1_1) = false := beq_eq_false_iff_ne.mpr c5); (have c5b1 : (a0_1 != a1_1) = true := bne_iff_ne.mpr c5); obtain rfl := Option.some.inj H; go_enter Try.func38, Try.ntmps38
     (go_wp2_with (first | ((with_reducible refine gate_dst (N := 2) rfl ?_); refine box_event ?hg (N := 2) ?hd (cs := #[.slice A0_0 l0_0.length c0_0, .int .i64 a0_1]) (t := 51) ?hr ?_; (case hd => rfl); (case hg => rfl); (case hr => first | (go_simp; done) | (go_simp; rfl)); intro q2 hg w11 hbox hb; have n0_ := q0_5 (below_step (qc_5) hb); have n1_ := q0_5 (hbox); have n2_ := q0_5 ((by rw [hg]; exact (below_size (qc_5)) : w.heap.size ≤ q2)); have n3_ := q0_5 ((by rw [hg]; exact (below_size (qc_5)) : w.heap.size ≤ q2)); clear HB; have HB := n0_; have q1 := n1_; have GW198 := n2_; have qg := n3_; clear n0_ n1_ n2_ n3_; clear hb hbox hg) | ((with_reducible refine gate_dst (N := 3) rfl ?_); refine box_event ?hg (N := 3) ?hd (cs := #[.slice A1_0 l1_0.length c1_0, .int .i64 a1_1]) (t := 51) ?hr ?_; (case hd => rfl); (case hg => rfl); (case hr => first | (go_simp; done) | (go_simp; rfl)); intro q3 hg w12 hbox hb; have n0_ := q0_5 (bb q1.out hb); have n1_ := q0_5 (below_step (q4_5) hb); have n2_ := q0_5 (hbox); have n3_ := q0_5 ((by rw [hg]; exact (below_size (q4_5)) : w.heap.size ≤ q3)); have n4_ := q0_5 ((by rw [hg]; exact (below_size (q4_5)) : w.heap.size ≤ q3)); have n5_ := q0_5 ((by rw [hg]; exact Nat.ne_of_lt (bl q1.out) : q2 ≠ q3)); have n6_ := q0_5 ((by rw [hg]; exact Nat.ne_of_gt (bl q1.out) : q3 ≠ q2)); clear q1; clear HB; have q1 := n0_; have HB := n1_; have q5 := n2_; have GW199 := n3_; have qh := n4_; have q6 := n5_; have q7 := n6_; clear n0_ n1_ n2_ n3_ n4_ n5_ n6_; clear hb hbox hg; have hnb13 := q6.out; have hnc13 := q7.out; have hcz14_0 : w12.cell? ⟨q2, 0, none⟩ = some (.slice A0_0 l0_0.length c0_0) := (blk_cell q1.out 0).trans rfl; have hcz14_1 : w12.cell? ⟨q2, 1, none⟩ = some (.int .i64 a0_1) := (blk_cell q1.out 1).trans rfl; have hfz14_0 := blk_frozen q1.out 0; have hfz14_1 := blk_frozen q1.out 1; have hcz15_0 : w12.cell? ⟨q3, 0, none⟩ = some (.slice A1_0 l1_0.length c1_0) := (blk_cell q5.out 0).trans rfl; have hcz15_1 : w12.cell? ⟨q3, 1, none⟩ = some (.int .i64 a1_1) := (blk_cell q5.out 1).trans rfl; have hfz15_0 := blk_frozen q5.out 0; have hfz15_1 := blk_frozen q5.out 1) | ((with_reducible refine gate_callee (f := 18) rfl ?_); refine goesL_ (some 9) rfl rfl Try.func18 (by kernel_rfl) rfl #[.slice A0_0 l0_0.length c0_0, .slice A1_0 l1_0.length c1_0] rfl ma ?_; (with_reducible refine (laws_eqIntS.calls k _ _ l0_0 _ _ l1_0 true _ ?side1 ?side2 ?side3 ?side4 A3.out).mono ?_); (case side1 => exact ca (Kd.C_below HR0_0.out HB.out)); (case side2 => exact HC0_0.out); (case side3 => exact ca (Kd.C_below HR1_0.out HB.out)); (case side4 => exact HC1_0.out); rintro e w' ⟨rfl, ⟨nd, rfl⟩⟩; refine ⟨_, rfl, ?_⟩))); go_ret; (exact ⟨by first | rfl | (simp [errW_none, errW_some] <;> rfl) | (simp [*, errW_none, errW_some] <;> rfl), by exact (qa_5)⟩)
 · replace c4 := Bool.eq_false_iff.mpr c4
   subst c4; (have H1 : (some false) = some r := by rw [if_neg (show ¬ (false = true) by decide)] at H; exact H); clear H; have H := H1; clear H1; obtain rfl := Option.some.inj H; go_enter Try.func38, Try.ntmps38
   (go_wp2_with (first | ((with_reducible refine gate_dst (N := 2) rfl ?_); refine box_event ?hg (N := 2) ?hd (cs := #[.slice A0_0 l0_0.length c0_0, .int .i64 a0_1]) (t := 51) ?hr ?_; (case hd => rfl); (case hg => rfl); (case hr => first | (go_simp; done) | (go_simp; rfl)); intro q2 hg w16 hbox hb; have n0_ := q0_5 (below_step (qc_5) hb); have n1_ := q0_5 (hbox); have n2_ := q0_5 ((by rw [hg]; exact (below_size (qc_5)) : w.heap.size ≤ q2)); have n3_ := q0_5 ((by rw [hg]; exact (below_size (qc_5)) : w.heap.size ≤ q2)); clear HB; have HB := n0_; have q1 := n1_; have GW198 := n2_; have qg := n3_; clear n0_ n1_ n2_ n3_; clear hb hbox hg) | ((with_reducible refine gate_dst (N := 3) rfl ?_); refine box_event ?hg (N := 3) ?hd (cs := #[.slice A1_0 l1_0.length c1_0, .int .i64 a1_1]) (t := 51) ?hr ?_; (case hd => rfl); (case hg => rfl); (case hr => first | (go_simp; done) | (go_simp; rfl)); intro q3 hg w17 hbox hb; have n0_ := q0_5 (bb q1.out hb); have n1_ := q0_5 (below_step (q4_5) hb); have n2_ := q0_5 (hbox); have n3_ := q0_5 ((by rw [hg]; exact (below_size (q4_5)) : w.heap.size ≤ q3)); have n4_ := q0_5 ((by rw [hg]; exact (below_size (q4_5)) : w.heap.size ≤ q3)); have n5_ := q0_5 ((by rw [hg]; exact Nat.ne_of_lt (bl q1.out) : q2 ≠ q3)); have n6_ := q0_5 ((by rw [hg]; exact Nat.ne_of_gt (bl q1.out) : q3 ≠ q2)); clear q1; clear HB; have q1 := n0_; have HB := n1_; have q5 := n2_; have GW199 := n3_; have qh := n4_; have q6 := n5_; have q7 := n6_; clear n0_ n1_ n2_ n3_ n4_ n5_ n6_; clear hb hbox hg; have hnb18 := q6.out; have hnc18 := q7.out; have hcz19_0 : w17.cell? ⟨q2, 0, none⟩ = some (.slice A0_0 l0_0.length c0_0) := (blk_cell q1.out 0).trans rfl; have hcz19_1 : w17.cell? ⟨q2, 1, none⟩ = some (.int .i64 a0_1) := (blk_cell q1.out 1).trans rfl; have hfz19_0 := blk_frozen q1.out 0; have hfz19_1 := blk_frozen q1.out 1; have hcz20_0 : w17.cell? ⟨q3, 0, none⟩ = some (.slice A1_0 l1_0.length c1_0) := (blk_cell q5.out 0).trans rfl; have hcz20_1 : w17.cell? ⟨q3, 1, none⟩ = some (.int .i64 a1_1) := (blk_cell q5.out 1).trans rfl; have hfz20_0 := blk_frozen q5.out 0; have hfz20_1 := blk_frozen q5.out 1) | ((with_reducible refine gate_callee (f := 18) rfl ?_); refine goesL_ (some 9) rfl rfl Try.func18 (by kernel_rfl) rfl #[.slice A0_0 l0_0.length c0_0, .slice A1_0 l1_0.length c1_0] rfl ma ?_; (with_reducible refine (laws_eqIntS.calls k _ _ l0_0 _ _ l1_0 false _ ?side1 ?side2 ?side3 ?side4 A3.out).mono ?_); (case side1 => exact ca (Kd.C_below HR0_0.out HB.out)); (case side2 => exact HC0_0.out); (case side3 => exact ca (Kd.C_below HR1_0.out HB.out)); (case side4 => exact HC1_0.out); rintro e w' ⟨rfl, ⟨nd, rfl⟩⟩; refine ⟨_, rfl, ?_⟩))); go_ret; (exact ⟨by first | rfl | (simp [errW_none, errW_some] <;> rfl) | (simp [*, errW_none, errW_some] <;> rfl), by exact (qa_5)⟩)
/-! ### laws_markFollower: function 39 -/
def laws_markFollower.f (k : Nat) (l0_0 : List Int) (a0_1 : Int) (a1 : Int) : Option (Int × List Int) := (laws_markIntS.f k l0_0 a1).bind fun bt202 => (some (bt202.1, bt202.2))
theorem laws_markFollower.mono : ∀ a0 a1 a2 k, LeO (laws_markFollower.f k a0 a1 a2) (laws_markFollower.f (k + 1) a0 a1 a2) := by
 intro a0 a1 a2 k; unfold laws_markFollower.f
 repeat' first
  | (with_reducible exact laws_markIntS.mono _ _ _)
  | (with_reducible exact LeO.refl _)
  | (with_reducible exact LeO.none _)
  | (with_reducible refine LeO.ite ?_ ?_)
  | (with_reducible refine LeO.bind ?_ (fun _ => ?_))
  | exact laws_markIntS.mono _ _ _
  | exact LeO.none _
  | refine LeO.ite ?_ ?_
  | refine LeO.bind ?_ (fun _ => ?_)
set_option maxHeartbeats 8000000 in
set_option maxRecDepth 100000 in
theorem laws_markFollower.calls (k : Nat) (P0_0_ : Nat → Prop) (u9000_ : Value) (l0_0 : List Int) (a0_1 : Int) (a1 : Int) (r1 : Int) (r2 : List Int) (w0 w : World) (hB : Below w0.heap.size w0 w) (ho0_0 : Kd.R (Kd.int .i64) 3 w w0.heap.size P0_0_ u9000_ l0_0) (h : laws_markFollower.f k l0_0 a0_1 a1 = some (r1, r2)) :
 Calls Try.prog 39 #[.agg #[u9000_, .int .i64 a0_1], .int .i64 a1] w fun e w' => e = .returned (.int .i64 r1) ∧ Kd.R (Kd.int .i64) 3 w' w0.heap.size (fun k_ => (P0_0_ k_ ∨ w.heap.size ≤ k_)) u9000_ r2 ∧ Below w0.heap.size w0 w' ∧ Kept w w' (fun k_ => P0_0_ k_) := by
 have hu51 := Try.underlying51; have HO0_0 := q0_5 (show Kd.R (Kd.int .i64) 3 w w0.heap.size (fun k_ => (P0_0_ k_ ∨ w.heap.size ≤ k_)) u9000_ l0_0 from Kd.R_mono ho0_0 (fun k_ hk => (.inl hk))); have HK := q0_5 (Kept.refl w (fun k_ => P0_0_ k_)); have HW0 := q0_5 hB.size; have HB := q0_5 hB; clear hB; (have H : ((laws_markIntS.f k l0_0 a1).bind fun bt202 => (some (bt202.1, bt202.2))) = some (r1, r2) := h); clear h; replace H := Option.bind_eq_some_iff.mp H; obtain ⟨⟨t202, t203⟩, A30, H⟩ := H; replace H : (some (t202, t203)) = some (r1, r2) := H; have A3 := q0_5 A30; clear A30; (simp only [Option.some.injEq, Prod.mk.injEq] at H); obtain ⟨rfl, rfl⟩ := H; obtain ⟨qi, qj, eo4⟩ := Kd.R_slice HO0_0.out; subst eo4; go_enter Try.func39, Try.ntmps39
 (go_wp2_with (first | ((with_reducible refine gate_dst (N := 2) rfl ?_); refine box_event ?hg (N := 2) ?hd (cs := #[.slice qi l0_0.length qj, .int .i64 a0_1]) (t := 51) ?hr ?_; (case hd => rfl); (case hg => rfl); (case hr => first | (go_simp; done) | (go_simp; rfl)); intro qd hg w5 hbox hb; have n0_ := q0_5 (Kd.R_below (ra HO0_0.out) hb); have n1_ := q0_5 (Kept.below (S := (fun k_ => P0_0_ k_)) (by repeat (first | (with_reducible first | exact HK.out | apply Kept.alloc | apply Kept.drewN | apply Kept.drew) | exact HK.out)) hb); have n2_ := q0_5 (below_step (qc_5) hb); have n3_ := q0_5 (hbox); have n4_ := q0_5 ((by rw [hg]; exact (by first | exact HK.out.1 | exact (show Kept w _ (fun k_ => P0_0_ k_) from by repeat (first | (with_reducible first | exact HK.out | apply Kept.alloc | apply Kept.drewN | apply Kept.drew) | exact HK.out)).1) : w.heap.size ≤ qd)); have n5_ := q0_5 ((by rw [hg]; exact (below_size (qc_5)) : w0.heap.size ≤ qd)); clear HO0_0; clear HK; clear HB; have HO0_0 := n0_; have HK := n1_; have HB := n2_; have qb := n3_; have GW201 := n4_; have ql := n5_; clear n0_ n1_ n2_ n3_ n4_ n5_; clear hb hbox hg; have hcz6_0 : w5.cell? ⟨qd, 0, none⟩ = some (.slice qi l0_0.length qj) := (blk_cell qb.out 0).trans rfl; have hcz6_1 : w5.cell? ⟨qd, 1, none⟩ = some (.int .i64 a0_1) := (blk_cell qb.out 1).trans rfl; have hfz6_0 := blk_frozen qb.out 0; have hfz6_1 := blk_frozen qb.out 1) | ((with_reducible refine gate_callee (f := 21) rfl ?_); refine goesL_ (some 8) rfl rfl Try.func21 (by kernel_rfl) rfl #[.slice qi l0_0.length qj, .int .i64 a1] rfl ma ?_; (with_reducible refine (laws_markIntS.calls k (fun k_ => some k_ = (.slice qi l0_0.length qj : Value).ownBlock) (.slice qi l0_0.length qj) l0_0 a1 t202 t203 w0 _ ?side1 ?side2 A3.out).mono ?_); (case side1 => exact (qe_5)); (case side2 => exact Kd.R_tight rfl HO0_0.out); rintro e w7 ⟨rfl, hy0, hb, hkp⟩; refine ⟨_, rfl, ?_⟩; have n0_ := q0_5 (Kd.R_reok rfl hy0 (fun k_ e_ => HO0_0.out.1 k_ e_)); have n1_ := q0_5 (blk_kept (ba qb.out) hkp (fun hs_ => (fun e_ => (Kd.R_ne HO0_0.out qb.out (by decide)) e_) hs_)); have n2_ := q0_5 (Kept.then_ (S := (fun k_ => P0_0_ k_)) (by repeat (first | (with_reducible first | exact HK.out | apply Kept.alloc | apply Kept.drewN | apply Kept.drew | refine Kept.setCell ?_ (.inr GW201.out) _) | exact HK.out)) hkp (fun k_ hs_ => (fun e_ => (HO0_0.out.1 k_ e_.symm)) hs_)); have n3_ := q0_5 (hb); clear HO0_0; clear qb; clear HK; clear HB; have HO0_0 := n0_; have qb := n1_; have HK := n2_; have HB := n3_; clear n0_ n1_ n2_ n3_; (try clear hb); (try clear hkp); (try clear hy0)))); go_ret
 (exact ⟨by first | rfl | (simp [errW_none, errW_some] <;> rfl) | (simp [*, errW_none, errW_some] <;> rfl), by refine ra ?_; exact HO0_0.out, by exact (qe_5), by repeat (first | (with_reducible first | exact HK.out | apply Kept.alloc | apply Kept.drewN | apply Kept.drew | refine Kept.setCell ?_ (.inr GW201.out) _) | exact HK.out)⟩)
/-! ### laws_heldIntS: function 22 -/
def laws_heldIntS.l0 : Nat → List Int → Int → Int → Option (Int)
 | 0, _, _, _ => none
 | k + 1, x0, x1, x5 => if x5 < (x0.length : Int) then (if 0 ≤ x5 then (if (rd x0 x5) = x1 then (laws_heldIntS.l0 k x0 (wrap64 (x1 + 1)) (wrap64 (x5 + 1))) else (some (-1))) else (none)) else (some x1)
def laws_heldIntS.f (k : Nat) (l0 : List Int) (a1 : Int) : Option (Int) := laws_heldIntS.l0 k l0 a1 0
theorem laws_heldIntS.mono_l : ∀ k, (∀ y0 y1 y2, LeO (laws_heldIntS.l0 k y0 y1 y2) (laws_heldIntS.l0 (k + 1) y0 y1 y2))
 | 0 => fun _ _ _ r h => by simp [laws_heldIntS.l0] at h
 | k + 1 => by
  have ih0 := laws_heldIntS.mono_l k
  · intro y0 y1 y2
    unfold laws_heldIntS.l0
    repeat' first
    | (with_reducible exact ih0 _ _ _)
    | (with_reducible exact LeO.refl _)
    | (with_reducible exact LeO.none _)
    | (with_reducible refine LeO.ite ?_ ?_)
    | (with_reducible refine LeO.bind ?_ (fun _ => ?_))
    | exact ih0 _ _ _
    | exact LeO.none _
    | refine LeO.ite ?_ ?_
    | refine LeO.bind ?_ (fun _ => ?_)
theorem laws_heldIntS.mono : ∀ a0 a1 k, LeO (laws_heldIntS.f k a0 a1) (laws_heldIntS.f (k + 1) a0 a1) := by
 intro a0 a1 k; have ih0 := laws_heldIntS.mono_l k; unfold laws_heldIntS.f
 repeat' first
  | (with_reducible exact ih0 _ _ _)
  | (with_reducible exact LeO.refl _)
  | (with_reducible exact LeO.none _)
  | (with_reducible refine LeO.ite ?_ ?_)
  | (with_reducible refine LeO.bind ?_ (fun _ => ?_))
  | exact ih0 _ _ _
  | exact LeO.none _
  | refine LeO.ite ?_ ?_
  | refine LeO.bind ?_ (fun _ => ?_)
set_option maxHeartbeats 8000000 in
set_option maxRecDepth 100000 in
theorem laws_heldIntS.calls (k : Nat) (A0 : Option Addr) (c0 : Nat) (l0 : List Int) (a1 : Int) (r : Int) (w : World) (hr0 : Kd.C (Kd.int .i64) w A0 l0.length l0) (hc0 : l0.length ≤ c0) (h : laws_heldIntS.f k l0 a1 = some r) :
 Calls Try.prog 22 #[.slice A0 l0.length c0, .int .i64 a1] w fun e w' => e = .returned (.int .i64 r) ∧ Drawn0 w w' := by
 have HR0 := q0_5 hr0; have HC0 := q0_5 hc0; clear hr0 hc0; (have H : (laws_heldIntS.l0 k l0 a1 0) = some r := h); clear h; (have H' := q0_5 H); clear H; go_enter Try.func22, Try.ntmps22; (go_wp2); (go_loopg [1, 5] k (fun kq v1 v5 w' => ∃ (x1_1 : Int) (x5_1 : Int), v1 = .int .i64 x1_1 ∧ v5 = .int .i64 x5_1 ∧ Aside0 (laws_heldIntS.l0 kq l0 x1_1 x5_1 = some r) ∧ Aside0 (kq ≤ k) ∧ Drawn0 w w'))
 case atStart => exact ⟨(a1), (0), (by first | rfl | (simp; done) | (simp [*]; done)), (by first | rfl | (simp; done) | (simp [*]; done)), H', ⟨Nat.le_refl _⟩, by repeat (first | exact Drawn0.refl _ | apply Drawn0.step)⟩
 case round =>
  clear H'; (try clear c2); (try clear p2); obtain ⟨x1_1, x5_1, rfl, rfl, HA, HK1, ⟨m1, rfl⟩⟩ := hrel
  cases gk with
  | zero => exact absurd HA.out (by simp [laws_heldIntS.l0])
  | succ k1 =>
   have H := HA.out; clear HA; (simp only [laws_heldIntS.l0] at H)
   by_cases c3 : x5_1 < (l0.length : Int)
   · rw [if_pos c3] at H
     (have c3b0 : decide (x5_1 < (l0.length : Int)) = true := decide_eq_true c3); clear c3
     by_cases c4 : 0 ≤ x5_1
     · rw [if_pos c4] at H
       (have c4b0 : decide (0 ≤ x5_1) = true := decide_eq_true c4); clear c4
       by_cases c5 : (rd l0 x5_1) = x1_1
       · rw [if_pos c5] at H
         (have c5b0 : ((rd l0 x5_1) == x1_1) = true := beq_iff_eq.mpr c5); (have c5b1 : ((rd l0 x5_1) != x1_1) = false := bne_eq_false_iff_eq.mpr c5); clear c5; (have H' := q0_5 H); clear H; (have p204 : 0 ≤ (x5_1 : Int) := of_decide_eq_true (by first | (with_reducible assumption) | assumption)); (have q204 : x5_1 < (l0.length : Int) := of_decide_eq_true (by first | (with_reducible assumption) | assumption)); obtain ⟨ad204, e204, hx204_0⟩ := Kd.at_int HR0.out x5_1 p204 q204
         cases e204
         replace p204 := eq_true p204; replace q204 := eq_true q204; (go_wp2); (go_roundg k1)
         case measure => have := HK1.out; omega
         case rel => exact ⟨(wrap64 (x1_1 + 1)), (wrap64 (x5_1 + 1)), (by first | rfl | (simp; done) | (simp [*]; done)), (by first | rfl | (simp; done) | (simp [*]; done)), H', ⟨by have := HK1.out; omega⟩, by repeat (first | exact Drawn0.refl _ | apply Drawn0.step)⟩
       · rw [if_neg c5] at H
         (have c5b0 : ((rd l0 x5_1) == x1_1) = false := beq_eq_false_iff_ne.mpr c5); (have c5b1 : ((rd l0 x5_1) != x1_1) = true := bne_iff_ne.mpr c5); obtain rfl := Option.some.inj H; (have p204 : 0 ≤ (x5_1 : Int) := of_decide_eq_true (by first | (with_reducible assumption) | assumption)); (have q204 : x5_1 < (l0.length : Int) := of_decide_eq_true (by first | (with_reducible assumption) | assumption)); obtain ⟨ad204, e204, hx204_0⟩ := Kd.at_int HR0.out x5_1 p204 q204
         cases e204
         replace p204 := eq_true p204; replace q204 := eq_true q204; (go_wp2); go_ret; exact ⟨by first | rfl | (simp; done) | (simp [*]; done), by repeat (first | exact Drawn0.refl _ | apply Drawn0.step)⟩
     · rw [if_neg c4] at H
       exact absurd H (by simp)
   · rw [if_neg c3] at H
     (have c3b0 : decide (x5_1 < (l0.length : Int)) = false := decide_eq_false c3); clear c3; obtain rfl := Option.some.inj H; (go_wp2); go_ret; exact ⟨by first | rfl | (simp; done) | (simp [*]; done), by repeat (first | exact Drawn0.refl _ | apply Drawn0.step)⟩
/-! ### laws_heldFollower: function 40 -/
def laws_heldFollower.f (k : Nat) (l0_0 : List Int) (a0_1 : Int) (a1 : Int) : Option (Int) := (laws_heldIntS.f k l0_0 a1).bind fun t206 => (if t206 < 0 then (some (-1)) else (some t206))
theorem laws_heldFollower.mono : ∀ a0 a1 a2 k, LeO (laws_heldFollower.f k a0 a1 a2) (laws_heldFollower.f (k + 1) a0 a1 a2) := by
 intro a0 a1 a2 k; unfold laws_heldFollower.f
 repeat' first
  | (with_reducible exact laws_heldIntS.mono _ _ _)
  | (with_reducible exact LeO.refl _)
  | (with_reducible exact LeO.none _)
  | (with_reducible refine LeO.ite ?_ ?_)
  | (with_reducible refine LeO.bind ?_ (fun _ => ?_))
  | exact laws_heldIntS.mono _ _ _
  | exact LeO.none _
  | refine LeO.ite ?_ ?_
  | refine LeO.bind ?_ (fun _ => ?_)
set_option maxHeartbeats 8000000 in
set_option maxRecDepth 100000 in
theorem laws_heldFollower.calls (k : Nat) (A0_0 : Option Addr) (c0_0 : Nat) (l0_0 : List Int) (a0_1 : Int) (a1 : Int) (r : Int) (w : World) (hr0_0 : Kd.C (Kd.int .i64) w A0_0 l0_0.length l0_0) (hc0_0 : l0_0.length ≤ c0_0) (h : laws_heldFollower.f k l0_0 a0_1 a1 = some r) :
 Calls Try.prog 40 #[.agg #[.slice A0_0 l0_0.length c0_0, .int .i64 a0_1], .int .i64 a1] w fun e w' => e = .returned (.int .i64 r) ∧ Below w.heap.size w w' := by
 have hu51 := Try.underlying51; have HR0_0 := q0_5 hr0_0; have HC0_0 := q0_5 hc0_0; clear hr0_0 hc0_0; have HB := q0_5 (Below.refl w.heap.size w); (have H : ((laws_heldIntS.f k l0_0 a1).bind fun t206 => (if t206 < 0 then (some (-1)) else (some t206))) = some r := h); clear h; replace H := Option.bind_eq_some_iff.mp H; obtain ⟨t206, A30, H⟩ := H; replace H : (if t206 < 0 then (some (-1)) else (some t206)) = some r := H; have A3 := q0_5 A30; clear A30
 by_cases c4 : t206 < 0
 · rw [if_pos c4] at H
   (have c4b0 : decide (t206 < 0) = true := decide_eq_true c4); clear c4; obtain rfl := Option.some.inj H; go_enter Try.func40, Try.ntmps40; (go_wp2_with (first | ((with_reducible refine gate_dst (N := 2) rfl ?_); refine box_event ?hg (N := 2) ?hd (cs := #[.slice A0_0 l0_0.length c0_0, .int .i64 a0_1]) (t := 51) ?hr ?_; (case hd => rfl); (case hg => rfl); (case hr => first | (go_simp; done) | (go_simp; rfl)); intro q8 hg w5 hbox hb; have n0_ := q0_5 (below_step (qc_5) hb); have n1_ := q0_5 (hbox); have n2_ := q0_5 ((by rw [hg]; exact (below_size (qc_5)) : w.heap.size ≤ q8)); have n3_ := q0_5 ((by rw [hg]; exact (below_size (qc_5)) : w.heap.size ≤ q8)); clear HB; have HB := n0_; have q9 := n1_; have GW205 := n2_; have qk := n3_; clear n0_ n1_ n2_ n3_; clear hb hbox hg; have hcz6_0 : w5.cell? ⟨q8, 0, none⟩ = some (.slice A0_0 l0_0.length c0_0) := (blk_cell q9.out 0).trans rfl; have hcz6_1 : w5.cell? ⟨q8, 1, none⟩ = some (.int .i64 a0_1) := (blk_cell q9.out 1).trans rfl; have hfz6_0 := blk_frozen q9.out 0; have hfz6_1 := blk_frozen q9.out 1) | ((with_reducible refine gate_callee (f := 22) rfl ?_); refine goesL_ (some 8) rfl rfl Try.func22 (by kernel_rfl) rfl #[.slice A0_0 l0_0.length c0_0, .int .i64 a1] rfl ma ?_; (with_reducible refine (laws_heldIntS.calls k _ _ l0_0 a1 t206 _ ?side1 ?side2 A3.out).mono ?_); (case side1 => exact ca (Kd.C_below HR0_0.out HB.out)); (case side2 => exact HC0_0.out); rintro e w' ⟨rfl, ⟨nd, rfl⟩⟩; refine ⟨_, rfl, ?_⟩))); go_ret; (exact ⟨by first | rfl | (simp [errW_none, errW_some] <;> rfl) | (simp [*, errW_none, errW_some] <;> rfl), by exact (qf_5)⟩)
 · rw [if_neg c4] at H
   (have c4b0 : decide (t206 < 0) = false := decide_eq_false c4); clear c4; obtain rfl := Option.some.inj H; go_enter Try.func40, Try.ntmps40; (go_wp2_with (first | ((with_reducible refine gate_dst (N := 2) rfl ?_); refine box_event ?hg (N := 2) ?hd (cs := #[.slice A0_0 l0_0.length c0_0, .int .i64 a0_1]) (t := 51) ?hr ?_; (case hd => rfl); (case hg => rfl); (case hr => first | (go_simp; done) | (go_simp; rfl)); intro q8 hg w7 hbox hb; have n0_ := q0_5 (below_step (qc_5) hb); have n1_ := q0_5 (hbox); have n2_ := q0_5 ((by rw [hg]; exact (below_size (qc_5)) : w.heap.size ≤ q8)); have n3_ := q0_5 ((by rw [hg]; exact (below_size (qc_5)) : w.heap.size ≤ q8)); clear HB; have HB := n0_; have q9 := n1_; have GW205 := n2_; have qk := n3_; clear n0_ n1_ n2_ n3_; clear hb hbox hg; have hcz8_0 : w7.cell? ⟨q8, 0, none⟩ = some (.slice A0_0 l0_0.length c0_0) := (blk_cell q9.out 0).trans rfl; have hcz8_1 : w7.cell? ⟨q8, 1, none⟩ = some (.int .i64 a0_1) := (blk_cell q9.out 1).trans rfl; have hfz8_0 := blk_frozen q9.out 0; have hfz8_1 := blk_frozen q9.out 1) | ((with_reducible refine gate_callee (f := 22) rfl ?_); refine goesL_ (some 8) rfl rfl Try.func22 (by kernel_rfl) rfl #[.slice A0_0 l0_0.length c0_0, .int .i64 a1] rfl ma ?_; (with_reducible refine (laws_heldIntS.calls k _ _ l0_0 a1 t206 _ ?side1 ?side2 A3.out).mono ?_); (case side1 => exact ca (Kd.C_below HR0_0.out HB.out)); (case side2 => exact HC0_0.out); rintro e w' ⟨rfl, ⟨nd, rfl⟩⟩; refine ⟨_, rfl, ?_⟩))); go_ret; (exact ⟨by first | rfl | (simp [errW_none, errW_some] <;> rfl) | (simp [*, errW_none, errW_some] <;> rfl), by exact (qf_5)⟩)
end Go.Proofs.Ytlkcbmcbmanmiaa.PFnExactStepNear
