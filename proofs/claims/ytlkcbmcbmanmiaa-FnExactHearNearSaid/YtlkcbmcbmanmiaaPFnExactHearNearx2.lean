-- Written for this claim by a program of this repository (wip/tools/print2.py), out of the translation; Lean checks it.
import Derived.Test.YtlkcbmcbmanmiaaPFnExactHearNearx0
import Derived.Test.YtlkcbmcbmanmiaaPFnExactHearNearx1
namespace Go.Proofs.Ytlkcbmcbmanmiaa.PFnExactHearNear
open Go.RowKit Go.Proofs.YtlkcbmcbmanmiaaW.PrintWords Go.Proofs.YtlkcbmcbmanmiaaW.PrintLast Go.Proofs.YtlkcbmcbmanmiaaW.PrintMore
attribute [local go_sem] max2_int min2_int max_two min_two max_three min_three max_four min_four   -- for this text's walks alone
set_option linter.unusedVariables false
set_option linter.unusedSimpArgs false
-- SHORT
theorem qe_2 {p : Prop} (f : p := by repeat (first | (with_reducible first | exact HB.out | apply below_alloc | apply pw_below_drewN | apply below_drew1) | exact HB.out)) : p := f
theorem qf_2 {p : Prop} (f : p := by repeat (first | (with_reducible first | exact HB.out | apply below_alloc | apply pw_below_drewN | apply below_drew1 | refine below_set ?_ ql.out) | exact HB.out)) : p := f
theorem q9_2 {p : Prop} (f : p := by repeat (first | (with_reducible first | exact HB.out | apply below_alloc | apply pw_below_drewN | apply below_drew1 | refine below_set ?_ ql.out | refine below_set ?_ qm.out) | exact HB.out)) : p := f
theorem qa_2 {p : Prop} (f : p := by repeat (first | (with_reducible first | exact HB.out | apply below_alloc | apply pw_below_drewN | apply below_drew1 | refine below_set ?_ qn.out) | exact HB.out)) : p := f
theorem qd_2 {p : Prop} (f : p := by repeat (first | (with_reducible first | exact HB.out | apply below_alloc | apply pw_below_drewN | apply below_drew1 | refine below_set ?_ qi.out) | exact HB.out)) : p := f
theorem q0_2 {p : Prop} (h : p) : Aside0 p := ⟨h⟩
/-! ### spec_l17Copy: function 83 -/
def spec_l17Copy.f (l0_0 : List Int) (a0_1 : Int) : Option (List Int × Int) := (some (([] : List Int) : List Int)).bind fun y128 => (if y128.length + l0_0.length < 17592186044416 then (some ((y128 ++ l0_0), a0_1)) else (none))
def spec_l17Copy.T1 : Bool × List (List Nat × List Nat) := (true, [([], []), ([], []), ([1], [1]), ([0, 2], [0, 2]), ([], []), ([4], [4]), ([3, 5], [3, 5]), ([6, 3, 0, 1, 2, 3, 4, 5, 6], [6])])
def spec_l17Copy.B1 : List Nat := [0, 0, 2, 7, 0, 16, 63, 127]
theorem spec_l17Copy.tab1 : rtab .any (opsOf Try.f83 1) = spec_l17Copy.T1 := by kernel_rfl
theorem spec_l17Copy.bits1 : waitsOk spec_l17Copy.T1.2 spec_l17Copy.B1 = true := by kernel_rfl
set_option maxHeartbeats 8000000 in
set_option maxRecDepth 100000 in
theorem spec_l17Copy.calls (A0_0 : Option Addr) (c0_0 : Nat) (l0_0 : List Int) (a0_1 : Int) (r1 : List Int) (r2 : Int) (w : World) (hr0_0 : Kd.C (Kd.int .i64) w A0_0 l0_0.length l0_0) (hc0_0 : l0_0.length ≤ c0_0) (h : spec_l17Copy.f l0_0 a0_1 = some (r1, r2)) :
 Calls Try.prog 83 #[.agg #[.slice A0_0 l0_0.length c0_0, .int .i64 a0_1]] w fun e w' => ∃ v0_ : Value, e = .returned (.agg #[v0_, .int .i64 r2]) ∧ Kd.R (Kd.int .i64) 3 w' w.heap.size (fun _ => True) v0_ r1 ∧ Below w.heap.size w w' := by
 have hu51 := Try.underlying51; have HR0_0 := q0_2 hr0_0; have HC0_0 := q0_2 hc0_0; clear hr0_0 hc0_0; have HB := q0_2 (Below.refl w.heap.size w); (have H : ((some (([] : List Int) : List Int)).bind fun y128 => (if y128.length + l0_0.length < 17592186044416 then (some ((y128 ++ l0_0), a0_1)) else (none))) = some (r1, r2) := h); clear h; obtain ⟨y128, hy128⟩ : ∃ y_ : List Int, y_ = (([] : List Int)) := ⟨_, rfl⟩; (replace H : (if y128.length + l0_0.length < 17592186044416 then (some ((y128 ++ l0_0), a0_1)) else (none)) = some (r1, r2) := by first | (rw [hy128]; with_reducible exact H) | (have H2_ := (Option.bind_some _ _).symm.trans H; rw [hy128]; with_reducible exact H2_) | (have H2_ := (Option.bind_some _ _).symm.trans H; with_reducible exact H2_) | with_reducible exact H | (rw [hy128]; exact H) | exact H); have Ny128 := q0_2 hy128; clear hy128
 by_cases c2 : y128.length + l0_0.length < 17592186044416
 · rw [if_pos c2] at H
   have LMc2 := q0_2 c2; clear c2; obtain ⟨y131, hy131⟩ : ∃ y_ : List Int, y_ = (y128 ++ l0_0) := ⟨_, rfl⟩; (replace H : (some (y131, a0_1)) = some (r1, r2) := by first | (rw [hy131]; with_reducible exact H) | (have H2_ := (Option.bind_some _ _).symm.trans H; rw [hy131]; with_reducible exact H2_) | (have H2_ := (Option.bind_some _ _).symm.trans H; with_reducible exact H2_) | with_reducible exact H | (rw [hy131]; exact H) | exact H); have Ny131 := q0_2 hy131; clear hy131; (simp only [Option.some.injEq, Prod.mk.injEq] at H); obtain ⟨rfl, rfl⟩ := H; go_enter Try.func83, Try.ntmps83; (try go_wp2_with (first | ((with_reducible refine gate_dst (N := 1) rfl ?_); refine box_event ?hg (N := 1) ?hd (cs := #[.slice A0_0 l0_0.length c0_0, .int .i64 a0_1]) (t := 51) ?hr ?_; (case hd => rfl); (case hg => rfl); (case hr => first | (go_simp; done) | (go_simp; rfl)); intro qb hg w3 hbox hb; have n0_ := q0_2 (below_step (qe_2) hb); have n1_ := q0_2 (hbox); have n2_ := q0_2 ((by rw [hg]; exact (below_size (qe_2)) : w.heap.size ≤ qb)); have n3_ := q0_2 ((by rw [hg]; exact (below_size (qe_2)) : w.heap.size ≤ qb)); clear HB; have HB := n0_; have q2 := n1_; have GW126 := n2_; have ql := n3_; clear n0_ n1_ n2_ n3_; clear hb hbox hg) | ((with_reducible refine gate_dst (N := 2) rfl ?_); refine box_event ?hg (N := 2) ?hd (cs := #[.slice none 0 0, .int .i64 0]) (t := 51) ?hr ?_; (case hd => rfl); (case hg => rfl); (case hr => first | (go_simp; done) | (go_simp; rfl)); intro q8 hg w4 hbox hb; have n0_ := q0_2 (bb q2.out hb); have n1_ := q0_2 (below_step (qf_2) hb); have n2_ := q0_2 (hbox); have n3_ := q0_2 ((by rw [hg]; exact (below_size (qf_2)) : w.heap.size ≤ q8)); have n4_ := q0_2 ((by rw [hg]; exact (below_size (qf_2)) : w.heap.size ≤ q8)); have n5_ := q0_2 ((by rw [hg]; exact Nat.ne_of_lt (bl q2.out) : qb ≠ q8)); have n6_ := q0_2 ((by rw [hg]; exact Nat.ne_of_gt (bl q2.out) : q8 ≠ qb)); clear q2; clear HB; have q2 := n0_; have HB := n1_; have q4 := n2_; have GW127 := n3_; have qm := n4_; have q5 := n5_; have qc := n6_; clear n0_ n1_ n2_ n3_ n4_ n5_ n6_; clear hb hbox hg))); have n0_ := q0_2 (blk_drew q2.out); have n1_ := q0_2 (blk_drew q4.out); have n2_ := q0_2 (below_drew1 HB.out); clear q2 q4 HB; have q2 := n0_; have q4 := n1_; have HB := n2_; clear n0_ n1_ n2_; refine start_ (n := 8) (S := fun w' => w'.cell? ⟨qb, 0, none⟩ = some (.slice A0_0 l0_0.length c0_0) ∧ w'.cell? ⟨qb, 1, none⟩ = some (.int .i64 a0_1)) (ds := []) (bq 0 8) (by kernel_rfl) rfl rfl ⟨(blk_cell q2.out 0).trans rfl, (blk_cell q2.out 1).trans rfl⟩ (fun hHeld => ?_); refine with_tabW spec_l17Copy.tab1 spec_l17Copy.bits1 (fun HT_ HW_ => ?_); generalize w4.drew = w5 at q2 q4 HB hHeld ⊢
   refine pure_ (i := 1) (N := some 4) (v := ?_) (a' := ?_) (bq 2 8) rfl rfl (any_of HT_.out (by kernel_rfl)) (fun _ _ _ h => h) (Or.inl ⟨by rfl, ?_⟩) ?_ ?_; rotate_left; (intro w'; go_simp; with_reducible rfl); rotate_left; (exact pb); refine pure_ (i := 4) (N := some 7) (v := ?_) (a' := ?_) (bq 18 8) rfl rfl (any_of HT_.out (by kernel_rfl)) (fun _ _ _ h => h) (Or.inl ⟨by rfl, ?_⟩) ?_ ?_; rotate_left; (intro w'; go_simp; with_reducible rfl); rotate_left; (exact pb); refine take_ (i := 2) (N := some 5) (v := ?_) (a' := ?_) (bq 22 8) rfl rfl (take_ofW HT_.out HW_.out (by kernel_rfl)) (fun _ _ _ h => h) (Or.inl ⟨by rfl, ?_⟩) hHeld ?_ ?_; rotate_left; (rintro w' ⟨s0, s1⟩; go_simp; with_reducible rfl); rotate_left; (exact pb); refine take_ (i := 5) (N := some 8) (v := ?_) (a' := ?_) (bq 54 8) rfl rfl (take_ofW HT_.out HW_.out (by kernel_rfl)) (fun _ _ _ h => h) (Or.inl ⟨by rfl, ?_⟩) hHeld ?_ ?_; rotate_left; (rintro w' ⟨s0, s1⟩; go_simp; with_reducible rfl); rotate_left; (exact pb); refine one_ (i := 0) (N := some 3) (bq 55 8) rfl rfl (one_of HT_.out (by kernel_rfl)) (by decide) (fun K hK => ?_); refine Kd.R_lit_step (Kd.int .i64) _ 3 ?hg (N := 3) ?hd (xs := ([] : List Int)) (inner := []) (ok := fun _ => True) (okp := fun _ => True) ?hr ?hp (fun _ hk => hk) trivial (Below.refl _ _) (Nat.le_refl _) (by simp) ?_; (case hd => rfl); (case hg => rfl); (case hr => first | (go_simp; done) | (go_simp; rfl)); (case hp => exact (Reps.none _ _)); intro v129 w6 ho7 hb hg_ hnew_; clear hg_ hnew_; ((first | rw [← Ny128.out] at ho7 | (simp only [Int.reduceToNat] at ho7; rw [← Ny128.out] at ho7))); have n0_ := q0_2 (Kd.R_lower ho7 (below_size (q9_2))); have n1_ := q0_2 (bb q2.out hb); have n2_ := q0_2 (bb q4.out hb); have n3_ := q0_2 (below_step (q9_2) hb); clear q2 q4 HB; have qg := n0_; have q2 := n1_; have q4 := n2_; have HB := n3_; clear n0_ n1_ n2_ n3_ hb ho7; refine hK.out _ _ ⟨(blk_cell q2.out 0).trans rfl, (blk_cell q2.out 1).trans rfl⟩ (fun hHeld => ?_); clear hK K; refine norm_ (a' := ?_) ?_ ?_; rotate_left; ((show Act.put _ (some 3) _ = _); simp only [Act.put, List.setIfInBounds_toArray, List.set_cons_zero, List.set_cons_succ, i64_w, i32_w]; rfl); refine one_ (i := 3) (N := some 6) (bq 63 8) rfl rfl (one_of HT_.out (by kernel_rfl)) (by decide) (fun K hK => ?_); refine Kd.R_append_rows_step (Kd.int .i64) (w0 := w) w.heap.size (by rfl) (.tmp 3) (.tmp 5) 24 3 (.int .i64 0) 8 rfl Try.underlying24 info3 rfl (by decide) (by omega) v129 y128 l0_0 _ _ _ (fun _ => True) (fun _ => False) rfl rfl ?aO ?aR (fun _ _ h => h) (fun _ h => h.elim) ?aF ?aB ?aS ?aL ?_; ((case aR => exact ca (Kd.C_below HR0_0.out HB.out))); ((case aB => exact (q9_2))); ((case aF => exact (fun _ _ => trivial))); ((case aO => exact (ra qg.out))); ((case aS => exact (below_size (q9_2)))); ((case aL => have := LMc2.out; omega)); intro v132 w8 ho hb hg hat; rw [← Ny131.out] at ho
   have n0_ := q0_2 (blk_grown (g := qb) (o := .cells #[.slice A0_0 l0_0.length c0_0, .int .i64 a0_1] 51 (0, 0)) (ba q2.out) hg (Kd.R_ne qg.out q2.out (by decide))); have n1_ := q0_2 (blk_grown (g := q8) (o := .cells #[.slice none 0 0, .int .i64 0] 51 (0, 0)) (ba q4.out) hg (Kd.R_ne qg.out q4.out (by decide))); have n2_ := q0_2 (hb); have n3_ := q0_2 (ho); clear q2 q4 HB qg; have q2 := n0_; have q4 := n1_; have HB := n2_; have qh := n3_; clear n0_ n1_ n2_ n3_ ho hb hg hat; obtain ⟨qj, qk, eo9⟩ := Kd.R_slice qh.out; ((first | subst eo9 | (injection eo9 with f1_ f2_ f3_; have f4_ := f1_.symm; have f5_ := f3_.symm; clear f1_ f2_ f3_; subst f4_; subst f5_))); refine hK.out _ _ ⟨(blk_cell q2.out 0).trans rfl, (blk_cell q2.out 1).trans rfl⟩ (fun hHeld => ?_); clear hK K; refine norm_ (a' := ?_) ?_ ?_; rotate_left; ((show Act.put _ (some 6) _ = _); simp only [Act.put, List.setIfInBounds_toArray, List.set_cons_zero, List.set_cons_succ, i64_w, i32_w]; rfl); refine pure_ (i := 6) (N := some 9) (v := ?_) (a' := ?_) (bq 127 8) rfl rfl (any_of HT_.out (by kernel_rfl)) (fun _ _ _ h => h) (Or.inl ⟨by rfl, ?_⟩) ?_ ?_; rotate_left; (intro w'; go_simp; with_reducible rfl); rotate_left; (exact pb); refine one_ (i := 7) (N := none) (bq 255 8) rfl rfl (one_of HT_.out (by kernel_rfl)) (by decide) (fun K hK => ?_); (have hs10 : w8.cell? ⟨q8, 0, none⟩ = some (.slice none 0 0) := (blk_cell q4.out 0).trans rfl); have hfs10 := blk_frozen q4.out 0; have hns10_0 := q5.out; have hms10_0 := qc.out; (have hs11 : w8.cell? ⟨q8, 1, none⟩ = some (.int .i64 0) := (blk_cell q4.out 1).trans rfl); have hfs11 := blk_frozen q4.out 1; have hns11_0 := q5.out; have hms11_0 := qc.out; refine skip_ (w1 := ?_) (by rfl) rfl ?_ ?_; rotate_left; (go_simp; rfl); refine hK.out _ _ ⟨((cell_far (p := ⟨q8, _, none⟩) q5.out _).trans (((cell_far (p := ⟨q8, _, none⟩) q5.out _).trans (hHeld.1)))), ((cell_far (p := ⟨q8, _, none⟩) q5.out _).trans (((cell_far (p := ⟨q8, _, none⟩) q5.out _).trans (hHeld.2))))⟩ (fun hHeld => ?_); clear hK K; refine done_ (done_of HT_.out (by kernel_rfl)) ?_; (try go_wp2); refine bodyPost_ret (results_cell_row rfl _ _ q8 51 #[.slice qj y131.length qk, .int .i64 a0_1] (0, 0) _ rfl (by refine ba ?_; refine blk_put (cs := #[.slice qj y131.length qk, .int .i64 0]) ?_ 1 _ rfl; refine ba ?_; refine blk_put (cs := #[.slice none 0 0, .int .i64 0]) ?_ 0 _ rfl; refine ba ?_; exact q4.out) Try.underlying51 rfl (by kernel_rfl)) rfl ?_; (exact ⟨_, by first | rfl | (simp [errW_none, errW_some] <;> rfl) | (simp [*, errW_none, errW_some] <;> rfl), by refine ra ?_; exact Kd.R_mono (Kd.R_far (p := ⟨q8, 1, none⟩) (Kd.R_far (p := ⟨q8, 0, none⟩) (Kd.R_types qh.out q4.out (by decide)) (fun _ hk => hk.2) (.slice qj y131.length qk)) (fun _ hk => hk.2) (.int .i64 a0_1)) (fun _ hk => trivial), by exact (q9_2)⟩)
 · rw [if_neg c2] at H
   exact absurd H (by simp)
/-! ### spec_l18Ok: function 84 -/
def spec_l18Ok.l0 : Nat → List Int → Int → Int → List Int → Int → Option (Bool)
 | 0, _, _, _, _, _ => none
 | k + 1, x0, x2, x7, x135000, x135001 => if x7 < (x135000.length : Int) then (if 0 ≤ x7 then ((spec_l1In.f (rd x135000 x7) 0 500).bind fun t136 => (if t136 = true then (spec_l18Ok.l0 k x0 x2 (wrap64 (x7 + 1)) x135000 x135001) else (some false))) else (none)) else (if (x0.length : Int) ≤ 40 then (if (x135000.length : Int) = (wrap64 ((x0.length : Int) + 1)) then ((spec_l1In.f x135001 0 500).bind fun t137 => (if t137 = true then ((spec_l1In.f x2 1 40).bind fun t138 => (some t138)) else (some false))) else (some false)) else (some false))
def spec_l18Ok.f (k : Nat) (l0 : List Int) (l1_0 : List Int) (a1_1 : Int) (a2 : Int) : Option (Bool) := spec_l18Ok.l0 k l0 a2 0 l1_0 a1_1
theorem spec_l18Ok.mono_l : ∀ k, (∀ y0 y1 y2 y3 y4, LeO (spec_l18Ok.l0 k y0 y1 y2 y3 y4) (spec_l18Ok.l0 (k + 1) y0 y1 y2 y3 y4))
 | 0 => fun _ _ _ _ _ r h => by simp [spec_l18Ok.l0] at h
 | k + 1 => by
  have ih0 := spec_l18Ok.mono_l k
  · intro y0 y1 y2 y3 y4
    unfold spec_l18Ok.l0
    repeat' first
    | (with_reducible exact ih0 _ _ _ _ _)
    | (with_reducible exact LeO.refl _)
    | (with_reducible exact LeO.none _)
    | (with_reducible refine LeO.ite ?_ ?_)
    | (with_reducible refine LeO.bind ?_ (fun _ => ?_))
    | exact ih0 _ _ _ _ _
    | exact LeO.none _
    | refine LeO.ite ?_ ?_
    | refine LeO.bind ?_ (fun _ => ?_)
theorem spec_l18Ok.mono : ∀ a0 a1 a2 a3 k, LeO (spec_l18Ok.f k a0 a1 a2 a3) (spec_l18Ok.f (k + 1) a0 a1 a2 a3) := by
 intro a0 a1 a2 a3 k; have ih0 := spec_l18Ok.mono_l k; unfold spec_l18Ok.f
 repeat' first
  | (with_reducible exact ih0 _ _ _ _ _)
  | (with_reducible exact LeO.refl _)
  | (with_reducible exact LeO.none _)
  | (with_reducible refine LeO.ite ?_ ?_)
  | (with_reducible refine LeO.bind ?_ (fun _ => ?_))
  | exact ih0 _ _ _ _ _
  | exact LeO.none _
  | refine LeO.ite ?_ ?_
  | refine LeO.bind ?_ (fun _ => ?_)
set_option maxHeartbeats 8000000 in
set_option maxRecDepth 100000 in
theorem spec_l18Ok.calls (k : Nat) (A0 : Option Addr) (c0 : Nat) (l0 : List Int) (A1_0 : Option Addr) (c1_0 : Nat) (l1_0 : List Int) (a1_1 : Int) (a2 : Int) (r : Bool) (w : World) (hr0 : Kd.C (Kd.int .i64) w A0 l0.length l0) (hc0 : l0.length ≤ c0) (hr1_0 : Kd.C (Kd.int .i64) w A1_0 l1_0.length l1_0) (hc1_0 : l1_0.length ≤ c1_0) (h : spec_l18Ok.f k l0 l1_0 a1_1 a2 = some r) :
 Calls Try.prog 84 #[.slice A0 l0.length c0, .agg #[.slice A1_0 l1_0.length c1_0, .int .i64 a1_1], .int .i64 a2] w fun e w' => e = .returned (.bool r) ∧ Below w.heap.size w w' := by
 have hu51 := Try.underlying51; have HR0 := q0_2 hr0; have HC0 := q0_2 hc0; clear hr0 hc0; have HR1_0 := q0_2 hr1_0; have HC1_0 := q0_2 hc1_0; clear hr1_0 hc1_0; have HB := q0_2 (Below.refl w.heap.size w); (have H : (spec_l18Ok.l0 k l0 a2 0 l1_0 a1_1) = some r := h); clear h; (have H' := q0_2 H); clear H; go_enter Try.func84, Try.ntmps84; (go_wp2_with (first | ((with_reducible refine gate_dst (N := 4) rfl ?_); (try (refine gate_guard (by rfl) ?_; dsimp only)); refine box_event ?hg (N := 4) ?hd (cs := #[.slice A1_0 l1_0.length c1_0, .int .i64 a1_1]) (t := 51) ?hr ?_; (case hd => rfl); (case hg => rfl); (case hr => first | (go_simp; done) | (go_simp; rfl)); intro q6 hg w4 hbox hb; have n0_ := q0_2 (below_step (qe_2) hb); have n1_ := q0_2 (hbox); have n2_ := q0_2 ((by rw [hg]; exact (below_size (qe_2)) : w.heap.size ≤ q6)); have n3_ := q0_2 ((by rw [hg]; exact (below_size (qe_2)) : w.heap.size ≤ q6)); clear HB; have HB := n0_; have q1 := n1_; have GW134 := n2_; have qn := n3_; clear n0_ n1_ n2_ n3_; clear hb hbox hg))); (go_loopg [7] k (fun kq v7 w' => ∃ (x7_1 : Int), v7 = .int .i64 x7_1 ∧ Aside0 (spec_l18Ok.l0 kq l0 a2 x7_1 l1_0 a1_1 = some r) ∧ Aside0 (kq ≤ k) ∧ Aside0 (w'.heap[q6]? = some (.cells #[(.slice A1_0 l1_0.length c1_0), .int .i64 a1_1] 51 (0, 0))) ∧ Aside0 (Below w.heap.size w w')))
 case atStart => exact ⟨(0), (by first | rfl | (simp; done) | (simp [*]; done)), H', ⟨Nat.le_refl _⟩, ⟨by refine ba ?_; exact q1.out⟩, ⟨by exact (qa_2)⟩⟩
 case round =>
  clear H'; (try clear c1); (try clear p2); obtain ⟨x7_1, rfl, HA, HK1, q1, HB⟩ := hrel
  cases gk with
  | zero => exact absurd HA.out (by simp [spec_l18Ok.l0])
  | succ k1 =>
   have H := HA.out; clear HA; (simp only [spec_l18Ok.l0] at H)
   by_cases c5 : x7_1 < (l1_0.length : Int)
   · rw [if_pos c5] at H
     (have c5b0 : decide (x7_1 < (l1_0.length : Int)) = true := decide_eq_true c5); clear c5
     by_cases c6 : 0 ≤ x7_1
     · rw [if_pos c6] at H
       (have c6b0 : decide (0 ≤ x7_1) = true := decide_eq_true c6); clear c6; replace H := Option.bind_eq_some_iff.mp H; obtain ⟨t136, A70, H⟩ := H; replace H : (if t136 = true then (spec_l18Ok.l0 k1 l0 a2 (wrap64 (x7_1 + 1)) l1_0 a1_1) else (some false)) = some r := H; have A7 := q0_2 A70; clear A70
       by_cases c8 : t136 = true
       · subst c8
         have H1 : (spec_l18Ok.l0 k1 l0 a2 (wrap64 (x7_1 + 1)) l1_0 a1_1) = some r := by rw [if_pos rfl] at H; exact H
         clear H; have H := H1; clear H1; (have H' := q0_2 H); clear H; (have hcz9_0 : wr.cell? ⟨q6, 0, none⟩ = some (.slice A1_0 l1_0.length c1_0) := (blk_cell q1.out 0).trans rfl); (have hcz9_1 : wr.cell? ⟨q6, 1, none⟩ = some (.int .i64 a1_1) := (blk_cell q1.out 1).trans rfl); have hfz9_0 := blk_frozen q1.out 0; have hfz9_1 := blk_frozen q1.out 1; (have p135 : 0 ≤ (x7_1 : Int) := of_decide_eq_true (by first | (with_reducible assumption) | assumption)); (have q135 : x7_1 < (l1_0.length : Int) := of_decide_eq_true (by first | (with_reducible assumption) | assumption)); obtain ⟨ad135, e135, hx135_0⟩ := Kd.at_int HR1_0.out x7_1 p135 q135
         cases e135
         replace hx135_0 := (HB.out.cell (World.block_lt_of_cell? w _ hx135_0)).trans hx135_0; replace p135 := eq_true p135; replace q135 := eq_true q135; (go_wp2_with (first | ((with_reducible refine gate_callee (f := 71) rfl ?_); refine goesL_ (some 20) rfl rfl Try.func71 (by kernel_rfl) rfl #[.int .i64 (rd l1_0 x7_1), .int .i64 0, .int .i64 500] rfl ma ?_; (with_reducible refine (spec_l1In.calls (rd l1_0 x7_1) 0 500 true _ A7.out).mono ?_); rintro e w' ⟨rfl, ⟨nd, rfl⟩⟩; refine ⟨_, rfl, ?_⟩))); (go_roundg k1)
         case measure => have := HK1.out; omega
         case rel => exact ⟨(wrap64 (x7_1 + 1)), (by first | rfl | (simp; done) | (simp [*]; done)), H', ⟨by have := HK1.out; omega⟩, ⟨by refine ba ?_; exact q1.out⟩, ⟨by exact (qa_2)⟩⟩
       · replace c8 := Bool.eq_false_iff.mpr c8
         subst c8; (have H1 : (some false) = some r := by rw [if_neg (show ¬ (false = true) by decide)] at H; exact H); clear H; have H := H1; clear H1; obtain rfl := Option.some.inj H; (have hcz10_0 : wr.cell? ⟨q6, 0, none⟩ = some (.slice A1_0 l1_0.length c1_0) := (blk_cell q1.out 0).trans rfl); (have hcz10_1 : wr.cell? ⟨q6, 1, none⟩ = some (.int .i64 a1_1) := (blk_cell q1.out 1).trans rfl); have hfz10_0 := blk_frozen q1.out 0; have hfz10_1 := blk_frozen q1.out 1; (have p135 : 0 ≤ (x7_1 : Int) := of_decide_eq_true (by first | (with_reducible assumption) | assumption)); (have q135 : x7_1 < (l1_0.length : Int) := of_decide_eq_true (by first | (with_reducible assumption) | assumption)); obtain ⟨ad135, e135, hx135_0⟩ := Kd.at_int HR1_0.out x7_1 p135 q135
         cases e135
         replace hx135_0 := (HB.out.cell (World.block_lt_of_cell? w _ hx135_0)).trans hx135_0; replace p135 := eq_true p135; replace q135 := eq_true q135; (go_wp2_with (first | ((with_reducible refine gate_callee (f := 71) rfl ?_); refine goesL_ (some 20) rfl rfl Try.func71 (by kernel_rfl) rfl #[.int .i64 (rd l1_0 x7_1), .int .i64 0, .int .i64 500] rfl ma ?_; (with_reducible refine (spec_l1In.calls (rd l1_0 x7_1) 0 500 false _ A7.out).mono ?_); rintro e w' ⟨rfl, ⟨nd, rfl⟩⟩; refine ⟨_, rfl, ?_⟩))); go_ret; (exact ⟨by first | rfl | (simp [errW_none, errW_some] <;> rfl) | (simp [*, errW_none, errW_some] <;> rfl), by exact (qa_2)⟩)
     · rw [if_neg c6] at H
       exact absurd H (by simp)
   · rw [if_neg c5] at H
     (have c5b0 : decide (x7_1 < (l1_0.length : Int)) = false := decide_eq_false c5); clear c5
     by_cases c11 : (l0.length : Int) ≤ 40
     · rw [if_pos c11] at H
       (have c11b0 : decide ((l0.length : Int) ≤ 40) = true := decide_eq_true c11); (have c11b1 : decide (l0.length ≤ 40) = true := decide_eq_true (by omega)); clear c11
       by_cases c12 : (l1_0.length : Int) = (wrap64 ((l0.length : Int) + 1))
       · rw [if_pos c12] at H
         (have c12b0 : ((l1_0.length : Int) == (wrap64 ((l0.length : Int) + 1))) = true := beq_iff_eq.mpr c12); (have c12b1 : ((l1_0.length : Int) != (wrap64 ((l0.length : Int) + 1))) = false := bne_eq_false_iff_eq.mpr c12); clear c12; replace H := Option.bind_eq_some_iff.mp H; obtain ⟨t137, A130, H⟩ := H; replace H : (if t137 = true then ((spec_l1In.f a2 1 40).bind fun t138 => (some t138)) else (some false)) = some r := H; have A13 := q0_2 A130; clear A130
         by_cases c14 : t137 = true
         · subst c14
           have H1 : ((spec_l1In.f a2 1 40).bind fun t138 => (some t138)) = some r := by rw [if_pos rfl] at H; exact H
           clear H; have H := H1; clear H1; replace H := Option.bind_eq_some_iff.mp H; obtain ⟨t138, A150, H⟩ := H; replace H : (some t138) = some r := H; have A15 := q0_2 A150; clear A150; obtain rfl := Option.some.inj H; (have hcz16_0 : wr.cell? ⟨q6, 0, none⟩ = some (.slice A1_0 l1_0.length c1_0) := (blk_cell q1.out 0).trans rfl); (have hcz16_1 : wr.cell? ⟨q6, 1, none⟩ = some (.int .i64 a1_1) := (blk_cell q1.out 1).trans rfl); have hfz16_0 := blk_frozen q1.out 0; have hfz16_1 := blk_frozen q1.out 1; (go_wp2_with (first | (go_at_call 71; (with_reducible refine (spec_l1In.calls a1_1 0 500 true _ A13.out).mono ?_); rintro e w' ⟨rfl, ⟨nd, rfl⟩⟩) | (go_at_call 71; (with_reducible refine (spec_l1In.calls a2 1 40 t138 _ A15.out).mono ?_); rintro e w' ⟨rfl, ⟨nd, rfl⟩⟩))); go_ret; (exact ⟨by first | rfl | (simp [errW_none, errW_some] <;> rfl) | (simp [*, errW_none, errW_some] <;> rfl), by exact (qa_2)⟩)
         · replace c14 := Bool.eq_false_iff.mpr c14
           subst c14; (have H1 : (some false) = some r := by rw [if_neg (show ¬ (false = true) by decide)] at H; exact H); clear H; have H := H1; clear H1; obtain rfl := Option.some.inj H; (have hcz17_0 : wr.cell? ⟨q6, 0, none⟩ = some (.slice A1_0 l1_0.length c1_0) := (blk_cell q1.out 0).trans rfl); (have hcz17_1 : wr.cell? ⟨q6, 1, none⟩ = some (.int .i64 a1_1) := (blk_cell q1.out 1).trans rfl); have hfz17_0 := blk_frozen q1.out 0; have hfz17_1 := blk_frozen q1.out 1; (go_wp2_with (first | (go_at_call 71; (with_reducible refine (spec_l1In.calls a1_1 0 500 false _ A13.out).mono ?_); rintro e w' ⟨rfl, ⟨nd, rfl⟩⟩))); go_ret; (exact ⟨by first | rfl | (simp [errW_none, errW_some] <;> rfl) | (simp [*, errW_none, errW_some] <;> rfl), by exact (qa_2)⟩)
       · rw [if_neg c12] at H
         (have c12b0 : ((l1_0.length : Int) == (wrap64 ((l0.length : Int) + 1))) = false := beq_eq_false_iff_ne.mpr c12); (have c12b1 : ((l1_0.length : Int) != (wrap64 ((l0.length : Int) + 1))) = true := bne_iff_ne.mpr c12); obtain rfl := Option.some.inj H; (have hcz18_0 : wr.cell? ⟨q6, 0, none⟩ = some (.slice A1_0 l1_0.length c1_0) := (blk_cell q1.out 0).trans rfl); (have hcz18_1 : wr.cell? ⟨q6, 1, none⟩ = some (.int .i64 a1_1) := (blk_cell q1.out 1).trans rfl); have hfz18_0 := blk_frozen q1.out 0; have hfz18_1 := blk_frozen q1.out 1; (go_wp2); go_ret; (exact ⟨by first | rfl | (simp [errW_none, errW_some] <;> rfl) | (simp [*, errW_none, errW_some] <;> rfl), by exact (qa_2)⟩)
     · rw [if_neg c11] at H
       (have c11b0 : decide ((l0.length : Int) ≤ 40) = false := decide_eq_false c11); (have c11b1 : decide (l0.length ≤ 40) = false := decide_eq_false (by omega)); clear c11; obtain rfl := Option.some.inj H; (have hcz19_0 : wr.cell? ⟨q6, 0, none⟩ = some (.slice A1_0 l1_0.length c1_0) := (blk_cell q1.out 0).trans rfl); (have hcz19_1 : wr.cell? ⟨q6, 1, none⟩ = some (.int .i64 a1_1) := (blk_cell q1.out 1).trans rfl); have hfz19_0 := blk_frozen q1.out 0; have hfz19_1 := blk_frozen q1.out 1; (go_wp2); go_ret; (exact ⟨by first | rfl | (simp [errW_none, errW_some] <;> rfl) | (simp [*, errW_none, errW_some] <;> rfl), by exact (qa_2)⟩)
/-! ### spec_PositionOf: function 85 -/
def spec_PositionOf.l0 : Nat → Int → Int → List Int → Int → Option (Int)
 | 0, _, _, _, _ => none
 | k + 1, x3, x4, x140000, x140001 => if x4 < (x140000.length : Int) then (if 0 ≤ x4 then (if 0 ≤ x3 then (if x3 < (x140000.length : Int) then (if (rd x140000 x4) < (rd x140000 x3) then (spec_PositionOf.l0 k x4 (wrap64 (x4 + 1)) x140000 x140001) else (spec_PositionOf.l0 k x3 (wrap64 (x4 + 1)) x140000 x140001)) else (none)) else (none)) else (none)) else (some x3)
def spec_PositionOf.f (k : Nat) (l0_0 : List Int) (a0_1 : Int) : Option (Int) := spec_PositionOf.l0 k 0 1 l0_0 a0_1
theorem spec_PositionOf.mono_l : ∀ k, (∀ y0 y1 y2 y3, LeO (spec_PositionOf.l0 k y0 y1 y2 y3) (spec_PositionOf.l0 (k + 1) y0 y1 y2 y3))
 | 0 => fun _ _ _ _ r h => by simp [spec_PositionOf.l0] at h
 | k + 1 => by
  have ih0 := spec_PositionOf.mono_l k
  · intro y0 y1 y2 y3
    unfold spec_PositionOf.l0
    repeat' first
    | (with_reducible exact ih0 _ _ _ _)
    | (with_reducible exact LeO.refl _)
    | (with_reducible exact LeO.none _)
    | (with_reducible refine LeO.ite ?_ ?_)
    | (with_reducible refine LeO.bind ?_ (fun _ => ?_))
    | exact ih0 _ _ _ _
    | exact LeO.none _
    | refine LeO.ite ?_ ?_
    | refine LeO.bind ?_ (fun _ => ?_)
theorem spec_PositionOf.mono : ∀ a0 a1 k, LeO (spec_PositionOf.f k a0 a1) (spec_PositionOf.f (k + 1) a0 a1) := by
 intro a0 a1 k; have ih0 := spec_PositionOf.mono_l k; unfold spec_PositionOf.f
 repeat' first
  | (with_reducible exact ih0 _ _ _ _)
  | (with_reducible exact LeO.refl _)
  | (with_reducible exact LeO.none _)
  | (with_reducible refine LeO.ite ?_ ?_)
  | (with_reducible refine LeO.bind ?_ (fun _ => ?_))
  | exact ih0 _ _ _ _
  | exact LeO.none _
  | refine LeO.ite ?_ ?_
  | refine LeO.bind ?_ (fun _ => ?_)
set_option maxHeartbeats 8000000 in
set_option maxRecDepth 100000 in
theorem spec_PositionOf.calls (k : Nat) (A0_0 : Option Addr) (c0_0 : Nat) (l0_0 : List Int) (a0_1 : Int) (r : Int) (w : World) (hr0_0 : Kd.C (Kd.int .i64) w A0_0 l0_0.length l0_0) (hc0_0 : l0_0.length ≤ c0_0) (h : spec_PositionOf.f k l0_0 a0_1 = some r) :
 Calls Try.prog 85 #[.agg #[.slice A0_0 l0_0.length c0_0, .int .i64 a0_1]] w fun e w' => e = .returned (.int .i64 r) ∧ Below w.heap.size w w' := by
 have hu51 := Try.underlying51; have HR0_0 := q0_2 hr0_0; have HC0_0 := q0_2 hc0_0; clear hr0_0 hc0_0; have HB := q0_2 (Below.refl w.heap.size w); (have H : (spec_PositionOf.l0 k 0 1 l0_0 a0_1) = some r := h); clear h; (have H' := q0_2 H); clear H; go_enter Try.func85, Try.ntmps85; (go_wp2_with (first | ((with_reducible refine gate_dst (N := 1) rfl ?_); refine box_event ?hg (N := 1) ?hd (cs := #[.slice A0_0 l0_0.length c0_0, .int .i64 a0_1]) (t := 51) ?hr ?_; (case hd => rfl); (case hg => rfl); (case hr => first | (go_simp; done) | (go_simp; rfl)); intro q7 hg w2 hbox hb; have n0_ := q0_2 (below_step (qe_2) hb); have n1_ := q0_2 (hbox); have n2_ := q0_2 ((by rw [hg]; exact (below_size (qe_2)) : w.heap.size ≤ q7)); have n3_ := q0_2 ((by rw [hg]; exact (below_size (qe_2)) : w.heap.size ≤ q7)); clear HB; have HB := n0_; have q3 := n1_; have GW139 := n2_; have qi := n3_; clear n0_ n1_ n2_ n3_; clear hb hbox hg))); (repeat (go_quiet (first | ((with_reducible refine gate_dst (N := 1) rfl ?_); refine box_event ?hg (N := 1) ?hd (cs := #[.slice A0_0 l0_0.length c0_0, .int .i64 a0_1]) (t := 51) ?hr ?_; (case hd => rfl); (case hg => rfl); (case hr => first | (go_simp; done) | (go_simp; rfl)); intro q7 hg w2 hbox hb; have n0_ := q0_2 (below_step (qe_2) hb); have n1_ := q0_2 (hbox); have n2_ := q0_2 ((by rw [hg]; exact (below_size (qe_2)) : w.heap.size ≤ q7)); have n3_ := q0_2 ((by rw [hg]; exact (below_size (qe_2)) : w.heap.size ≤ q7)); clear HB; have HB := n0_; have q3 := n1_; have GW139 := n2_; have qi := n3_; clear n0_ n1_ n2_ n3_; clear hb hbox hg)); try go_wp2_with (first | ((with_reducible refine gate_dst (N := 1) rfl ?_); refine box_event ?hg (N := 1) ?hd (cs := #[.slice A0_0 l0_0.length c0_0, .int .i64 a0_1]) (t := 51) ?hr ?_; (case hd => rfl); (case hg => rfl); (case hr => first | (go_simp; done) | (go_simp; rfl)); intro q7 hg w2 hbox hb; have n0_ := q0_2 (below_step (qe_2) hb); have n1_ := q0_2 (hbox); have n2_ := q0_2 ((by rw [hg]; exact (below_size (qe_2)) : w.heap.size ≤ q7)); have n3_ := q0_2 ((by rw [hg]; exact (below_size (qe_2)) : w.heap.size ≤ q7)); clear HB; have HB := n0_; have q3 := n1_; have GW139 := n2_; have qi := n3_; clear n0_ n1_ n2_ n3_; clear hb hbox hg)))); (go_loopg [3, 4] k (fun kq v3 v4 w' => ∃ (x3_1 : Int) (x4_1 : Int), v3 = .int .i64 x3_1 ∧ v4 = .int .i64 x4_1 ∧ Aside0 (spec_PositionOf.l0 kq x3_1 x4_1 l0_0 a0_1 = some r) ∧ Aside0 (kq ≤ k) ∧ Aside0 (w'.heap[q7]? = some (.cells #[(.slice A0_0 l0_0.length c0_0), .int .i64 a0_1] 51 (0, 0))) ∧ Aside0 (Below w.heap.size w w')))
 case atStart => exact ⟨(0), (1), (by first | rfl | (simp; done) | (simp [*]; done)), (by first | rfl | (simp; done) | (simp [*]; done)), H', ⟨Nat.le_refl _⟩, ⟨by refine ba ?_; exact q3.out⟩, ⟨by exact (qd_2)⟩⟩
 case round =>
  clear H'; (try clear p2); obtain ⟨x3_1, x4_1, rfl, rfl, HA, HK1, q3, HB⟩ := hrel
  cases gk with
  | zero => exact absurd HA.out (by simp [spec_PositionOf.l0])
  | succ k1 =>
   have H := HA.out; clear HA; (simp only [spec_PositionOf.l0] at H)
   by_cases c3 : x4_1 < (l0_0.length : Int)
   · rw [if_pos c3] at H
     (have c3b0 : decide (x4_1 < (l0_0.length : Int)) = true := decide_eq_true c3); clear c3
     by_cases c4 : 0 ≤ x4_1
     · rw [if_pos c4] at H
       (have c4b0 : decide (0 ≤ x4_1) = true := decide_eq_true c4); clear c4
       by_cases c5 : 0 ≤ x3_1
       · rw [if_pos c5] at H
         (have c5b0 : decide (0 ≤ x3_1) = true := decide_eq_true c5); clear c5
         by_cases c6 : x3_1 < (l0_0.length : Int)
         · rw [if_pos c6] at H
           (have c6b0 : decide (x3_1 < (l0_0.length : Int)) = true := decide_eq_true c6); clear c6
           by_cases c7 : (rd l0_0 x4_1) < (rd l0_0 x3_1)
           · rw [if_pos c7] at H
             (have c7b0 : decide ((rd l0_0 x4_1) < (rd l0_0 x3_1)) = true := decide_eq_true c7); clear c7; (have H' := q0_2 H); clear H; (have hcz8_0 : wr.cell? ⟨q7, 0, none⟩ = some (.slice A0_0 l0_0.length c0_0) := (blk_cell q3.out 0).trans rfl); (have hcz8_1 : wr.cell? ⟨q7, 1, none⟩ = some (.int .i64 a0_1) := (blk_cell q3.out 1).trans rfl); have hfz8_0 := blk_frozen q3.out 0; have hfz8_1 := blk_frozen q3.out 1; (have p140 : 0 ≤ (x4_1 : Int) := of_decide_eq_true (by first | (with_reducible assumption) | assumption)); (have q140 : x4_1 < (l0_0.length : Int) := of_decide_eq_true (by first | (with_reducible assumption) | assumption)); obtain ⟨ad140, e140, hx140_0⟩ := Kd.at_int HR0_0.out x4_1 p140 q140
             cases e140
             replace hx140_0 := (HB.out.cell (World.block_lt_of_cell? w _ hx140_0)).trans hx140_0; replace p140 := eq_true p140; replace q140 := eq_true q140; (have p141 : 0 ≤ (x3_1 : Int) := of_decide_eq_true (by first | (with_reducible assumption) | assumption)); (have q141 : x3_1 < (l0_0.length : Int) := of_decide_eq_true (by first | (with_reducible assumption) | assumption)); obtain ⟨ad141, e141, hx141_0⟩ := Kd.at_int HR0_0.out x3_1 p141 q141; obtain rfl : ad140 = ad141 := (by injection e141); replace hx141_0 := (HB.out.cell (World.block_lt_of_cell? w _ hx141_0)).trans hx141_0; replace p141 := eq_true p141; replace q141 := eq_true q141; (go_wp2); (repeat (go_quiet (fail); try go_wp2)); (go_roundg k1)
             case measure => have := HK1.out; omega
             case rel => exact ⟨(x4_1), (wrap64 (x4_1 + 1)), (by first | rfl | (simp; done) | (simp [*]; done)), (by first | rfl | (simp; done) | (simp [*]; done)), H', ⟨by have := HK1.out; omega⟩, ⟨by refine ba ?_; exact q3.out⟩, ⟨by exact (qd_2)⟩⟩
           · rw [if_neg c7] at H
             (have c7b0 : decide ((rd l0_0 x4_1) < (rd l0_0 x3_1)) = false := decide_eq_false c7); clear c7; (have H' := q0_2 H); clear H; (have hcz9_0 : wr.cell? ⟨q7, 0, none⟩ = some (.slice A0_0 l0_0.length c0_0) := (blk_cell q3.out 0).trans rfl); (have hcz9_1 : wr.cell? ⟨q7, 1, none⟩ = some (.int .i64 a0_1) := (blk_cell q3.out 1).trans rfl); have hfz9_0 := blk_frozen q3.out 0; have hfz9_1 := blk_frozen q3.out 1; (have p140 : 0 ≤ (x4_1 : Int) := of_decide_eq_true (by first | (with_reducible assumption) | assumption)); (have q140 : x4_1 < (l0_0.length : Int) := of_decide_eq_true (by first | (with_reducible assumption) | assumption)); obtain ⟨ad140, e140, hx140_0⟩ := Kd.at_int HR0_0.out x4_1 p140 q140
             cases e140
             replace hx140_0 := (HB.out.cell (World.block_lt_of_cell? w _ hx140_0)).trans hx140_0; replace p140 := eq_true p140; replace q140 := eq_true q140; (have p141 : 0 ≤ (x3_1 : Int) := of_decide_eq_true (by first | (with_reducible assumption) | assumption)); (have q141 : x3_1 < (l0_0.length : Int) := of_decide_eq_true (by first | (with_reducible assumption) | assumption)); obtain ⟨ad141, e141, hx141_0⟩ := Kd.at_int HR0_0.out x3_1 p141 q141; obtain rfl : ad140 = ad141 := (by injection e141); replace hx141_0 := (HB.out.cell (World.block_lt_of_cell? w _ hx141_0)).trans hx141_0; replace p141 := eq_true p141; replace q141 := eq_true q141; (go_wp2); (repeat (go_quiet (fail); try go_wp2)); (go_roundg k1)
             case measure => have := HK1.out; omega
             case rel => exact ⟨(x3_1), (wrap64 (x4_1 + 1)), (by first | rfl | (simp; done) | (simp [*]; done)), (by first | rfl | (simp; done) | (simp [*]; done)), H', ⟨by have := HK1.out; omega⟩, ⟨by refine ba ?_; exact q3.out⟩, ⟨by exact (qd_2)⟩⟩
         · rw [if_neg c6] at H
           exact absurd H (by simp)
       · rw [if_neg c5] at H
         exact absurd H (by simp)
     · rw [if_neg c4] at H
       exact absurd H (by simp)
   · rw [if_neg c3] at H
     (have c3b0 : decide (x4_1 < (l0_0.length : Int)) = false := decide_eq_false c3); clear c3; obtain rfl := Option.some.inj H; (have hcz10_0 : wr.cell? ⟨q7, 0, none⟩ = some (.slice A0_0 l0_0.length c0_0) := (blk_cell q3.out 0).trans rfl); (have hcz10_1 : wr.cell? ⟨q7, 1, none⟩ = some (.int .i64 a0_1) := (blk_cell q3.out 1).trans rfl); have hfz10_0 := blk_frozen q3.out 0; have hfz10_1 := blk_frozen q3.out 1; (go_wp2); (repeat (go_quiet (fail); try go_wp2)); go_ret; (exact ⟨by first | rfl | (simp [errW_none, errW_some] <;> rfl) | (simp [*, errW_none, errW_some] <;> rfl), by exact (qd_2)⟩)
/-! ### spec_Min: function 86 -/
def spec_Min.f (a0 : Int) (a1 : Int) : Option (Int) := if a1 < a0 then (some a1) else (some a0)
set_option maxHeartbeats 8000000 in
set_option maxRecDepth 100000 in
theorem spec_Min.calls (a0 : Int) (a1 : Int) (r : Int) (w : World) (h : spec_Min.f a0 a1 = some r) :
 Calls Try.prog 86 #[.int .i64 a0, .int .i64 a1] w fun e w' => e = .returned (.int .i64 r) ∧ Drawn0 w w' := by
 (have H : (if a1 < a0 then (some a1) else (some a0)) = some r := h); clear h
 by_cases c3 : a1 < a0
 · rw [if_pos c3] at H
   (have c3b0 : decide (a1 < a0) = true := decide_eq_true c3); clear c3; obtain rfl := Option.some.inj H; go_enter Try.func86, Try.ntmps86; (go_wp2); go_ret; exact ⟨by first | rfl | (simp; done) | (simp [*]; done), by repeat (first | exact Drawn0.refl _ | apply Drawn0.step)⟩
 · rw [if_neg c3] at H
   (have c3b0 : decide (a1 < a0) = false := decide_eq_false c3); clear c3; obtain rfl := Option.some.inj H; go_enter Try.func86, Try.ntmps86; (go_wp2); go_ret; exact ⟨by first | rfl | (simp; done) | (simp [*]; done), by repeat (first | exact Drawn0.refl _ | apply Drawn0.step)⟩
end Go.Proofs.Ytlkcbmcbmanmiaa.PFnExactHearNear
