-- Written for this claim by a program of this repository (wip/tools/print2.py), out of the translation; Lean checks it.
import Derived.Test.YtlkcbmcbmanmiaaPFnExactPlayAlongx0
import Derived.Test.YtlkcbmcbmanmiaaPFnExactPlayAlongx8
namespace Go.Proofs.Ytlkcbmcbmanmiaa.PFnExactPlayAlong
open Go.RowKit Go.Proofs.YtlkcbmcbmanmiaaW.PrintWords Go.Proofs.YtlkcbmcbmanmiaaW.PrintLast Go.Proofs.YtlkcbmcbmanmiaaW.PrintMore
attribute [local go_sem] max2_int min2_int max_two min_two max_three min_three max_four min_four   -- for this text's walks alone
set_option linter.unusedVariables false
set_option linter.unusedSimpArgs false
-- SHORT
theorem qe_13 {p : Prop} (f : p := by repeat (first | (with_reducible first | exact HB.out | apply below_alloc | apply pw_below_drewN | apply below_drew1) | exact HB.out)) : p := f
theorem qb_13 {p : Prop} (f : p := by repeat (first | (with_reducible first | exact HB.out | apply below_alloc | apply pw_below_drewN | apply below_drew1 | refine below_set ?_ qj.out) | exact HB.out)) : p := f
theorem q8_13 {p : Prop} (f : p := by repeat (first | (with_reducible first | exact HB.out | apply below_alloc | apply pw_below_drewN | apply below_drew1 | refine below_set ?_ qj.out | refine below_set ?_ qp.out) | exact HB.out)) : p := f
theorem qa_13 {p : Prop} (f : p := by repeat (first | (with_reducible first | exact HB.out | apply below_alloc | apply pw_below_drewN | apply below_drew1 | refine below_set ?_ qq.out) | exact HB.out)) : p := f
theorem q0_13 {p : Prop} (h : p) : Aside0 p := ⟨h⟩
/-! ### impl_StartFollower: function 104 -/
def impl_StartFollower.l0 : Nat → Int → Int → List Int → Int → Option (List Int × Int × Bool)
 | 0, _, _, _, _ => none
 | k + 1, x14, x15, x315000, x315001 => if x15 < x14 then (if x315000.length < 17592186044416 then (impl_StartFollower.l0 k x14 (wrap64 (x15 + 1)) (x315000 ++ [x15]) x315001) else (none)) else (some (x315000, x315001, true))
def impl_StartFollower.f (k : Nat) (l0 : List Int) : Option (List Int × Int × Bool) := if (l0.length : Int) > 40 then (some (([] : List Int), 0, false)) else (impl_StartFollower.l0 k (wrap64 ((l0.length : Int) + 1)) 0 (([] : List Int)) 0)
theorem impl_StartFollower.mono_l : ∀ k, (∀ y0 y1 y2 y3, LeO (impl_StartFollower.l0 k y0 y1 y2 y3) (impl_StartFollower.l0 (k + 1) y0 y1 y2 y3))
 | 0 => fun _ _ _ _ r h => by simp [impl_StartFollower.l0] at h
 | k + 1 => by
  have ih0 := impl_StartFollower.mono_l k
  · intro y0 y1 y2 y3
    unfold impl_StartFollower.l0
    repeat' first
    | (with_reducible exact ih0 _ _ _ _)
    | (with_reducible exact LeO.refl _)
    | (with_reducible exact LeO.none _)
    | (with_reducible refine LeO.ite ?_ ?_)
    | (with_reducible refine LeO.bind ?_ (fun _ => ?_))
    | exact ih0 _ _ _ _
    | exact LeO.none _
    | refine LeO.ite ?_ ?_
    | refine LeO.bind ?_ (fun _ => ?_)
theorem impl_StartFollower.mono : ∀ a0 k, LeO (impl_StartFollower.f k a0) (impl_StartFollower.f (k + 1) a0) := by
 intro a0 k; have ih0 := impl_StartFollower.mono_l k; unfold impl_StartFollower.f
 repeat' first
  | (with_reducible exact ih0 _ _ _ _)
  | (with_reducible exact LeO.refl _)
  | (with_reducible exact LeO.none _)
  | (with_reducible refine LeO.ite ?_ ?_)
  | (with_reducible refine LeO.bind ?_ (fun _ => ?_))
  | exact ih0 _ _ _ _
  | exact LeO.none _
  | refine LeO.ite ?_ ?_
  | refine LeO.bind ?_ (fun _ => ?_)
set_option maxHeartbeats 8000000 in
set_option maxRecDepth 100000 in
theorem impl_StartFollower.calls (k : Nat) (A0 : Option Addr) (c0 : Nat) (l0 : List Int) (r1 : List Int) (r2 : Int) (r3 : Bool) (w : World) (hr0 : Kd.C (Kd.int .i64) w A0 l0.length l0) (hc0 : l0.length ≤ c0) (h : impl_StartFollower.f k l0 = some (r1, r2, r3)) :
 Calls Try.prog 104 #[.slice A0 l0.length c0] w fun e w' => ∃ v0_ : Value, e = .returned (.tuple #[.agg #[v0_, .int .i64 r2], .bool r3]) ∧ Kd.R (Kd.int .i64) 3 w' w.heap.size (fun _ => True) v0_ r1 ∧ Below w.heap.size w w' := by
 have hu51 := Try.underlying51; have HR0 := q0_13 hr0; have HC0 := q0_13 hc0; clear hr0 hc0; have HB := q0_13 (Below.refl w.heap.size w); (have H : (if (l0.length : Int) > 40 then (some (([] : List Int), 0, false)) else (impl_StartFollower.l0 k (wrap64 ((l0.length : Int) + 1)) 0 (([] : List Int)) 0)) = some (r1, r2, r3) := h); clear h
 by_cases c2 : (l0.length : Int) > 40
 · rw [if_pos c2] at H
   (have c2b0 : decide (40 < (l0.length : Int)) = true := decide_eq_true c2); (have c2b1 : decide (40 < l0.length) = true := decide_eq_true (by omega)); clear c2; (simp only [Option.some.injEq, Prod.mk.injEq] at H); obtain ⟨rfl, rfl, rfl⟩ := H; go_enter Try.func104, Try.ntmps104; (go_wp2_with (first | ((with_reducible refine gate_dst (N := 2) rfl ?_); refine box_event ?hg (N := 2) ?hd (cs := #[.slice none 0 0, .int .i64 0]) (t := 51) ?hr ?_; (case hd => rfl); (case hg => rfl); (case hr => first | (go_simp; done) | (go_simp; rfl)); intro q4 hg w3 hbox hb; have n0_ := q0_13 (below_step (qe_13) hb); have n1_ := q0_13 (hbox); have n2_ := q0_13 ((by rw [hg]; exact (below_size (qe_13)) : w.heap.size ≤ q4)); have n3_ := q0_13 ((by rw [hg]; exact (below_size (qe_13)) : w.heap.size ≤ q4)); clear HB; have HB := n0_; have q1 := n1_; have GW310 := n2_; have qj := n3_; clear n0_ n1_ n2_ n3_; clear hb hbox hg; have hcz4_0 : w3.cell? ⟨q4, 0, none⟩ = some (.slice none 0 0) := (blk_cell q1.out 0).trans rfl; have hcz4_1 : w3.cell? ⟨q4, 1, none⟩ = some (.int .i64 0) := (blk_cell q1.out 1).trans rfl; have hfz4_0 := blk_frozen q1.out 0; have hfz4_1 := blk_frozen q1.out 1))); refine bodyPost_ret (results_ct rfl _ _ q4 51 #[.slice none 0 0, .int .i64 0] (0, 0) _ rfl (by refine ba ?_; refine blk_put (cs := #[.slice none 0 0, .int .i64 0]) ?_ 1 _ rfl; refine ba ?_; refine blk_put (cs := #[.slice none 0 0, .int .i64 0]) ?_ 0 _ rfl; refine ba ?_; exact q1.out) Try.underlying51 rfl (by kernel_rfl)) rfl ?_; (exact ⟨_, by first | rfl | (simp [errW_none, errW_some] <;> rfl) | (simp [*, errW_none, errW_some] <;> rfl), by first | exact Kd.R_nil _ _ _ _ _ | exact Kd.N_nil _ _ _ _ _ | exact Kd.V_nil _ _ _ _ _ | exact Kd.Q_nil _ _ _ _ _ | exact Kd.S_nil _ _ _ _ _, by exact (qb_13)⟩)
 · rw [if_neg c2] at H
   (have c2b0 : decide (40 < (l0.length : Int)) = false := decide_eq_false c2); (have c2b1 : decide (40 < l0.length) = false := decide_eq_false (by omega)); clear c2; obtain ⟨y311, hy311⟩ : ∃ y_ : List Int, y_ = (([] : List Int)) := ⟨_, rfl⟩; (replace H : (impl_StartFollower.l0 k (wrap64 ((l0.length : Int) + 1)) 0 y311 0) = some (r1, r2, r3) := by first | (rw [hy311]; with_reducible exact H) | (have H2_ := (Option.bind_some _ _).symm.trans H; rw [hy311]; with_reducible exact H2_) | (have H2_ := (Option.bind_some _ _).symm.trans H; with_reducible exact H2_) | with_reducible exact H | (rw [hy311]; exact H) | exact H); have Ny311 := q0_13 hy311; clear hy311; (have H' := q0_13 H); clear H; go_enter Try.func104, Try.ntmps104
   (go_wp2_with (first | ((with_reducible refine gate_dst (N := 2) rfl ?_); refine box_event ?hg (N := 2) ?hd (cs := #[.slice none 0 0, .int .i64 0]) (t := 51) ?hr ?_; (case hd => rfl); (case hg => rfl); (case hr => first | (go_simp; done) | (go_simp; rfl)); intro q4 hg w5 hbox hb; have n0_ := q0_13 (below_step (qe_13) hb); have n1_ := q0_13 (hbox); have n2_ := q0_13 ((by rw [hg]; exact (below_size (qe_13)) : w.heap.size ≤ q4)); have n3_ := q0_13 ((by rw [hg]; exact (below_size (qe_13)) : w.heap.size ≤ q4)); clear HB; have HB := n0_; have q1 := n1_; have GW310 := n2_; have qj := n3_; clear n0_ n1_ n2_ n3_; clear hb hbox hg) | ((with_reducible refine gate_dst (N := 10) rfl ?_); refine Kd.R_lit (Kd.int .i64) _ 3 ?hg (N := 10) ?hd (xs := ([] : List Int)) (inner := []) (ok := fun _ => True) (okp := fun _ => True) ?hr ?hp (fun _ hk => hk) trivial (Below.refl _ _) (Nat.le_refl _) (by simp) ?_; (case hd => rfl); (case hg => rfl); (case hr => first | (go_simp; done) | (go_simp; rfl)); (case hp => exact (Reps.none _ _)); intro v312 w6 ho7 hb hg_ hnew_; clear hg_ hnew_; (first | rw [← Ny311.out] at ho7 | (simp only [Int.reduceToNat] at ho7; rw [← Ny311.out] at ho7)); have n0_ := q0_13 (Kd.R_lower ho7 (below_size (qb_13))); have n1_ := q0_13 (bb q1.out hb); have n2_ := q0_13 (below_step (qb_13) hb); clear q1; clear HB; have qd := n0_; have q1 := n1_; have HB := n2_; clear n0_ n1_ n2_; clear hb ho7; obtain ⟨qn, qo, eo8⟩ := Kd.R_slice qd.out; subst eo8) | ((with_reducible refine gate_dst (N := 4) rfl ?_); refine box_event ?hg (N := 4) ?hd (cs := #[.slice none 0 0, .int .i64 0]) (t := 51) ?hr ?_; (case hd => rfl); (case hg => rfl); (case hr => first | (go_simp; done) | (go_simp; rfl)); intro q5 hg w9 hbox hb; have n0_ := q0_13 (Kd.R_below (ra qd.out) hb); have n1_ := q0_13 (bb q1.out hb); have n2_ := q0_13 (below_step (qb_13) hb); have n3_ := q0_13 (hbox); have n4_ := q0_13 ((by rw [hg]; exact (below_size (qb_13)) : w.heap.size ≤ q5)); have n5_ := q0_13 ((by rw [hg]; exact (below_size (qb_13)) : w.heap.size ≤ q5)); have n6_ := q0_13 ((by rw [hg]; exact Nat.ne_of_lt (bl q1.out) : q4 ≠ q5)); have n7_ := q0_13 ((by rw [hg]; exact Nat.ne_of_gt (bl q1.out) : q5 ≠ q4)); clear qd; clear q1; clear HB; have qd := n0_; have q1 := n1_; have HB := n2_; have q2 := n3_; have GW314 := n4_; have qp := n5_; have q6 := n6_; have qc := n7_; clear n0_ n1_ n2_ n3_ n4_ n5_ n6_ n7_; clear hb hbox hg; have hnb10 := qc.out; have hnc10 := q6.out; have hcz11_0 : w9.cell? ⟨q5, 0, none⟩ = some (.slice none 0 0) := (blk_cell q2.out 0).trans rfl; have hcz11_1 : w9.cell? ⟨q5, 1, none⟩ = some (.int .i64 0) := (blk_cell q2.out 1).trans rfl; have hfz11_0 := blk_frozen q2.out 0; have hfz11_1 := blk_frozen q2.out 1)))
   (go_loopg [15] k (fun kq v15 w' => ∃ (x15_1 : Int) (x315000_1 : List Int) (u315000 : Value), v15 = .int .i64 x15_1 ∧ Aside0 (impl_StartFollower.l0 kq (wrap64 ((l0.length : Int) + 1)) x15_1 x315000_1 0 = some (r1, r2, r3)) ∧ Aside0 (kq ≤ k) ∧ Aside0 (Kd.R (Kd.int .i64) 3 w' w.heap.size (fun _ => True) u315000 x315000_1) ∧ Aside0 (w'.heap[q4]? = some (.cells #[(.slice none 0 0), .int .i64 0] 51 (0, 0))) ∧ Aside0 (w'.heap[q5]? = some (.cells #[u315000, .int .i64 0] 51 (0, 0))) ∧ Aside0 (Below w.heap.size w w')))
   case atStart => exact ⟨(0), (y311), (.slice qn y311.length qo), (by first | rfl | (simp; done) | (simp [*]; done)), H', ⟨Nat.le_refl _⟩, ⟨by refine ra ?_; exact Kd.R_mono (Kd.R_far (p := ⟨q5, 1, none⟩) (Kd.R_far (p := ⟨q5, 0, none⟩) (Kd.R_types qd.out q2.out (by decide)) (fun _ hk => hk.2) (.slice qn y311.length qo)) (fun _ hk => hk.2) (.int .i64 0)) (fun _ hk => trivial)⟩, ⟨by refine ba ?_; refine blk_far ?_ q6.out _; refine ba ?_; refine blk_far ?_ q6.out _; refine ba ?_; exact q1.out⟩, ⟨by refine ba ?_; refine blk_put (cs := #[.slice qn y311.length qo, .int .i64 0]) ?_ 1 _ rfl; refine ba ?_; refine blk_put (cs := #[.slice none 0 0, .int .i64 0]) ?_ 0 _ rfl; refine ba ?_; exact q2.out⟩, ⟨by exact (q8_13)⟩⟩
   case round =>
    clear H'; (try clear c1); (try clear c2); (try clear c2b0); (try clear c2b1); (try clear p2); (try clear p6); (try clear c10); (try clear hcz11_0); (try clear hcz11_1); (try clear hcz4_0); (try clear hcz4_1); (try clear hfz11_0); (try clear hfz11_1); (try clear hfz4_0); (try clear hfz4_1); obtain ⟨x15_1, x315000_1, u315000, rfl, HA, HK1, q7, q1, q2, HB⟩ := hrel
    cases gk with
    | zero => exact absurd HA.out (by simp [impl_StartFollower.l0])
    | succ k1 =>
     have H := HA.out; clear HA; (simp only [impl_StartFollower.l0] at H)
     by_cases c12 : x15_1 < (wrap64 ((l0.length : Int) + 1))
     · rw [if_pos c12] at H
       (have c12b0 : decide (x15_1 < (wrap64 ((l0.length : Int) + 1))) = true := decide_eq_true c12); clear c12
       by_cases c13 : x315000_1.length < 17592186044416
       · rw [if_pos c13] at H
         have LMc13 := q0_13 c13; clear c13; obtain ⟨y315, hy315⟩ : ∃ y_ : List Int, y_ = (x315000_1 ++ [x15_1]) := ⟨_, rfl⟩; (replace H : (impl_StartFollower.l0 k1 (wrap64 ((l0.length : Int) + 1)) (wrap64 (x15_1 + 1)) y315 0) = some (r1, r2, r3) := by first | (rw [hy315]; with_reducible exact H) | (have H2_ := (Option.bind_some _ _).symm.trans H; rw [hy315]; with_reducible exact H2_) | (have H2_ := (Option.bind_some _ _).symm.trans H; with_reducible exact H2_) | with_reducible exact H | (rw [hy315]; exact H) | exact H); have Ny315 := q0_13 hy315; clear hy315; (have H' := q0_13 H); clear H; have hnb14 := qc.out; have hnc14 := q6.out; (have hcz15_0 : wr.cell? ⟨q5, 0, none⟩ = some (u315000) := (blk_cell q2.out 0).trans rfl); (have hcz15_1 : wr.cell? ⟨q5, 1, none⟩ = some (.int .i64 0) := (blk_cell q2.out 1).trans rfl); have hfz15_0 := blk_frozen q2.out 0; have hfz15_1 := blk_frozen q2.out 1; (go_wp2_with (first | ((with_reducible refine gate_builtin (b := .append) (xs := #[.tmp 19, .tmp 21]) rfl ?_); at_builtin; refine Kd.R_append (Kd.int .i64) (w0 := w) w.heap.size rfl (.tmp 19) (.tmp 21) 24 3 (.int .i64 0) 8 rfl Try.underlying24 info3 rfl (by decide) (by omega) u315000 x315000_1 x15_1 [.int .i64 x15_1] (fun _ => True) (fun _ => False) rfl rfl ?aP (fun _ hk => hk.elim) ?aF ?aO ?aB ?aS ?aL ?_; (case aP => exact rfl); (case aB => exact (q8_13)); (case aF => exact (fun _ _ => trivial)); (case aO => exact (ra q7.out)); (case aS => exact (below_size (q8_13))); (case aL => have := LMc13.out; omega); intro v316 w16 ho hb hg hat; rw [← Ny315.out] at ho; have n0_ := q0_13 (blk_grown (g := q4) (o := .cells #[.slice none 0 0, .int .i64 0] 51 (0, 0)) (ba q1.out) hg (Kd.R_ne q7.out q1.out (by decide))); have n1_ := q0_13 (blk_grown (g := q5) (o := .cells #[u315000, .int .i64 0] 51 (0, 0)) (ba q2.out) hg (Kd.R_ne q7.out q2.out (by decide))); have n2_ := q0_13 (hb); have n3_ := q0_13 (ho); clear q1; clear q2; clear HB; clear q7; have q1 := n0_; have q2 := n1_; have HB := n2_; have qf := n3_; clear n0_ n1_ n2_ n3_; clear ho hb hg hat; obtain ⟨qk, ql, eo17⟩ := Kd.R_slice qf.out; subst eo17; have hcz18_0 : w16.cell? ⟨q5, 0, none⟩ = some (u315000) := (blk_cell q2.out 0).trans rfl; have hcz18_1 : w16.cell? ⟨q5, 1, none⟩ = some (.int .i64 0) := (blk_cell q2.out 1).trans rfl; have hfz18_0 := blk_frozen q2.out 0; have hfz18_1 := blk_frozen q2.out 1))); (go_roundg k1)
         case measure => have := HK1.out; omega
         case rel => exact ⟨(wrap64 (x15_1 + 1)), (y315), (.slice qk y315.length ql), (by first | rfl | (simp; done) | (simp [*]; done)), H', ⟨by have := HK1.out; omega⟩, ⟨by refine ra ?_; exact Kd.R_mono (Kd.R_far (p := ⟨q5, 0, none⟩) (Kd.R_types qf.out q2.out (by decide)) (fun _ hk => hk.2) (.slice qk y315.length ql)) (fun _ hk => trivial)⟩, ⟨by refine ba ?_; refine blk_far ?_ q6.out _; refine ba ?_; exact q1.out⟩, ⟨by refine ba ?_; refine blk_put (cs := #[u315000, .int .i64 0]) ?_ 0 _ rfl; refine ba ?_; exact q2.out⟩, ⟨by exact (q8_13)⟩⟩
       · rw [if_neg c13] at H
         exact absurd H (by simp)
     · rw [if_neg c12] at H
       (have c12b0 : decide (x15_1 < (wrap64 ((l0.length : Int) + 1))) = false := decide_eq_false c12); clear c12; (simp only [Option.some.injEq, Prod.mk.injEq] at H); obtain ⟨rfl, rfl, rfl⟩ := H; have hnb19 := qc.out; have hnc19 := q6.out; (have hcz20_0 : wr.cell? ⟨q5, 0, none⟩ = some (u315000) := (blk_cell q2.out 0).trans rfl); (have hcz20_1 : wr.cell? ⟨q5, 1, none⟩ = some (.int .i64 0) := (blk_cell q2.out 1).trans rfl); have hfz20_0 := blk_frozen q2.out 0; have hfz20_1 := blk_frozen q2.out 1; obtain ⟨qh, qi, eo21⟩ := Kd.R_slice q7.out; subst eo21; (have hcz22_0 : wr.cell? ⟨q4, 0, none⟩ = some (.slice none 0 0) := (blk_cell q1.out 0).trans rfl); (have hcz22_1 : wr.cell? ⟨q4, 1, none⟩ = some (.int .i64 0) := (blk_cell q1.out 1).trans rfl); have hfz22_0 := blk_frozen q1.out 0; have hfz22_1 := blk_frozen q1.out 1; (go_wp2); refine bodyPost_ret (results_ct rfl _ _ q4 51 #[.slice qh x315000_1.length qi, .int .i64 0] (0, 0) _ rfl (by refine ba ?_; refine blk_put (cs := #[.slice qh x315000_1.length qi, .int .i64 0]) ?_ 1 _ rfl; refine ba ?_; refine blk_put (cs := #[.slice none 0 0, .int .i64 0]) ?_ 0 _ rfl; refine ba ?_; exact q1.out) Try.underlying51 rfl (by kernel_rfl)) rfl ?_; (exact ⟨_, by first | rfl | (simp [errW_none, errW_some] <;> rfl) | (simp [*, errW_none, errW_some] <;> rfl), by refine ra ?_; exact Kd.R_mono (Kd.R_far (p := ⟨q4, 1, none⟩) (Kd.R_far (p := ⟨q4, 0, none⟩) (Kd.R_types q7.out q1.out (by decide)) (fun _ hk => hk.2) (.slice qh x315000_1.length qi)) (fun _ hk => hk.2) (.int .i64 0)) (fun _ hk => trivial), by exact (q8_13)⟩)
/-! ### impl_clone_int: function 88 -/
def impl_clone_int.f (l0 : List Int) : Option (List Int) := (some (([] : List Int) : List Int)).bind fun y318 => (if y318.length + l0.length < 17592186044416 then (some (y318 ++ l0)) else (none))
set_option maxHeartbeats 8000000 in
set_option maxRecDepth 100000 in
theorem impl_clone_int.calls (A0 : Option Addr) (c0 : Nat) (l0 : List Int) (r : List Int) (w : World) (hr0 : Kd.C (Kd.int .i64) w A0 l0.length l0) (hc0 : l0.length ≤ c0) (h : impl_clone_int.f l0 = some r) :
 Calls Try.prog 88 #[.slice A0 l0.length c0] w fun e w' => ∃ v0_ : Value, e = .returned (v0_) ∧ Kd.R (Kd.int .i64) 3 w' w.heap.size (fun _ => True) v0_ r ∧ Below w.heap.size w w' := by
 have HR0 := q0_13 hr0; have HC0 := q0_13 hc0; clear hr0 hc0; have HB := q0_13 (Below.refl w.heap.size w); (have H : ((some (([] : List Int) : List Int)).bind fun y318 => (if y318.length + l0.length < 17592186044416 then (some (y318 ++ l0)) else (none))) = some r := h); clear h; obtain ⟨y318, hy318⟩ : ∃ y_ : List Int, y_ = (([] : List Int)) := ⟨_, rfl⟩; (replace H : (if y318.length + l0.length < 17592186044416 then (some (y318 ++ l0)) else (none)) = some r := by first | (rw [hy318]; with_reducible exact H) | (have H2_ := (Option.bind_some _ _).symm.trans H; rw [hy318]; with_reducible exact H2_) | (have H2_ := (Option.bind_some _ _).symm.trans H; with_reducible exact H2_) | with_reducible exact H | (rw [hy318]; exact H) | exact H); have Ny318 := q0_13 hy318; clear hy318
 by_cases c2 : y318.length + l0.length < 17592186044416
 · rw [if_pos c2] at H
   have LMc2 := q0_13 c2; clear c2; obtain ⟨y321, hy321⟩ : ∃ y_ : List Int, y_ = (y318 ++ l0) := ⟨_, rfl⟩; (replace H : (some y321) = some r := by first | (rw [hy321]; with_reducible exact H) | (have H2_ := (Option.bind_some _ _).symm.trans H; rw [hy321]; with_reducible exact H2_) | (have H2_ := (Option.bind_some _ _).symm.trans H; with_reducible exact H2_) | with_reducible exact H | (rw [hy321]; exact H) | exact H); have Ny321 := q0_13 hy321; clear hy321; obtain rfl := Option.some.inj H; go_enter Try.func88, Try.ntmps88; (go_wp2_with (first | ((with_reducible refine gate_dst (N := 3) rfl ?_); refine Kd.R_lit (Kd.int .i64) _ 3 ?hg (N := 3) ?hd (xs := ([] : List Int)) (inner := []) (ok := fun _ => True) (okp := fun _ => True) ?hr ?hp (fun _ hk => hk) trivial (Below.refl _ _) (Nat.le_refl _) (by simp) ?_; (case hd => rfl); (case hg => rfl); (case hr => first | (go_simp; done) | (go_simp; rfl)); (case hp => exact (Reps.none _ _)); intro v319 w3 ho4 hb hg_ hnew_; clear hg_ hnew_; (first | rw [← Ny318.out] at ho4 | (simp only [Int.reduceToNat] at ho4; rw [← Ny318.out] at ho4)); have n0_ := q0_13 (Kd.R_lower ho4 (below_size (qe_13))); have n1_ := q0_13 (below_step (qe_13) hb); clear HB; have qg := n0_; have HB := n1_; clear n0_ n1_; clear hb ho4) | ((with_reducible refine gate_builtin (b := .append) (xs := #[.tmp 3, .tmp 4]) rfl ?_); at_builtin; refine Kd.R_append_rows (Kd.int .i64) (w0 := w) w.heap.size rfl (.tmp 3) (.tmp 4) 24 3 (.int .i64 0) 8 rfl Try.underlying24 info3 rfl (by decide) (by omega) v319 y318 l0 _ _ _ (fun _ => True) (fun _ => False) rfl rfl ?aO ?aR (fun _ _ h => h) (fun _ h => h.elim) ?aF ?aB ?aS ?aL ?_; (case aR => exact ca (Kd.C_below HR0.out HB.out)); (case aB => exact (qe_13)); (case aF => exact (fun _ _ => trivial)); (case aO => exact (ra qg.out)); (case aS => exact (below_size (qe_13))); (case aL => have := LMc2.out; omega); intro v322 w5 ho hb hg hat; rw [← Ny321.out] at ho; have n0_ := q0_13 (hb); have n1_ := q0_13 (ho); clear HB; clear qg; have HB := n0_; have qm := n1_; clear n0_ n1_; clear ho hb hg hat))); go_ret; (exact ⟨_, by first | rfl | (simp [errW_none, errW_some] <;> rfl) | (simp [*, errW_none, errW_some] <;> rfl), by refine ra ?_; exact qm.out, by exact (qe_13)⟩)
 · rw [if_neg c2] at H
   exact absurd H (by simp)
/-! ### impl_unlike: function 90 -/
def impl_unlike.f (a0 : Int) (a1 : Int) : Option (Int) := if a0 = a1 then (some 0) else (some 1)
set_option maxHeartbeats 8000000 in
set_option maxRecDepth 100000 in
theorem impl_unlike.calls (a0 : Int) (a1 : Int) (r : Int) (w : World) (h : impl_unlike.f a0 a1 = some r) :
 Calls Try.prog 90 #[.int .i64 a0, .int .i64 a1] w fun e w' => e = .returned (.int .i64 r) ∧ Drawn0 w w' := by
 (have H : (if a0 = a1 then (some 0) else (some 1)) = some r := h); clear h
 by_cases c3 : a0 = a1
 · rw [if_pos c3] at H
   (have c3b0 : (a0 == a1) = true := beq_iff_eq.mpr c3); (have c3b1 : (a0 != a1) = false := bne_eq_false_iff_eq.mpr c3); clear c3; obtain rfl := Option.some.inj H; go_enter Try.func90, Try.ntmps90; (go_wp2); go_ret; exact ⟨by first | rfl | (simp; done) | (simp [*]; done), by repeat (first | exact Drawn0.refl _ | apply Drawn0.step)⟩
 · rw [if_neg c3] at H
   (have c3b0 : (a0 == a1) = false := beq_eq_false_iff_ne.mpr c3); (have c3b1 : (a0 != a1) = true := bne_iff_ne.mpr c3); obtain rfl := Option.some.inj H; go_enter Try.func90, Try.ntmps90; (go_wp2); go_ret; exact ⟨by first | rfl | (simp; done) | (simp [*]; done), by repeat (first | exact Drawn0.refl _ | apply Drawn0.step)⟩
/-! ### impl_IsFollower: function 145 -/
def impl_IsFollower.l0 : Nat → List Int → List Int → Int → Int → List Int → Int → Option (Bool)
 | 0, _, _, _, _, _, _ => none
 | k + 1, x0, x8, x9, x10, x325000, x325001 => if x10 < x9 then (if 0 ≤ x10 then (if x10 < (x8.length : Int) then ((impl_InRange.f (rd x8 x10) 0 1000).bind fun t327 => (if t327 = true then (if x10 > 0 then (if 0 ≤ (wrap64 (x10 - 1)) then (if (wrap64 (x10 - 1)) < (x325000.length : Int) then ((impl_InRange.f (wrap64 ((rd x8 x10) - (rd x325000 (wrap64 (x10 - 1))))) (-1) 1).bind fun t329 => (if t329 = true then (impl_IsFollower.l0 k x0 x8 x9 (wrap64 (x10 + 1)) x325000 x325001) else (some false))) else (none)) else (none)) else (impl_IsFollower.l0 k x0 x8 x9 (wrap64 (x10 + 1)) x325000 x325001)) else (some false))) else (none)) else (none)) else (if (x0.length : Int) ≤ 40 then (if (x325000.length : Int) = (wrap64 ((x0.length : Int) + 1)) then ((impl_InRange.f x325001 0 1000).bind fun t325 => (some t325)) else (some false)) else (some false))
def impl_IsFollower.f (k : Nat) (l0 : List Int) (l1_0 : List Int) (a1_1 : Int) : Option (Bool) := impl_IsFollower.l0 k l0 l1_0 (l1_0.length : Int) 0 l1_0 a1_1
theorem impl_IsFollower.mono_l : ∀ k, (∀ y0 y1 y2 y3 y4 y5, LeO (impl_IsFollower.l0 k y0 y1 y2 y3 y4 y5) (impl_IsFollower.l0 (k + 1) y0 y1 y2 y3 y4 y5))
 | 0 => fun _ _ _ _ _ _ r h => by simp [impl_IsFollower.l0] at h
 | k + 1 => by
  have ih0 := impl_IsFollower.mono_l k
  · intro y0 y1 y2 y3 y4 y5
    unfold impl_IsFollower.l0
    repeat' first
    | (with_reducible exact ih0 _ _ _ _ _ _)
    | (with_reducible exact LeO.refl _)
    | (with_reducible exact LeO.none _)
    | (with_reducible refine LeO.ite ?_ ?_)
    | (with_reducible refine LeO.bind ?_ (fun _ => ?_))
    | exact ih0 _ _ _ _ _ _
    | exact LeO.none _
    | refine LeO.ite ?_ ?_
    | refine LeO.bind ?_ (fun _ => ?_)
theorem impl_IsFollower.mono : ∀ a0 a1 a2 k, LeO (impl_IsFollower.f k a0 a1 a2) (impl_IsFollower.f (k + 1) a0 a1 a2) := by
 intro a0 a1 a2 k; have ih0 := impl_IsFollower.mono_l k; unfold impl_IsFollower.f
 repeat' first
  | (with_reducible exact ih0 _ _ _ _ _ _)
  | (with_reducible exact LeO.refl _)
  | (with_reducible exact LeO.none _)
  | (with_reducible refine LeO.ite ?_ ?_)
  | (with_reducible refine LeO.bind ?_ (fun _ => ?_))
  | exact ih0 _ _ _ _ _ _
  | exact LeO.none _
  | refine LeO.ite ?_ ?_
  | refine LeO.bind ?_ (fun _ => ?_)
set_option maxHeartbeats 8000000 in
set_option maxRecDepth 100000 in
theorem impl_IsFollower.calls (k : Nat) (A0 : Option Addr) (c0 : Nat) (l0 : List Int) (A1_0 : Option Addr) (c1_0 : Nat) (l1_0 : List Int) (a1_1 : Int) (r : Bool) (w : World) (hr0 : Kd.C (Kd.int .i64) w A0 l0.length l0) (hc0 : l0.length ≤ c0) (hr1_0 : Kd.C (Kd.int .i64) w A1_0 l1_0.length l1_0) (hc1_0 : l1_0.length ≤ c1_0) (h : impl_IsFollower.f k l0 l1_0 a1_1 = some r) :
 Calls Try.prog 145 #[.slice A0 l0.length c0, .agg #[.slice A1_0 l1_0.length c1_0, .int .i64 a1_1]] w fun e w' => e = .returned (.bool r) ∧ Below w.heap.size w w' := by
 have hu51 := Try.underlying51; have HR0 := q0_13 hr0; have HC0 := q0_13 hc0; clear hr0 hc0; have HR1_0 := q0_13 hr1_0; have HC1_0 := q0_13 hc1_0; clear hr1_0 hc1_0; have HB := q0_13 (Below.refl w.heap.size w); (have H : (impl_IsFollower.l0 k l0 l1_0 (l1_0.length : Int) 0 l1_0 a1_1) = some r := h); clear h; (have H' := q0_13 H); clear H; go_enter Try.func145, Try.ntmps145; (go_wp2_with (first | ((with_reducible refine gate_dst (N := 3) rfl ?_); (try (refine gate_guard (by rfl) ?_; dsimp only)); refine box_event ?hg (N := 3) ?hd (cs := #[.slice A1_0 l1_0.length c1_0, .int .i64 a1_1]) (t := 51) ?hr ?_; (case hd => rfl); (case hg => rfl); (case hr => first | (go_simp; done) | (go_simp; rfl)); intro q9 hg w3 hbox hb; have n0_ := q0_13 (below_step (qe_13) hb); have n1_ := q0_13 (hbox); have n2_ := q0_13 ((by rw [hg]; exact (below_size (qe_13)) : w.heap.size ≤ q9)); have n3_ := q0_13 ((by rw [hg]; exact (below_size (qe_13)) : w.heap.size ≤ q9)); clear HB; have HB := n0_; have q3 := n1_; have GW324 := n2_; have qq := n3_; clear n0_ n1_ n2_ n3_; clear hb hbox hg; have hcz4_0 : w3.cell? ⟨q9, 0, none⟩ = some (.slice A1_0 l1_0.length c1_0) := (blk_cell q3.out 0).trans rfl; have hcz4_1 : w3.cell? ⟨q9, 1, none⟩ = some (.int .i64 a1_1) := (blk_cell q3.out 1).trans rfl; have hfz4_0 := blk_frozen q3.out 0; have hfz4_1 := blk_frozen q3.out 1))); (go_loopg [10] k (fun kq v10 w' => ∃ (x10_1 : Int), v10 = .int .i64 x10_1 ∧ Aside0 (impl_IsFollower.l0 kq l0 l1_0 (l1_0.length : Int) x10_1 l1_0 a1_1 = some r) ∧ Aside0 (kq ≤ k) ∧ Aside0 (w'.heap[q9]? = some (.cells #[(.slice A1_0 l1_0.length c1_0), .int .i64 a1_1] 51 (0, 0))) ∧ Aside0 (Below w.heap.size w w')))
 case atStart => exact ⟨(0), (by first | rfl | (simp; done) | (simp [*]; done)), H', ⟨Nat.le_refl _⟩, ⟨by refine ba ?_; exact q3.out⟩, ⟨by exact (qa_13)⟩⟩
 case round =>
  clear H'; (try clear c1); (try clear p2); (try clear hcz4_0); (try clear hcz4_1); (try clear hfz4_0); (try clear hfz4_1); obtain ⟨x10_1, rfl, HA, HK1, q3, HB⟩ := hrel
  cases gk with
  | zero => exact absurd HA.out (by simp [impl_IsFollower.l0])
  | succ k1 =>
   have H := HA.out; clear HA; (simp only [impl_IsFollower.l0] at H)
   by_cases c5 : x10_1 < (l1_0.length : Int)
   · rw [if_pos c5] at H
     (have c5b0 : decide (x10_1 < (l1_0.length : Int)) = true := decide_eq_true c5); clear c5
     by_cases c6 : 0 ≤ x10_1
     · rw [if_pos c6] at H
       (have c6b0 : decide (0 ≤ x10_1) = true := decide_eq_true c6); clear c6
       by_cases c7 : x10_1 < (l1_0.length : Int)
       · rw [if_pos c7] at H
         (have c7b0 : decide (x10_1 < (l1_0.length : Int)) = true := decide_eq_true c7); clear c7; replace H := Option.bind_eq_some_iff.mp H; obtain ⟨t327, A80, H⟩ := H; replace H : (if t327 = true then (if x10_1 > 0 then (if 0 ≤ (wrap64 (x10_1 - 1)) then (if (wrap64 (x10_1 - 1)) < (l1_0.length : Int) then ((impl_InRange.f (wrap64 ((rd l1_0 x10_1) - (rd l1_0 (wrap64 (x10_1 - 1))))) (-1) 1).bind fun t329 => (if t329 = true then (impl_IsFollower.l0 k1 l0 l1_0 (l1_0.length : Int) (wrap64 (x10_1 + 1)) l1_0 a1_1) else (some false))) else (none)) else (none)) else (impl_IsFollower.l0 k1 l0 l1_0 (l1_0.length : Int) (wrap64 (x10_1 + 1)) l1_0 a1_1)) else (some false)) = some r := H; have A8 := q0_13 A80; clear A80
         by_cases c9 : t327 = true
         · subst c9
           have H1 : (if x10_1 > 0 then (if 0 ≤ (wrap64 (x10_1 - 1)) then (if (wrap64 (x10_1 - 1)) < (l1_0.length : Int) then ((impl_InRange.f (wrap64 ((rd l1_0 x10_1) - (rd l1_0 (wrap64 (x10_1 - 1))))) (-1) 1).bind fun t329 => (if t329 = true then (impl_IsFollower.l0 k1 l0 l1_0 (l1_0.length : Int) (wrap64 (x10_1 + 1)) l1_0 a1_1) else (some false))) else (none)) else (none)) else (impl_IsFollower.l0 k1 l0 l1_0 (l1_0.length : Int) (wrap64 (x10_1 + 1)) l1_0 a1_1)) = some r := by rw [if_pos rfl] at H; exact H
           clear H; have H := H1; clear H1
           by_cases c10 : x10_1 > 0
           · rw [if_pos c10] at H
             (have c10b0 : decide (0 < x10_1) = true := decide_eq_true c10); clear c10; obtain ⟨ji11, hji11⟩ : ∃ j_ : Int, (wrap64 (x10_1 - 1)) = j_ := ⟨_, rfl⟩; (replace H : (if 0 ≤ (ji11) then (if (ji11) < (l1_0.length : Int) then ((impl_InRange.f (wrap64 ((rd l1_0 x10_1) - (rd l1_0 (ji11)))) (-1) 1).bind fun t329 => (if t329 = true then (impl_IsFollower.l0 k1 l0 l1_0 (l1_0.length : Int) (wrap64 (x10_1 + 1)) l1_0 a1_1) else (some false))) else (none)) else (none)) = some r := by first | (rw [hji11] at H; exact H) | (simp only [hji11] at H ⊢; exact H)); ((try rw [hji11] at A8)); (have hji11w : (IntKind.i64.wrap (x10_1 - 1)) = ji11 := (i64_w _).trans hji11)
             by_cases c12 : 0 ≤ (ji11)
             · rw [if_pos c12] at H
               (have c12b0 : decide (0 ≤ (ji11)) = true := decide_eq_true c12); clear c12
               by_cases c13 : (ji11) < (l1_0.length : Int)
               · rw [if_pos c13] at H
                 (have c13b0 : decide ((ji11) < (l1_0.length : Int)) = true := decide_eq_true c13); clear c13; replace H := Option.bind_eq_some_iff.mp H; obtain ⟨t329, A140, H⟩ := H; replace H : (if t329 = true then (impl_IsFollower.l0 k1 l0 l1_0 (l1_0.length : Int) (wrap64 (x10_1 + 1)) l1_0 a1_1) else (some false)) = some r := H; have A14 := q0_13 A140; clear A140
                 by_cases c15 : t329 = true
                 · subst c15
                   have H1 : (impl_IsFollower.l0 k1 l0 l1_0 (l1_0.length : Int) (wrap64 (x10_1 + 1)) l1_0 a1_1) = some r := by rw [if_pos rfl] at H; exact H
                   clear H; have H := H1; clear H1; (have H' := q0_13 H); clear H; (have p326 : 0 ≤ (x10_1 : Int) := of_decide_eq_true (by first | (with_reducible assumption) | assumption)); (have q326 : x10_1 < (l1_0.length : Int) := of_decide_eq_true (by first | (with_reducible assumption) | assumption)); obtain ⟨ad326, e326, hx326_0⟩ := Kd.at_int HR1_0.out x10_1 p326 q326
                   cases e326
                   replace hx326_0 := (HB.out.cell (World.block_lt_of_cell? w _ hx326_0)).trans hx326_0; replace p326 := eq_true p326; replace q326 := eq_true q326; (go_wp2_with (first | ((with_reducible refine gate_callee (f := 77) rfl ?_); refine goesL_ (some 16) rfl rfl Try.func77 (by kernel_rfl) rfl #[.int .i64 (rd l1_0 x10_1), .int .i64 0, .int .i64 1000] rfl ma ?_; (with_reducible refine (impl_InRange.calls (rd l1_0 x10_1) 0 1000 true _ A8.out).mono ?_); rintro e w' ⟨rfl, ⟨nd, rfl⟩⟩; refine ⟨_, rfl, ?_⟩; have hcz16_0 : wr.cell? ⟨q9, 0, none⟩ = some (.slice (some ad326) l1_0.length c1_0) := (blk_cell q3.out 0).trans rfl; have hcz16_1 : wr.cell? ⟨q9, 1, none⟩ = some (.int .i64 a1_1) := (blk_cell q3.out 1).trans rfl; have hfz16_0 := blk_frozen q3.out 0; have hfz16_1 := blk_frozen q3.out 1; have p328 : 0 ≤ ((ji11) : Int) := of_decide_eq_true (by first | (with_reducible assumption) | assumption); have q328 : (ji11) < (l1_0.length : Int) := of_decide_eq_true (by first | (with_reducible assumption) | assumption); obtain ⟨ad328, e328, hx328_0⟩ := Kd.at_int HR1_0.out (ji11) p328 q328; obtain rfl : ad326 = ad328 := (by injection e328); replace hx328_0 := (HB.out.cell (World.block_lt_of_cell? w _ hx328_0)).trans hx328_0; replace p328 := eq_true p328; replace q328 := eq_true q328) | (go_at_call 77; (with_reducible refine (impl_InRange.calls (wrap64 ((rd l1_0 x10_1) - (rd l1_0 (ji11)))) (-1) 1 true _ A14.out).mono ?_); rintro e w' ⟨rfl, ⟨nd, rfl⟩⟩))); (go_roundg k1)
                   case measure => have := HK1.out; omega
                   case rel => exact ⟨(wrap64 (x10_1 + 1)), (by first | rfl | (simp; done) | (simp [*]; done)), (by first | exact H' | (have H2_ := H'; (try simp only [← hji11] at H2_); (try simp only [← hji11]); exact H2_)), ⟨by have := HK1.out; omega⟩, ⟨by refine ba ?_; exact q3.out⟩, ⟨by exact (qa_13)⟩⟩
                 · replace c15 := Bool.eq_false_iff.mpr c15
                   subst c15; (have H1 : (some false) = some r := by rw [if_neg (show ¬ (false = true) by decide)] at H; exact H); clear H; have H := H1; clear H1; obtain rfl := Option.some.inj H; (have p326 : 0 ≤ (x10_1 : Int) := of_decide_eq_true (by first | (with_reducible assumption) | assumption)); (have q326 : x10_1 < (l1_0.length : Int) := of_decide_eq_true (by first | (with_reducible assumption) | assumption)); obtain ⟨ad326, e326, hx326_0⟩ := Kd.at_int HR1_0.out x10_1 p326 q326
                   cases e326
                   replace hx326_0 := (HB.out.cell (World.block_lt_of_cell? w _ hx326_0)).trans hx326_0; replace p326 := eq_true p326; replace q326 := eq_true q326; (go_wp2_with (first | ((with_reducible refine gate_callee (f := 77) rfl ?_); refine goesL_ (some 16) rfl rfl Try.func77 (by kernel_rfl) rfl #[.int .i64 (rd l1_0 x10_1), .int .i64 0, .int .i64 1000] rfl ma ?_; (with_reducible refine (impl_InRange.calls (rd l1_0 x10_1) 0 1000 true _ A8.out).mono ?_); rintro e w' ⟨rfl, ⟨nd, rfl⟩⟩; refine ⟨_, rfl, ?_⟩; have hcz17_0 : wr.cell? ⟨q9, 0, none⟩ = some (.slice (some ad326) l1_0.length c1_0) := (blk_cell q3.out 0).trans rfl; have hcz17_1 : wr.cell? ⟨q9, 1, none⟩ = some (.int .i64 a1_1) := (blk_cell q3.out 1).trans rfl; have hfz17_0 := blk_frozen q3.out 0; have hfz17_1 := blk_frozen q3.out 1; have p328 : 0 ≤ ((ji11) : Int) := of_decide_eq_true (by first | (with_reducible assumption) | assumption); have q328 : (ji11) < (l1_0.length : Int) := of_decide_eq_true (by first | (with_reducible assumption) | assumption); obtain ⟨ad328, e328, hx328_0⟩ := Kd.at_int HR1_0.out (ji11) p328 q328; obtain rfl : ad326 = ad328 := (by injection e328); replace hx328_0 := (HB.out.cell (World.block_lt_of_cell? w _ hx328_0)).trans hx328_0; replace p328 := eq_true p328; replace q328 := eq_true q328) | (go_at_call 77; (with_reducible refine (impl_InRange.calls (wrap64 ((rd l1_0 x10_1) - (rd l1_0 (ji11)))) (-1) 1 false _ A14.out).mono ?_); rintro e w' ⟨rfl, ⟨nd, rfl⟩⟩))); go_ret; (exact ⟨by first | rfl | (simp [errW_none, errW_some] <;> rfl) | (simp only [← hji11]; first | rfl | (simp [errW_none, errW_some] <;> rfl)) | (simp [*, errW_none, errW_some] <;> rfl), by exact (qa_13)⟩)
               · rw [if_neg c13] at H
                 exact absurd H (by simp)
             · rw [if_neg c12] at H
               exact absurd H (by simp)
           · rw [if_neg c10] at H
             (have c10b0 : decide (0 < x10_1) = false := decide_eq_false c10); clear c10; (have H' := q0_13 H); clear H; (have p326 : 0 ≤ (x10_1 : Int) := of_decide_eq_true (by first | (with_reducible assumption) | assumption)); (have q326 : x10_1 < (l1_0.length : Int) := of_decide_eq_true (by first | (with_reducible assumption) | assumption)); obtain ⟨ad326, e326, hx326_0⟩ := Kd.at_int HR1_0.out x10_1 p326 q326
             cases e326
             replace hx326_0 := (HB.out.cell (World.block_lt_of_cell? w _ hx326_0)).trans hx326_0; replace p326 := eq_true p326; replace q326 := eq_true q326; (go_wp2_with (first | ((with_reducible refine gate_callee (f := 77) rfl ?_); refine goesL_ (some 16) rfl rfl Try.func77 (by kernel_rfl) rfl #[.int .i64 (rd l1_0 x10_1), .int .i64 0, .int .i64 1000] rfl ma ?_; (with_reducible refine (impl_InRange.calls (rd l1_0 x10_1) 0 1000 true _ A8.out).mono ?_); rintro e w' ⟨rfl, ⟨nd, rfl⟩⟩; refine ⟨_, rfl, ?_⟩))); (go_roundg k1)
             case measure => have := HK1.out; omega
             case rel => exact ⟨(wrap64 (x10_1 + 1)), (by first | rfl | (simp; done) | (simp [*]; done)), H', ⟨by have := HK1.out; omega⟩, ⟨by refine ba ?_; exact q3.out⟩, ⟨by exact (qa_13)⟩⟩
         · replace c9 := Bool.eq_false_iff.mpr c9
           subst c9; (have H1 : (some false) = some r := by rw [if_neg (show ¬ (false = true) by decide)] at H; exact H); clear H; have H := H1; clear H1; obtain rfl := Option.some.inj H; (have p326 : 0 ≤ (x10_1 : Int) := of_decide_eq_true (by first | (with_reducible assumption) | assumption)); (have q326 : x10_1 < (l1_0.length : Int) := of_decide_eq_true (by first | (with_reducible assumption) | assumption)); obtain ⟨ad326, e326, hx326_0⟩ := Kd.at_int HR1_0.out x10_1 p326 q326
           cases e326
           replace hx326_0 := (HB.out.cell (World.block_lt_of_cell? w _ hx326_0)).trans hx326_0; replace p326 := eq_true p326; replace q326 := eq_true q326; (go_wp2_with (first | ((with_reducible refine gate_callee (f := 77) rfl ?_); refine goesL_ (some 16) rfl rfl Try.func77 (by kernel_rfl) rfl #[.int .i64 (rd l1_0 x10_1), .int .i64 0, .int .i64 1000] rfl ma ?_; (with_reducible refine (impl_InRange.calls (rd l1_0 x10_1) 0 1000 false _ A8.out).mono ?_); rintro e w' ⟨rfl, ⟨nd, rfl⟩⟩; refine ⟨_, rfl, ?_⟩))); go_ret; (exact ⟨by first | rfl | (simp [errW_none, errW_some] <;> rfl) | (simp [*, errW_none, errW_some] <;> rfl), by exact (qa_13)⟩)
       · rw [if_neg c7] at H
         exact absurd H (by simp)
     · rw [if_neg c6] at H
       exact absurd H (by simp)
   · rw [if_neg c5] at H
     (have c5b0 : decide (x10_1 < (l1_0.length : Int)) = false := decide_eq_false c5); clear c5
     by_cases c18 : (l0.length : Int) ≤ 40
     · rw [if_pos c18] at H
       (have c18b0 : decide ((l0.length : Int) ≤ 40) = true := decide_eq_true c18); (have c18b1 : decide (l0.length ≤ 40) = true := decide_eq_true (by omega)); clear c18
       by_cases c19 : (l1_0.length : Int) = (wrap64 ((l0.length : Int) + 1))
       · rw [if_pos c19] at H
         (have c19b0 : ((l1_0.length : Int) == (wrap64 ((l0.length : Int) + 1))) = true := beq_iff_eq.mpr c19); (have c19b1 : ((l1_0.length : Int) != (wrap64 ((l0.length : Int) + 1))) = false := bne_eq_false_iff_eq.mpr c19); clear c19; replace H := Option.bind_eq_some_iff.mp H; obtain ⟨t325, A200, H⟩ := H; replace H : (some t325) = some r := H; have A20 := q0_13 A200; clear A200; obtain rfl := Option.some.inj H; (have hcz21_0 : wr.cell? ⟨q9, 0, none⟩ = some (.slice A1_0 l1_0.length c1_0) := (blk_cell q3.out 0).trans rfl); (have hcz21_1 : wr.cell? ⟨q9, 1, none⟩ = some (.int .i64 a1_1) := (blk_cell q3.out 1).trans rfl); have hfz21_0 := blk_frozen q3.out 0; have hfz21_1 := blk_frozen q3.out 1; (go_wp2_with (first | (go_at_call 77; (with_reducible refine (impl_InRange.calls a1_1 0 1000 t325 _ A20.out).mono ?_); rintro e w' ⟨rfl, ⟨nd, rfl⟩⟩))); go_ret; (exact ⟨by first | rfl | (simp [errW_none, errW_some] <;> rfl) | (simp [*, errW_none, errW_some] <;> rfl), by exact (qa_13)⟩)
       · rw [if_neg c19] at H
         (have c19b0 : ((l1_0.length : Int) == (wrap64 ((l0.length : Int) + 1))) = false := beq_eq_false_iff_ne.mpr c19); (have c19b1 : ((l1_0.length : Int) != (wrap64 ((l0.length : Int) + 1))) = true := bne_iff_ne.mpr c19); obtain rfl := Option.some.inj H; (have hcz22_0 : wr.cell? ⟨q9, 0, none⟩ = some (.slice A1_0 l1_0.length c1_0) := (blk_cell q3.out 0).trans rfl); (have hcz22_1 : wr.cell? ⟨q9, 1, none⟩ = some (.int .i64 a1_1) := (blk_cell q3.out 1).trans rfl); have hfz22_0 := blk_frozen q3.out 0; have hfz22_1 := blk_frozen q3.out 1; (go_wp2); go_ret; (exact ⟨by first | rfl | (simp [errW_none, errW_some] <;> rfl) | (simp [*, errW_none, errW_some] <;> rfl), by exact (qa_13)⟩)
     · rw [if_neg c18] at H
       (have c18b0 : decide ((l0.length : Int) ≤ 40) = false := decide_eq_false c18); (have c18b1 : decide (l0.length ≤ 40) = false := decide_eq_false (by omega)); clear c18; obtain rfl := Option.some.inj H; (go_wp2); go_ret; (exact ⟨by first | rfl | (simp [errW_none, errW_some] <;> rfl) | (simp [*, errW_none, errW_some] <;> rfl), by exact (qa_13)⟩)
end Go.Proofs.Ytlkcbmcbmanmiaa.PFnExactPlayAlong
