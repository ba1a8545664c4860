-- Written for this claim by a program of this repository (wip/tools/print2.py), out of the translation; Lean checks it.
import Derived.Test.YtlkcbmcbmanmiaaPFnExactHearNearx0
import Derived.Test.YtlkcbmcbmanmiaaPFnExactHearNearx2
import Derived.Test.YtlkcbmcbmanmiaaPFnExactHearNearx3
namespace Go.Proofs.Ytlkcbmcbmanmiaa.PFnExactHearNear
open Go.RowKit Go.Proofs.YtlkcbmcbmanmiaaW.PrintWords Go.Proofs.YtlkcbmcbmanmiaaW.PrintLast Go.Proofs.YtlkcbmcbmanmiaaW.PrintMore
attribute [local go_sem] max2_int min2_int max_two min_two max_three min_three max_four min_four   -- for this text's walks alone
set_option linter.unusedVariables false
set_option linter.unusedSimpArgs false
-- SHORT
theorem qm_4 {p : Prop} (f : p := by repeat (first | (with_reducible first | exact HB.out | apply below_alloc | apply pw_below_drewN | apply below_drew1) | exact HB.out)) : p := f
theorem qk_4 {p : Prop} (f : p := by repeat (first | (with_reducible first | exact HB.out | apply below_alloc | apply pw_below_drewN | apply below_drew1 | refine below_set ?_ qx.out) | exact HB.out)) : p := f
theorem qb_4 {p : Prop} (f : p := by repeat (first | (with_reducible first | exact HB.out | apply below_alloc | apply pw_below_drewN | apply below_drew1 | refine below_set ?_ qx.out | refine below_set ?_ qy.out) | exact HB.out)) : p := f
theorem q7_4 {p : Prop} (f : p := by repeat (first | (with_reducible first | exact HB.out | apply below_alloc | apply pw_below_drewN | apply below_drew1 | refine below_set ?_ qx.out | refine below_set ?_ qy.out | refine below_set ?_ qz.out) | exact HB.out)) : p := f
theorem ql_4 {p : Prop} (f : p := by repeat (first | (with_reducible first | exact HB.out | apply below_alloc | apply pw_below_drewN | apply below_drew1 | refine below_set ?_ qw.out) | exact HB.out)) : p := f
theorem q0_4 {p : Prop} (h : p) : Aside0 p := ⟨h⟩
/-! ### spec_HearNear: function 43 -/
def spec_HearNear.l0 : Nat → List Int → List Int → Int → Int → List Int → Int → Option (List Int × Int)
 | 0, _, _, _, _, _, _ => none
 | k + 1, x0, x2, x3, x10, x175000, x175001 => if x10 < (x2.length : Int) then (if 0 ≤ x10 then ((spec_StepNear.f k x0 x175000 x175001 (rd x2 x10) x3).bind fun bt176 => (spec_HearNear.l0 k x0 x2 x3 (wrap64 (x10 + 1)) bt176.1 bt176.2)) else (none)) else (some (x175000, x175001))
def spec_HearNear.f (k : Nat) (l0 : List Int) (l1_0 : List Int) (a1_1 : Int) (l2 : List Int) (a3 : Int) : Option (List Int × Int) := (spec_l17Copy.f l1_0 a1_1).bind fun bt170 => (spec_HearNear.l0 k l0 l2 a3 0 bt170.1 bt170.2)
theorem spec_HearNear.mono_l : ∀ k, (∀ y0 y1 y2 y3 y4 y5, LeO (spec_HearNear.l0 k y0 y1 y2 y3 y4 y5) (spec_HearNear.l0 (k + 1) y0 y1 y2 y3 y4 y5))
 | 0 => fun _ _ _ _ _ _ r h => by simp [spec_HearNear.l0] at h
 | k + 1 => by
  have ih0 := spec_HearNear.mono_l k
  · intro y0 y1 y2 y3 y4 y5
    unfold spec_HearNear.l0
    repeat' first
    | (with_reducible exact ih0 _ _ _ _ _ _)
    | (with_reducible exact spec_StepNear.mono _ _ _ _ _ _)
    | (with_reducible exact LeO.refl _)
    | (with_reducible exact LeO.none _)
    | (with_reducible refine LeO.ite ?_ ?_)
    | (with_reducible refine LeO.bind ?_ (fun _ => ?_))
    | exact ih0 _ _ _ _ _ _
    | exact spec_StepNear.mono _ _ _ _ _ _
    | exact LeO.none _
    | refine LeO.ite ?_ ?_
    | refine LeO.bind ?_ (fun _ => ?_)
theorem spec_HearNear.mono : ∀ a0 a1 a2 a3 a4 k, LeO (spec_HearNear.f k a0 a1 a2 a3 a4) (spec_HearNear.f (k + 1) a0 a1 a2 a3 a4) := by
 intro a0 a1 a2 a3 a4 k; have ih0 := spec_HearNear.mono_l k; unfold spec_HearNear.f
 repeat' first
  | (with_reducible exact ih0 _ _ _ _ _ _)
  | (with_reducible exact spec_StepNear.mono _ _ _ _ _ _)
  | (with_reducible exact LeO.refl _)
  | (with_reducible exact LeO.none _)
  | (with_reducible refine LeO.ite ?_ ?_)
  | (with_reducible refine LeO.bind ?_ (fun _ => ?_))
  | exact ih0 _ _ _ _ _ _
  | exact spec_StepNear.mono _ _ _ _ _ _
  | exact LeO.none _
  | refine LeO.ite ?_ ?_
  | refine LeO.bind ?_ (fun _ => ?_)
def spec_HearNear.T5 : Bool × List (List Nat × List Nat) := (true, [([], []), ([], []), ([], []), ([], []), ([2, 3], [2, 3]), ([4], [4]), ([], []), ([0, 1, 5, 6], [0, 1, 5, 6]), ([7, 7, 0, 1, 2, 3, 4, 5, 6, 7], [7])])
def spec_HearNear.B5 : List Nat := [0, 0, 0, 0, 12, 28, 0, 127, 255]
theorem spec_HearNear.tab5 : rtab .any (opsOf Try.f43 5) = spec_HearNear.T5 := by kernel_rfl
theorem spec_HearNear.bits5 : waitsOk spec_HearNear.T5.2 spec_HearNear.B5 = true := by kernel_rfl
set_option maxHeartbeats 8000000 in
set_option maxRecDepth 100000 in
theorem spec_HearNear.calls (k : Nat) (A0 : Option Addr) (c0 : Nat) (l0 : List Int) (A1_0 : Option Addr) (c1_0 : Nat) (l1_0 : List Int) (a1_1 : Int) (A2 : Option Addr) (c2 : Nat) (l2 : List Int) (a3 : Int) (r1 : List Int) (r2 : Int) (w : World) (hr0 : Kd.C (Kd.int .i64) w A0 l0.length l0) (hc0 : l0.length ≤ c0) (hr1_0 : Kd.C (Kd.int .i64) w A1_0 l1_0.length l1_0) (hc1_0 : l1_0.length ≤ c1_0) (hr2 : Kd.C (Kd.int .i64) w A2 l2.length l2) (hc2 : l2.length ≤ c2) (h : spec_HearNear.f k l0 l1_0 a1_1 l2 a3 = some (r1, r2)) :
 Calls Try.prog 43 #[.slice A0 l0.length c0, .agg #[.slice A1_0 l1_0.length c1_0, .int .i64 a1_1], .slice A2 l2.length c2, .int .i64 a3] w fun e w' => ∃ v0_ : Value, e = .returned (.agg #[v0_, .int .i64 r2]) ∧ Kd.R (Kd.int .i64) 3 w' w.heap.size (fun _ => True) v0_ r1 ∧ Below w.heap.size w w' := by
 have hu51 := Try.underlying51; have HR0 := q0_4 hr0; have HC0 := q0_4 hc0; clear hr0 hc0; have HR1_0 := q0_4 hr1_0; have HC1_0 := q0_4 hc1_0; clear hr1_0 hc1_0; have HR2 := q0_4 hr2; have HC2 := q0_4 hc2; clear hr2 hc2; have HB := q0_4 (Below.refl w.heap.size w); (have H : ((spec_l17Copy.f l1_0 a1_1).bind fun bt170 => (spec_HearNear.l0 k l0 l2 a3 0 bt170.1 bt170.2)) = some (r1, r2) := h); clear h; replace H := Option.bind_eq_some_iff.mp H; obtain ⟨⟨t170, t173⟩, A50, H⟩ := H; replace H : (spec_HearNear.l0 k l0 l2 a3 0 t170 t173) = some (r1, r2) := H; have A5 := q0_4 A50; clear A50; (have H' := q0_4 H); clear H; go_enter Try.func43, Try.ntmps43
 (go_wp2_with (first | ((with_reducible refine gate_dst (N := 5) rfl ?_); refine box_event ?hg (N := 5) ?hd (cs := #[.slice A1_0 l1_0.length c1_0, .int .i64 a1_1]) (t := 51) ?hr ?_; (case hd => rfl); (case hg => rfl); (case hr => first | (go_simp; done) | (go_simp; rfl)); intro qg hg w6 hbox hb; have n0_ := q0_4 (below_step (qm_4) hb); have n1_ := q0_4 (hbox); have n2_ := q0_4 ((by rw [hg]; exact (below_size (qm_4)) : w.heap.size ≤ qg)); have n3_ := q0_4 ((by rw [hg]; exact (below_size (qm_4)) : w.heap.size ≤ qg)); clear HB; have HB := n0_; have q4 := n1_; have GW168 := n2_; have qx := n3_; clear n0_ n1_ n2_ n3_; clear hb hbox hg) | ((with_reducible refine gate_dst (N := 8) rfl ?_); refine box_event ?hg (N := 8) ?hd (cs := #[.slice none 0 0, .int .i64 0]) (t := 51) ?hr ?_; (case hd => rfl); (case hg => rfl); (case hr => first | (go_simp; done) | (go_simp; rfl)); intro qc hg w7 hbox hb; have n0_ := q0_4 (bb q4.out hb); have n1_ := q0_4 (below_step (qk_4) hb); have n2_ := q0_4 (hbox); have n3_ := q0_4 ((by rw [hg]; exact (below_size (qk_4)) : w.heap.size ≤ qc)); have n4_ := q0_4 ((by rw [hg]; exact (below_size (qk_4)) : w.heap.size ≤ qc)); have n5_ := q0_4 ((by rw [hg]; exact Nat.ne_of_lt (bl q4.out) : qg ≠ qc)); have n6_ := q0_4 ((by rw [hg]; exact Nat.ne_of_gt (bl q4.out) : qc ≠ qg)); clear q4; clear HB; have q4 := n0_; have HB := n1_; have q5 := n2_; have GW169 := n3_; have qy := n4_; have qh := n5_; have qi := n6_; clear n0_ n1_ n2_ n3_ n4_ n5_ n6_; clear hb hbox hg; have hnb8 := qh.out; have hnc8 := qi.out; have hcz9_0 : w7.cell? ⟨qg, 0, none⟩ = some (.slice A1_0 l1_0.length c1_0) := (blk_cell q4.out 0).trans rfl; have hcz9_1 : w7.cell? ⟨qg, 1, none⟩ = some (.int .i64 a1_1) := (blk_cell q4.out 1).trans rfl; have hfz9_0 := blk_frozen q4.out 0; have hfz9_1 := blk_frozen q4.out 1) | ((with_reducible refine gate_callee (f := 83) rfl ?_); refine goesL_ (some 12) rfl rfl Try.func83 (by kernel_rfl) rfl #[.agg #[.slice A1_0 l1_0.length c1_0, .int .i64 a1_1]] rfl ma ?_; (with_reducible refine (spec_l17Copy.calls _ _ l1_0 a1_1 t170 t173 _ ?side1 ?side2 A5.out).mono ?_); (case side1 => exact ca (Kd.C_below HR1_0.out HB.out)); (case side2 => exact HC1_0.out); rintro e w10 ⟨v171, rfl, ho0, hb⟩; refine ⟨_, rfl, ?_⟩; have n0_ := q0_4 (Kd.R_lower ho0 (below_size (qb_4))); have n1_ := q0_4 (bb q4.out hb); have n2_ := q0_4 (bb q5.out hb); have n3_ := q0_4 (below_step (qb_4) hb); clear q4; clear q5; clear HB; have qj := n0_; have q4 := n1_; have q5 := n2_; have HB := n3_; clear n0_ n1_ n2_ n3_; (try clear hb); (try clear hb2); (try clear hk); (try clear hi); (try clear ho0)) | ((with_reducible refine gate_dst (N := 9) rfl ?_); refine box_event ?hg (N := 9) ?hd (cs := #[.slice none 0 0, .int .i64 0]) (t := 51) ?hr ?_; (case hd => rfl); (case hg => rfl); (case hr => first | (go_simp; done) | (go_simp; rfl)); intro qa hg w11 hbox hb; have n0_ := q0_4 (Kd.R_below (ra qj.out) hb); have n1_ := q0_4 (bb q4.out hb); have n2_ := q0_4 (bb q5.out hb); have n3_ := q0_4 (below_step (qb_4) hb); have n4_ := q0_4 (hbox); have n5_ := q0_4 ((by rw [hg]; exact (below_size (qb_4)) : w.heap.size ≤ qa)); have n6_ := q0_4 ((by rw [hg]; exact (below_size (qb_4)) : w.heap.size ≤ qa)); have n7_ := q0_4 ((by rw [hg]; exact Nat.ne_of_lt (bl q4.out) : qg ≠ qa)); have n8_ := q0_4 ((by rw [hg]; exact Nat.ne_of_gt (bl q4.out) : qa ≠ qg)); have n9_ := q0_4 ((by rw [hg]; exact Nat.ne_of_lt (bl q5.out) : qc ≠ qa)); have n10_ := q0_4 ((by rw [hg]; exact Nat.ne_of_gt (bl q5.out) : qa ≠ qc)); clear qj; clear q4; clear q5; clear HB; have qj := n0_; have q4 := n1_; have q5 := n2_; have HB := n3_; have q3 := n4_; have GW174 := n5_; have qz := n6_; have q8 := n7_; have qe := n8_; have q9 := n9_; have qf := n10_; clear n0_ n1_ n2_ n3_ n4_ n5_ n6_ n7_ n8_ n9_ n10_; clear hb hbox hg; obtain ⟨qq, qr, eo12⟩ := Kd.R_slice qj.out; subst eo12; have hnb13 := qe.out; have hnc13 := q8.out; have hnb14 := qf.out; have hnc14 := q9.out; have hcz15_0 : w11.cell? ⟨qa, 0, none⟩ = some (.slice none 0 0) := (blk_cell q3.out 0).trans rfl; have hcz15_1 : w11.cell? ⟨qa, 1, none⟩ = some (.int .i64 0) := (blk_cell q3.out 1).trans rfl; have hfz15_0 := blk_frozen q3.out 0; have hfz15_1 := blk_frozen q3.out 1)))
 (go_loopg [10] k (fun kq v10 w' => ∃ (x10_1 : Int) (x175000_1 : List Int) (x175001_1 : Int) (u175000 : Value), v10 = .int .i64 x10_1 ∧ Aside0 (spec_HearNear.l0 kq l0 l2 a3 x10_1 x175000_1 x175001_1 = some (r1, r2)) ∧ Aside0 (kq ≤ k) ∧ Aside0 (Kd.R (Kd.int .i64) 3 w' w.heap.size (fun _ => True) u175000 x175000_1) ∧ Aside0 (w'.heap[qg]? = some (.cells #[(.slice A1_0 l1_0.length c1_0), .int .i64 a1_1] 51 (0, 0))) ∧ Aside0 (w'.heap[qc]? = some (.cells #[(.slice none 0 0), .int .i64 0] 51 (0, 0))) ∧ Aside0 (w'.heap[qa]? = some (.cells #[u175000, .int .i64 x175001_1] 51 (0, 0))) ∧ Aside0 (Below w.heap.size w w')))
 case atStart => exact ⟨(0), (t170), (t173), (.slice qq t170.length qr), (by first | rfl | (simp; done) | (simp [*]; done)), H', ⟨Nat.le_refl _⟩, ⟨by refine ra ?_; exact Kd.R_mono (Kd.R_far (p := ⟨qa, 1, none⟩) (Kd.R_far (p := ⟨qa, 0, none⟩) (Kd.R_types qj.out q3.out (by decide)) (fun _ hk => hk.2) (.slice qq t170.length qr)) (fun _ hk => hk.2) (.int .i64 t173)) (fun _ hk => trivial)⟩, ⟨by refine ba ?_; refine blk_far ?_ q8.out _; refine ba ?_; refine blk_far ?_ q8.out _; refine ba ?_; exact q4.out⟩, ⟨by refine ba ?_; refine blk_far ?_ q9.out _; refine ba ?_; refine blk_far ?_ q9.out _; refine ba ?_; exact q5.out⟩, ⟨by refine ba ?_; refine blk_put (cs := #[.slice qq t170.length qr, .int .i64 0]) ?_ 1 _ rfl; refine ba ?_; refine blk_put (cs := #[.slice none 0 0, .int .i64 0]) ?_ 0 _ rfl; refine ba ?_; exact q3.out⟩, ⟨by exact (q7_4)⟩⟩
 case round =>
  clear H'; (try clear c1); (try clear c2); (try clear p2); (try clear c4); (try clear c8); (try clear c13); (try clear c14); (try clear hcz15_0); (try clear hcz15_1); (try clear hcz9_0); (try clear hcz9_1); (try clear hfz15_0); (try clear hfz15_1); (try clear hfz9_0); (try clear hfz9_1); obtain ⟨x10_1, x175000_1, x175001_1, u175000, rfl, HA, HK1, q2, q4, q5, q3, HB⟩ := hrel
  cases gk with
  | zero => exact absurd HA.out (by simp [spec_HearNear.l0])
  | succ k1 =>
   have H := HA.out; clear HA; (simp only [spec_HearNear.l0] at H)
   by_cases c16 : x10_1 < (l2.length : Int)
   · rw [if_pos c16] at H
     (have c16b0 : decide (x10_1 < (l2.length : Int)) = true := decide_eq_true c16); clear c16
     by_cases c17 : 0 ≤ x10_1
     · rw [if_pos c17] at H
       (have c17b0 : decide (0 ≤ x10_1) = true := decide_eq_true c17); clear c17; replace H := Option.bind_eq_some_iff.mp H; obtain ⟨⟨t176, t179⟩, A180, H⟩ := H; replace H : (spec_HearNear.l0 k1 l0 l2 a3 (wrap64 (x10_1 + 1)) t176 t179) = some (r1, r2) := H; have A18 := q0_4 A180; clear A180; (have H' := q0_4 H); clear H; (try go_wp2); have n0_ := q0_4 (Kd.R_drew q2.out); have n1_ := q0_4 (blk_drew q4.out); have n2_ := q0_4 (blk_drew q5.out); have n3_ := q0_4 (blk_drew q3.out); have n4_ := q0_4 (below_drew1 HB.out); clear q2 q4 q5 q3 HB; have q2 := n0_; have q4 := n1_; have q5 := n2_; have q3 := n3_; have HB := n4_; clear n0_ n1_ n2_ n3_ n4_; (have p175 : 0 ≤ (x10_1 : Int) := of_decide_eq_true (by first | (with_reducible assumption) | assumption)); (have q175 : x10_1 < (l2.length : Int) := of_decide_eq_true (by first | (with_reducible assumption) | assumption)); obtain ⟨ad175, e175, hx175_0⟩ := Kd.at_int HR2.out x10_1 p175 q175; have hw175_0 := hx175_0
       cases e175
       replace hx175_0 := (HB.out.cell (World.block_lt_of_cell? w _ hx175_0)).trans hx175_0; replace p175 := eq_true p175; replace q175 := eq_true q175; obtain ⟨qn, qo, eo20⟩ := Kd.R_slice q2.out; ((first | subst eo20 | (injection eo20 with f1_ f2_ f3_; have f4_ := f1_.symm; have f5_ := f3_.symm; clear f1_ f2_ f3_; subst f4_; subst f5_))); refine start_ (n := 9) (S := fun w' => w'.cell? ⟨qa, 0, none⟩ = some (.slice qn x175000_1.length qo) ∧ w'.cell? ⟨qa, 1, none⟩ = some (.int .i64 x175001_1) ∧ w'.cell? (ad175.add (x10_1).toNat) = some (.int .i64 (rd l2 x10_1))) (ds := [8]) (bq 0 9) (by kernel_rfl) rfl rfl ⟨(blk_cell q3.out 0).trans rfl, (blk_cell q3.out 1).trans rfl, ((HB.out.cell (World.block_lt_of_cell? w _ hw175_0)).trans hw175_0)⟩ (fun hHeld => ?_); refine with_tabW spec_HearNear.tab5 spec_HearNear.bits5 (fun HT_ HW_ => ?_); generalize wr.drew = w19 at q2 q4 q5 q3 HB hx175_0 hHeld ⊢; refine pure_ (i := 0) (N := some 19) (v := ?_) (a' := ?_) (bq 1 9) rfl rfl (any_of HT_.out (by kernel_rfl)) (fun _ _ _ h => h) (Or.inl ⟨by rfl, ?_⟩) ?_ ?_; rotate_left; (intro w'; go_simp; with_reducible rfl); rotate_left; (exact pb); refine pure_ (i := 2) (N := some 21) (v := ?_) (a' := ?_) (bq 5 9) rfl rfl (any_of HT_.out (by kernel_rfl)) (fun _ _ _ h => h) (Or.inl ⟨by rfl, ?_⟩) ?_ ?_; rotate_left; (intro w'; go_simp; with_reducible rfl); rotate_left; (exact pb); refine pure_ (i := 3) (N := some 22) (v := ?_) (a' := ?_) (bq 13 9) rfl rfl (any_of HT_.out (by kernel_rfl)) (fun _ _ _ h => h) (Or.inl ⟨by rfl, ?_⟩) ?_ ?_; rotate_left; (intro w'; go_simp; with_reducible rfl); rotate_left; (exact pb); refine pure_ (i := 4) (N := some 23) (v := ?_) (a' := ?_) (bq 29 9) rfl rfl (any_of HT_.out (by kernel_rfl)) (fun _ _ _ h => h) (Or.inl ⟨by rfl, ?_⟩) ?_ ?_; rotate_left; (intro w'; go_simp; with_reducible rfl); rotate_left; (exact pb); refine pure_ (i := 6) (N := some 25) (v := ?_) (a' := ?_) (bq 93 9) rfl rfl (any_of HT_.out (by kernel_rfl)) (fun _ _ _ h => h) (Or.inl ⟨by rfl, ?_⟩) ?_ ?_; rotate_left; (intro w'; go_simp; with_reducible rfl); rotate_left; (exact pb); refine take_ (i := 1) (N := some 20) (v := ?_) (a' := ?_) (bq 95 9) rfl rfl (take_ofW HT_.out HW_.out (by kernel_rfl)) (fun _ _ _ h => h) (Or.inl ⟨by rfl, ?_⟩) hHeld ?_ ?_; rotate_left; (rintro w' ⟨s0, s1, s2⟩; go_simp; with_reducible rfl); rotate_left; (exact pb); refine take_ (i := 5) (N := some 24) (v := ?_) (a' := ?_) (bq 127 9) rfl rfl (take_ofW HT_.out HW_.out (by kernel_rfl)) (fun _ _ _ h => h) (Or.inl ⟨by rfl, ?_⟩) hHeld ?_ ?_; rotate_left; (rintro w' ⟨s0, s1, s2⟩; go_simp; with_reducible rfl); rotate_left; (exact pb); refine one_ (i := 7) (N := some 26) (bq 255 9) rfl rfl (one_of HT_.out (by kernel_rfl)) (by decide) (fun K hK => ?_); refine goes_ Try.func34 (by kernel_rfl) rfl #[.slice A0 l0.length c0, .agg #[.slice qn x175000_1.length qo, .int .i64 x175001_1], .int .i64 (rd l2 x10_1), .int .i64 a3] (by rfl) rfl rfl ma ?_
       (with_reducible refine (spec_StepNear.calls k1 _ _ l0 _ _ x175000_1 x175001_1 (rd l2 x10_1) a3 t176 t179 _ ?side1 ?side2 ?side3 ?side4 A18.out).mono ?_); ((case side1 => exact ca (Kd.C_below HR0.out HB.out))); ((case side2 => exact HC0.out)); ((case side3 => exact ca (Kd.R_reads' q2.out).2.2)); ((case side4 => exact (Kd.R_reads' q2.out).2.1)); rintro e w21 ⟨v177, rfl, ho0, hb⟩; refine ⟨_, rfl, ?_⟩; have n0_ := q0_4 (Kd.R_elder' (ra q2.out) (Kd.R_base ho0) hb); have n1_ := q0_4 (Kd.R_lower (Kd.R_new' ho0 (Kd.R_lt (ra q2.out))) (below_size (q7_4))); have n2_ := q0_4 (bb q4.out hb); have n3_ := q0_4 (bb q5.out hb); have n4_ := q0_4 (bb q3.out hb); have n5_ := q0_4 (below_step (q7_4) hb); clear q2 q4 q5 q3 HB; have q2 := n0_; have qp := n1_; have q4 := n2_; have q5 := n3_; have q3 := n4_; have HB := n5_; clear n0_ n1_ n2_ n3_ n4_ n5_; ((try clear hb)); ((try clear hb2)); ((try clear hk)); ((try clear hi)); ((try clear ho0)); obtain ⟨qs, qt, eo22⟩ := Kd.R_slice qp.out; ((first | subst eo22 | (injection eo22 with f1_ f2_ f3_; have f4_ := f1_.symm; have f5_ := f3_.symm; clear f1_ f2_ f3_; subst f4_; subst f5_))); refine hK.out _ _ ⟨(blk_cell q3.out 0).trans rfl, (blk_cell q3.out 1).trans rfl, ((HB.out.cell (World.block_lt_of_cell? w _ hw175_0)).trans hw175_0)⟩ (fun hHeld => ?_); clear hK K; refine norm_ (a' := ?_) ?_ ?_; rotate_left; ((show Act.put _ (some 26) _ = _); simp only [Act.put, List.setIfInBounds_toArray, List.set_cons_zero, List.set_cons_succ, i64_w, i32_w]; rfl); refine last_ (i := 8) (N := none) (bq 511 9) rfl rfl (one_of HT_.out (by kernel_rfl)) (by decide) (fun K hK => ?_); (have hs23 : w21.cell? ⟨qa, 0, none⟩ = some (.slice qn x175000_1.length qo) := (blk_cell q3.out 0).trans rfl); have hfs23 := blk_frozen q3.out 0; have hns23_0 := q8.out; have hns23_1 := q9.out; have hms23_0 := qe.out; have hms23_1 := qf.out; (have hs24 : w21.cell? ⟨qa, 1, none⟩ = some (.int .i64 x175001_1) := (blk_cell q3.out 1).trans rfl); have hfs24 := blk_frozen q3.out 1; have hns24_0 := q8.out; have hns24_1 := q9.out; have hms24_0 := qe.out; have hms24_1 := qf.out; refine skip_ (w1 := ?_) (by rfl) rfl ?_ ?_; rotate_left; (go_simp; rfl); refine hK.out _ _ ?_; clear hK K; refine done_ (done_of HT_.out (by kernel_rfl)) ?_; (try go_wp2); (go_roundg k1)
       case measure => have := HK1.out; omega
       case rel => exact ⟨(wrap64 (x10_1 + 1)), (t176), (t179), (.slice qs t176.length qt), (by first | rfl | (simp; done) | (simp [*]; done)), H', ⟨by have := HK1.out; omega⟩, ⟨by refine ra ?_; exact Kd.R_mono (Kd.R_far (p := ⟨qa, 1, none⟩) (Kd.R_far (p := ⟨qa, 0, none⟩) (Kd.R_types qp.out q3.out (by decide)) (fun _ hk => hk.2) (.slice qs t176.length qt)) (fun _ hk => hk.2) (.int .i64 t179)) (fun _ hk => trivial)⟩, ⟨by refine ba ?_; refine blk_far ?_ q8.out _; refine ba ?_; refine blk_far ?_ q8.out _; refine ba ?_; exact q4.out⟩, ⟨by refine ba ?_; refine blk_far ?_ q9.out _; refine ba ?_; refine blk_far ?_ q9.out _; refine ba ?_; exact q5.out⟩, ⟨by refine ba ?_; refine blk_put (cs := #[.slice qs t176.length qt, .int .i64 x175001_1]) ?_ 1 _ rfl; refine ba ?_; refine blk_put (cs := #[.slice qn x175000_1.length qo, .int .i64 x175001_1]) ?_ 0 _ rfl; refine ba ?_; exact q3.out⟩, ⟨by exact (q7_4)⟩⟩
     · rw [if_neg c17] at H
       exact absurd H (by simp)
   · rw [if_neg c16] at H
     (have c16b0 : decide (x10_1 < (l2.length : Int)) = false := decide_eq_false c16); clear c16; (simp only [Option.some.injEq, Prod.mk.injEq] at H); obtain ⟨rfl, rfl⟩ := H; have hnb25 := qe.out; have hnc25 := q8.out; have hnb26 := qf.out; have hnc26 := q9.out; (have hcz27_0 : wr.cell? ⟨qa, 0, none⟩ = some (u175000) := (blk_cell q3.out 0).trans rfl); (have hcz27_1 : wr.cell? ⟨qa, 1, none⟩ = some (.int .i64 x175001_1) := (blk_cell q3.out 1).trans rfl); have hfz27_0 := blk_frozen q3.out 0; have hfz27_1 := blk_frozen q3.out 1; obtain ⟨qu, qv, eo28⟩ := Kd.R_slice q2.out; subst eo28; have hnb29 := qi.out; have hnc29 := qh.out; (have hcz30_0 : wr.cell? ⟨qc, 0, none⟩ = some (.slice none 0 0) := (blk_cell q5.out 0).trans rfl); (have hcz30_1 : wr.cell? ⟨qc, 1, none⟩ = some (.int .i64 0) := (blk_cell q5.out 1).trans rfl); have hfz30_0 := blk_frozen q5.out 0; have hfz30_1 := blk_frozen q5.out 1; (go_wp2); refine bodyPost_ret (results_cell_row rfl _ _ qc 51 #[.slice qu x175000_1.length qv, .int .i64 x175001_1] (0, 0) _ rfl (by refine ba ?_; refine blk_put (cs := #[.slice qu x175000_1.length qv, .int .i64 0]) ?_ 1 _ rfl; refine ba ?_; refine blk_put (cs := #[.slice none 0 0, .int .i64 0]) ?_ 0 _ rfl; refine ba ?_; exact q5.out) Try.underlying51 rfl (by kernel_rfl)) rfl ?_; (exact ⟨_, by first | rfl | (simp [errW_none, errW_some] <;> rfl) | (simp [*, errW_none, errW_some] <;> rfl), by refine ra ?_; exact Kd.R_mono (Kd.R_far (p := ⟨qc, 1, none⟩) (Kd.R_far (p := ⟨qc, 0, none⟩) (Kd.R_types q2.out q5.out (by decide)) (fun _ hk => hk.2) (.slice qu x175000_1.length qv)) (fun _ hk => hk.2) (.int .i64 x175001_1)) (fun _ hk => trivial), by exact (q7_4)⟩)
/-! ### impl_InRange: function 77 -/
def impl_InRange.f (a0 : Int) (a1 : Int) (a2 : Int) : Option (Bool) := if a1 ≤ a0 then (some (decide (a0 ≤ a2))) else (some false)
set_option maxHeartbeats 8000000 in
set_option maxRecDepth 100000 in
theorem impl_InRange.calls (a0 : Int) (a1 : Int) (a2 : Int) (r : Bool) (w : World) (h : impl_InRange.f a0 a1 a2 = some r) :
 Calls Try.prog 77 #[.int .i64 a0, .int .i64 a1, .int .i64 a2] w fun e w' => e = .returned (.bool r) ∧ Drawn0 w w' := by
 (have H : (if a1 ≤ a0 then (some (decide (a0 ≤ a2))) else (some false)) = some r := h); clear h
 by_cases c4 : a1 ≤ a0
 · rw [if_pos c4] at H
   (have c4b0 : decide (a1 ≤ a0) = true := decide_eq_true c4); clear c4; obtain rfl := Option.some.inj H; go_enter Try.func77, Try.ntmps77; (go_wp2); go_ret; exact ⟨by first | rfl | (simp; done) | (simp [*]; done), by repeat (first | exact Drawn0.refl _ | apply Drawn0.step)⟩
 · rw [if_neg c4] at H
   (have c4b0 : decide (a1 ≤ a0) = false := decide_eq_false c4); clear c4; obtain rfl := Option.some.inj H; go_enter Try.func77, Try.ntmps77; (go_wp2); go_ret; exact ⟨by first | rfl | (simp; done) | (simp [*]; done), by repeat (first | exact Drawn0.refl _ | apply Drawn0.step)⟩
/-! ### slices_Index_int_int: function 140 -/
def slices_Index_int_int.l0 : Nat → List Int → Int → Int → Int → Option (Int)
 | 0, _, _, _, _ => none
 | k + 1, x0, x1, x7, x8 => if x8 < x7 then (if 0 ≤ x8 then (if x8 < (x0.length : Int) then (if x1 = (rd x0 x8) then (some x8) else (slices_Index_int_int.l0 k x0 x1 x7 (wrap64 (x8 + 1)))) else (none)) else (none)) else (some (-1))
def slices_Index_int_int.f (k : Nat) (l0 : List Int) (a1 : Int) : Option (Int) := slices_Index_int_int.l0 k l0 a1 (l0.length : Int) 0
theorem slices_Index_int_int.mono_l : ∀ k, (∀ y0 y1 y2 y3, LeO (slices_Index_int_int.l0 k y0 y1 y2 y3) (slices_Index_int_int.l0 (k + 1) y0 y1 y2 y3))
 | 0 => fun _ _ _ _ r h => by simp [slices_Index_int_int.l0] at h
 | k + 1 => by
  have ih0 := slices_Index_int_int.mono_l k
  · intro y0 y1 y2 y3
    unfold slices_Index_int_int.l0
    repeat' first
    | (with_reducible exact ih0 _ _ _ _)
    | (with_reducible exact LeO.refl _)
    | (with_reducible exact LeO.none _)
    | (with_reducible refine LeO.ite ?_ ?_)
    | (with_reducible refine LeO.bind ?_ (fun _ => ?_))
    | exact ih0 _ _ _ _
    | exact LeO.none _
    | refine LeO.ite ?_ ?_
    | refine LeO.bind ?_ (fun _ => ?_)
theorem slices_Index_int_int.mono : ∀ a0 a1 k, LeO (slices_Index_int_int.f k a0 a1) (slices_Index_int_int.f (k + 1) a0 a1) := by
 intro a0 a1 k; have ih0 := slices_Index_int_int.mono_l k; unfold slices_Index_int_int.f
 repeat' first
  | (with_reducible exact ih0 _ _ _ _)
  | (with_reducible exact LeO.refl _)
  | (with_reducible exact LeO.none _)
  | (with_reducible refine LeO.ite ?_ ?_)
  | (with_reducible refine LeO.bind ?_ (fun _ => ?_))
  | exact ih0 _ _ _ _
  | exact LeO.none _
  | refine LeO.ite ?_ ?_
  | refine LeO.bind ?_ (fun _ => ?_)
set_option maxHeartbeats 8000000 in
set_option maxRecDepth 100000 in
theorem slices_Index_int_int.calls (k : Nat) (A0 : Option Addr) (c0 : Nat) (l0 : List Int) (a1 : Int) (r : Int) (w : World) (hr0 : Kd.C (Kd.int .i64) w A0 l0.length l0) (hc0 : l0.length ≤ c0) (h : slices_Index_int_int.f k l0 a1 = some r) :
 Calls Try.prog 140 #[.slice A0 l0.length c0, .int .i64 a1] w fun e w' => e = .returned (.int .i64 r) ∧ Drawn0 w w' := by
 have HR0 := q0_4 hr0; have HC0 := q0_4 hc0; clear hr0 hc0; (have H : (slices_Index_int_int.l0 k l0 a1 (l0.length : Int) 0) = some r := h); clear h; (have H' := q0_4 H); clear H; go_enter Try.func140, Try.ntmps140; (go_wp2); (go_loopg [8] k (fun kq v8 w' => ∃ (x8_1 : Int), v8 = .int .i64 x8_1 ∧ Aside0 (slices_Index_int_int.l0 kq l0 a1 (l0.length : Int) x8_1 = some r) ∧ Aside0 (kq ≤ k) ∧ Drawn0 w w'))
 case atStart => exact ⟨(0), (by first | rfl | (simp; done) | (simp [*]; done)), H', ⟨Nat.le_refl _⟩, by repeat (first | exact Drawn0.refl _ | apply Drawn0.step)⟩
 case round =>
  clear H'; (try clear c1); (try clear p2); obtain ⟨x8_1, rfl, HA, HK1, ⟨m1, rfl⟩⟩ := hrel
  cases gk with
  | zero => exact absurd HA.out (by simp [slices_Index_int_int.l0])
  | succ k1 =>
   have H := HA.out; clear HA; (simp only [slices_Index_int_int.l0] at H)
   by_cases c3 : x8_1 < (l0.length : Int)
   · rw [if_pos c3] at H
     (have c3b0 : decide (x8_1 < (l0.length : Int)) = true := decide_eq_true c3); clear c3
     by_cases c4 : 0 ≤ x8_1
     · rw [if_pos c4] at H
       (have c4b0 : decide (0 ≤ x8_1) = true := decide_eq_true c4); clear c4
       by_cases c5 : x8_1 < (l0.length : Int)
       · rw [if_pos c5] at H
         (have c5b0 : decide (x8_1 < (l0.length : Int)) = true := decide_eq_true c5); clear c5
         by_cases c6 : a1 = (rd l0 x8_1)
         · rw [if_pos c6] at H
           (have c6b0 : (a1 == (rd l0 x8_1)) = true := beq_iff_eq.mpr c6); (have c6b1 : (a1 != (rd l0 x8_1)) = false := bne_eq_false_iff_eq.mpr c6); clear c6; obtain rfl := Option.some.inj H; (have p180 : 0 ≤ (x8_1 : Int) := of_decide_eq_true (by first | (with_reducible assumption) | assumption)); (have q180 : x8_1 < (l0.length : Int) := of_decide_eq_true (by first | (with_reducible assumption) | assumption)); obtain ⟨ad180, e180, hx180_0⟩ := Kd.at_int HR0.out x8_1 p180 q180
           cases e180
           replace p180 := eq_true p180; replace q180 := eq_true q180; (go_wp2); go_ret; exact ⟨by first | rfl | (simp; done) | (simp [*]; done), by repeat (first | exact Drawn0.refl _ | apply Drawn0.step)⟩
         · rw [if_neg c6] at H
           (have c6b0 : (a1 == (rd l0 x8_1)) = false := beq_eq_false_iff_ne.mpr c6); (have c6b1 : (a1 != (rd l0 x8_1)) = true := bne_iff_ne.mpr c6); (have H' := q0_4 H); clear H; (have p180 : 0 ≤ (x8_1 : Int) := of_decide_eq_true (by first | (with_reducible assumption) | assumption)); (have q180 : x8_1 < (l0.length : Int) := of_decide_eq_true (by first | (with_reducible assumption) | assumption)); obtain ⟨ad180, e180, hx180_0⟩ := Kd.at_int HR0.out x8_1 p180 q180
           cases e180
           replace p180 := eq_true p180; replace q180 := eq_true q180; (go_wp2); (go_roundg k1)
           case measure => have := HK1.out; omega
           case rel => exact ⟨(wrap64 (x8_1 + 1)), (by first | rfl | (simp; done) | (simp [*]; done)), H', ⟨by have := HK1.out; omega⟩, by repeat (first | exact Drawn0.refl _ | apply Drawn0.step)⟩
       · rw [if_neg c5] at H
         exact absurd H (by simp)
     · rw [if_neg c4] at H
       exact absurd H (by simp)
   · rw [if_neg c3] at H
     (have c3b0 : decide (x8_1 < (l0.length : Int)) = false := decide_eq_false c3); clear c3; obtain rfl := Option.some.inj H; (go_wp2); go_ret; exact ⟨by first | rfl | (simp; done) | (simp [*]; done), by repeat (first | exact Drawn0.refl _ | apply Drawn0.step)⟩
/-! ### slices_Min_int_int: function 141 -/
def slices_Min_int_int.l0 : Nat → List Int → Int → Int → Option (Int)
 | 0, _, _, _ => none
 | k + 1, x0, x3, x4 => if x4 < (x0.length : Int) then (if 0 ≤ x4 then (slices_Min_int_int.l0 k x0 (mn x3 (rd x0 x4)) (wrap64 (x4 + 1))) else (none)) else (some x3)
def slices_Min_int_int.f (k : Nat) (l0 : List Int) : Option (Int) := if (l0.length : Int) < 1 then (none) else (if 0 < (l0.length : Int) then (slices_Min_int_int.l0 k l0 (rd l0 0) 1) else (none))
theorem slices_Min_int_int.mono_l : ∀ k, (∀ y0 y1 y2, LeO (slices_Min_int_int.l0 k y0 y1 y2) (slices_Min_int_int.l0 (k + 1) y0 y1 y2))
 | 0 => fun _ _ _ r h => by simp [slices_Min_int_int.l0] at h
 | k + 1 => by
  have ih0 := slices_Min_int_int.mono_l k
  · intro y0 y1 y2
    unfold slices_Min_int_int.l0
    repeat' first
    | (with_reducible exact ih0 _ _ _)
    | (with_reducible exact LeO.refl _)
    | (with_reducible exact LeO.none _)
    | (with_reducible refine LeO.ite ?_ ?_)
    | (with_reducible refine LeO.bind ?_ (fun _ => ?_))
    | exact ih0 _ _ _
    | exact LeO.none _
    | refine LeO.ite ?_ ?_
    | refine LeO.bind ?_ (fun _ => ?_)
theorem slices_Min_int_int.mono : ∀ a0 k, LeO (slices_Min_int_int.f k a0) (slices_Min_int_int.f (k + 1) a0) := by
 intro a0 k; have ih0 := slices_Min_int_int.mono_l k; unfold slices_Min_int_int.f
 repeat' first
  | (with_reducible exact ih0 _ _ _)
  | (with_reducible exact LeO.refl _)
  | (with_reducible exact LeO.none _)
  | (with_reducible refine LeO.ite ?_ ?_)
  | (with_reducible refine LeO.bind ?_ (fun _ => ?_))
  | exact ih0 _ _ _
  | exact LeO.none _
  | refine LeO.ite ?_ ?_
  | refine LeO.bind ?_ (fun _ => ?_)
set_option maxHeartbeats 8000000 in
set_option maxRecDepth 100000 in
theorem slices_Min_int_int.calls (k : Nat) (A0 : Option Addr) (c0 : Nat) (l0 : List Int) (r : Int) (w : World) (hr0 : Kd.C (Kd.int .i64) w A0 l0.length l0) (hc0 : l0.length ≤ c0) (h : slices_Min_int_int.f k l0 = some r) :
 Calls Try.prog 141 #[.slice A0 l0.length c0] w fun e w' => e = .returned (.int .i64 r) ∧ Below w.heap.size w w' := by
 have HR0 := q0_4 hr0; have HC0 := q0_4 hc0; clear hr0 hc0; have HB := q0_4 (Below.refl w.heap.size w); (have H : (if (l0.length : Int) < 1 then (none) else (if 0 < (l0.length : Int) then (slices_Min_int_int.l0 k l0 (rd l0 0) 1) else (none))) = some r := h); clear h
 by_cases c2 : (l0.length : Int) < 1
 · rw [if_pos c2] at H
   exact absurd H (by simp)
 · rw [if_neg c2] at H
   (have c2b0 : decide ((l0.length : Int) < 1) = false := decide_eq_false c2); (have c2b1 : decide (l0.length < 1) = false := decide_eq_false (by omega)); clear c2
   by_cases c3 : 0 < (l0.length : Int)
   · rw [if_pos c3] at H
     (have c3b0 : decide (0 < (l0.length : Int)) = true := decide_eq_true c3); (have c3b1 : decide (0 < l0.length) = true := decide_eq_true (by omega)); clear c3; (have H' := q0_4 H); clear H; (have p181 : 0 ≤ (0 : Int) := (by omega)); (have q181 : 0 < (l0.length : Int) := of_decide_eq_true (by first | (with_reducible assumption) | assumption)); obtain ⟨ad181, e181, hx181_0⟩ := Kd.at_int HR0.out 0 p181 q181
     cases e181
     (have qi181 : (0 < l0.length) = True := eq_true (by omega)); ((try rw [show ((0 : Int)).toNat = 0 from rfl] at hx181_0)); ((try rw [Addr.add_zero'] at hx181_0)); replace p181 := eq_true p181; replace q181 := eq_true q181; go_enter Try.func141, Try.ntmps141; (go_wp2); (go_loopg [3, 4] k (fun kq v3 v4 w' => ∃ (x3_1 : Int) (x4_1 : Int), v3 = .int .i64 x3_1 ∧ v4 = .int .i64 x4_1 ∧ Aside0 (slices_Min_int_int.l0 kq l0 x3_1 x4_1 = some r) ∧ Aside0 (kq ≤ k) ∧ Aside0 (Below w.heap.size w w')))
     case atStart => exact ⟨(rd l0 0), (1), (by first | rfl | (simp; done) | (simp [*]; done)), (by first | rfl | (simp; done) | (simp [*]; done)), H', ⟨Nat.le_refl _⟩, ⟨by exact (qm_4)⟩⟩
     case round =>
      clear H'; (try clear c1); (try clear p1); (try clear q1); (try clear hx1); (try clear qi1); (try clear c2); (try clear c2b0); (try clear c2b1); (try clear p2); (try clear c3); (try clear c3b0); (try clear c3b1); (try clear hx181_0); (try clear p181); (try clear q181); obtain ⟨x3_1, x4_1, rfl, rfl, HA, HK1, HB⟩ := hrel
      cases gk with
      | zero => exact absurd HA.out (by simp [slices_Min_int_int.l0])
      | succ k1 =>
       have H := HA.out; clear HA; (simp only [slices_Min_int_int.l0] at H)
       by_cases c4 : x4_1 < (l0.length : Int)
       · rw [if_pos c4] at H
         (have c4b0 : decide (x4_1 < (l0.length : Int)) = true := decide_eq_true c4); clear c4
         by_cases c5 : 0 ≤ x4_1
         · rw [if_pos c5] at H
           (have c5b0 : decide (0 ≤ x4_1) = true := decide_eq_true c5); clear c5; obtain ⟨ji6, hji6⟩ : ∃ j_ : Int, (mn x3_1 (rd l0 x4_1)) = j_ := ⟨_, rfl⟩; (replace H : (slices_Min_int_int.l0 k1 l0 ji6 (wrap64 (x4_1 + 1))) = some r := by first | (rw [hji6] at H; exact H) | (simp only [hji6] at H ⊢; exact H)); (have hji6_ : (if (rd l0 x4_1) < x3_1 then (rd l0 x4_1) else x3_1) = ji6 := hji6); (have H' := q0_4 H); clear H; (have p182 : 0 ≤ (x4_1 : Int) := of_decide_eq_true (by first | (with_reducible assumption) | assumption)); (have q182 : x4_1 < (l0.length : Int) := of_decide_eq_true (by first | (with_reducible assumption) | assumption)); obtain ⟨ad182, e182, hx182_0⟩ := Kd.at_int HR0.out x4_1 p182 q182; obtain rfl : ad181 = ad182 := (by injection e182); replace hx182_0 := (HB.out.cell (World.block_lt_of_cell? w _ hx182_0)).trans hx182_0; replace p182 := eq_true p182; replace q182 := eq_true q182; (go_wp2); (go_roundg k1)
           case measure => have := HK1.out; omega
           case rel => exact ⟨(ji6), (wrap64 (x4_1 + 1)), (by first | rfl | (simp; done) | (simp only [← hji6] <;> (first | rfl | simp)) | (simp [*]; done)), (by first | rfl | (simp; done) | (simp [*]; done)), (by first | exact H' | (have H2_ := H'; (try simp only [← hji6] at H2_); (try simp only [← hji6]); exact H2_)), ⟨by have := HK1.out; omega⟩, ⟨by exact (qm_4)⟩⟩
         · rw [if_neg c5] at H
           exact absurd H (by simp)
       · rw [if_neg c4] at H
         (have c4b0 : decide (x4_1 < (l0.length : Int)) = false := decide_eq_false c4); clear c4; obtain rfl := Option.some.inj H; (go_wp2); go_ret; (exact ⟨by first | rfl | (simp [errW_none, errW_some] <;> rfl) | (simp [*, errW_none, errW_some] <;> rfl), by exact (qm_4)⟩)
   · rw [if_neg c3] at H
     exact absurd H (by simp)
/-! ### impl_PositionOf: function 105 -/
def impl_PositionOf.f (k : Nat) (l0_0 : List Int) (a0_1 : Int) : Option (Int) := if (l0_0.length : Int) = 0 then (some 0) else ((slices_Min_int_int.f k l0_0).bind fun t184 => ((slices_Index_int_int.f k l0_0 t184).bind fun t185 => (some t185)))
theorem impl_PositionOf.mono : ∀ a0 a1 k, LeO (impl_PositionOf.f k a0 a1) (impl_PositionOf.f (k + 1) a0 a1) := by
 intro a0 a1 k; unfold impl_PositionOf.f
 repeat' first
  | (with_reducible exact slices_Index_int_int.mono _ _ _)
  | (with_reducible exact slices_Min_int_int.mono _ _)
  | (with_reducible exact LeO.refl _)
  | (with_reducible exact LeO.none _)
  | (with_reducible refine LeO.ite ?_ ?_)
  | (with_reducible refine LeO.bind ?_ (fun _ => ?_))
  | exact slices_Index_int_int.mono _ _ _
  | exact slices_Min_int_int.mono _ _
  | exact LeO.none _
  | refine LeO.ite ?_ ?_
  | refine LeO.bind ?_ (fun _ => ?_)
set_option maxHeartbeats 8000000 in
set_option maxRecDepth 100000 in
theorem impl_PositionOf.calls (k : Nat) (A0_0 : Option Addr) (c0_0 : Nat) (l0_0 : List Int) (a0_1 : Int) (r : Int) (w : World) (hr0_0 : Kd.C (Kd.int .i64) w A0_0 l0_0.length l0_0) (hc0_0 : l0_0.length ≤ c0_0) (h : impl_PositionOf.f k l0_0 a0_1 = some r) :
 Calls Try.prog 105 #[.agg #[.slice A0_0 l0_0.length c0_0, .int .i64 a0_1]] w fun e w' => e = .returned (.int .i64 r) ∧ Below w.heap.size w w' := by
 have hu51 := Try.underlying51; have HR0_0 := q0_4 hr0_0; have HC0_0 := q0_4 hc0_0; clear hr0_0 hc0_0; have HB := q0_4 (Below.refl w.heap.size w); (have H : (if (l0_0.length : Int) = 0 then (some 0) else ((slices_Min_int_int.f k l0_0).bind fun t184 => ((slices_Index_int_int.f k l0_0 t184).bind fun t185 => (some t185)))) = some r := h); clear h
 by_cases c2 : (l0_0.length : Int) = 0
 · rw [if_pos c2] at H
   (have c2b0 : ((l0_0.length : Int) == 0) = true := beq_iff_eq.mpr c2); (have c2b1 : ((l0_0.length : Int) != 0) = false := bne_eq_false_iff_eq.mpr c2); clear c2; obtain rfl := Option.some.inj H; go_enter Try.func105, Try.ntmps105; (go_wp2_with (first | ((with_reducible refine gate_dst (N := 1) rfl ?_); refine box_event ?hg (N := 1) ?hd (cs := #[.slice A0_0 l0_0.length c0_0, .int .i64 a0_1]) (t := 51) ?hr ?_; (case hd => rfl); (case hg => rfl); (case hr => first | (go_simp; done) | (go_simp; rfl)); intro qd hg w3 hbox hb; have n0_ := q0_4 (below_step (qm_4) hb); have n1_ := q0_4 (hbox); have n2_ := q0_4 ((by rw [hg]; exact (below_size (qm_4)) : w.heap.size ≤ qd)); have n3_ := q0_4 ((by rw [hg]; exact (below_size (qm_4)) : w.heap.size ≤ qd)); clear HB; have HB := n0_; have q6 := n1_; have GW183 := n2_; have qw := n3_; clear n0_ n1_ n2_ n3_; clear hb hbox hg; have hcz4_0 : w3.cell? ⟨qd, 0, none⟩ = some (.slice A0_0 l0_0.length c0_0) := (blk_cell q6.out 0).trans rfl; have hcz4_1 : w3.cell? ⟨qd, 1, none⟩ = some (.int .i64 a0_1) := (blk_cell q6.out 1).trans rfl; have hfz4_0 := blk_frozen q6.out 0; have hfz4_1 := blk_frozen q6.out 1))); go_ret; (exact ⟨by first | rfl | (simp [errW_none, errW_some] <;> rfl) | (simp [*, errW_none, errW_some] <;> rfl), by exact (ql_4)⟩)
 · rw [if_neg c2] at H
   (have c2b0 : ((l0_0.length : Int) == 0) = false := beq_eq_false_iff_ne.mpr c2); (have c2b1 : ((l0_0.length : Int) != 0) = true := bne_iff_ne.mpr c2); (have c2b2 : ¬ (l0_0 = []) := fun h_ => c2 (by rw [h_]; rfl)); replace H := Option.bind_eq_some_iff.mp H; obtain ⟨t184, A50, H⟩ := H; replace H : ((slices_Index_int_int.f k l0_0 t184).bind fun t185 => (some t185)) = some r := H; have A5 := q0_4 A50; clear A50; replace H := Option.bind_eq_some_iff.mp H; obtain ⟨t185, A60, H⟩ := H; replace H : (some t185) = some r := H; have A6 := q0_4 A60; clear A60; obtain rfl := Option.some.inj H; go_enter Try.func105, Try.ntmps105; (try go_wp2_with (first | ((with_reducible refine gate_dst (N := 1) rfl ?_); refine box_event ?hg (N := 1) ?hd (cs := #[.slice A0_0 l0_0.length c0_0, .int .i64 a0_1]) (t := 51) ?hr ?_; (case hd => rfl); (case hg => rfl); (case hr => first | (go_simp; done) | (go_simp; rfl)); intro qd hg w7 hbox hb; have n0_ := q0_4 (below_step (qm_4) hb); have n1_ := q0_4 (hbox); have n2_ := q0_4 ((by rw [hg]; exact (below_size (qm_4)) : w.heap.size ≤ qd)); have n3_ := q0_4 ((by rw [hg]; exact (below_size (qm_4)) : w.heap.size ≤ qd)); clear HB; have HB := n0_; have q6 := n1_; have GW183 := n2_; have qw := n3_; clear n0_ n1_ n2_ n3_; clear hb hbox hg; have hcz8_0 : w7.cell? ⟨qd, 0, none⟩ = some (.slice A0_0 l0_0.length c0_0) := (blk_cell q6.out 0).trans rfl; have hcz8_1 : w7.cell? ⟨qd, 1, none⟩ = some (.int .i64 a0_1) := (blk_cell q6.out 1).trans rfl; have hfz8_0 := blk_frozen q6.out 0; have hfz8_1 := blk_frozen q6.out 1))); have n0_ := q0_4 (blk_drew q6.out); have n1_ := q0_4 (below_drew1 HB.out); clear q6 HB; have q6 := n0_; have HB := n1_; clear n0_ n1_; refine start_ (n := 7) (S := fun w' => w'.cell? ⟨qd, 0, none⟩ = some (.slice A0_0 l0_0.length c0_0) ∧ w'.cell? ⟨qd, 1, none⟩ = some (.int .i64 a0_1)) (ds := []) (bq 0 7) (by kernel_rfl) rfl rfl ⟨(blk_cell q6.out 0).trans rfl, (blk_cell q6.out 1).trans rfl⟩ (fun hHeld => ?_); generalize w7.drew = w9 at q6 HB hHeld ⊢; refine pure_ (i := 0) (N := some 7) (v := ?_) (a' := ?_) (bq 1 7) rfl rfl (by kernel_rfl) (fun _ _ _ h => h) (Or.inl ⟨by rfl, ?_⟩) ?_ ?_; rotate_left; (intro w'; go_simp; with_reducible rfl); rotate_left; (exact pb); refine pure_ (i := 2) (N := some 9) (v := ?_) (a' := ?_) (bq 5 7) rfl rfl (by kernel_rfl) (fun _ _ _ h => h) (Or.inl ⟨by rfl, ?_⟩) ?_ ?_; rotate_left; (intro w'; go_simp; with_reducible rfl); rotate_left; (exact pb); refine take_ (i := 1) (N := some 8) (v := ?_) (a' := ?_) (bq 7 7) rfl rfl (by kernel_rfl) (fun _ _ _ h => h) (Or.inl ⟨by rfl, ?_⟩) hHeld ?_ ?_; rotate_left; (rintro w' ⟨s0, s1⟩; go_simp; with_reducible rfl); rotate_left; (exact pb); refine take_ (i := 3) (N := some 10) (v := ?_) (a' := ?_) (bq 15 7) rfl rfl (by kernel_rfl) (fun _ _ _ h => h) (Or.inl ⟨by rfl, ?_⟩) hHeld ?_ ?_; rotate_left; (rintro w' ⟨s0, s1⟩; go_simp; with_reducible rfl); rotate_left; (exact pb)
   refine one_ (i := 4) (N := some 11) (bq 31 7) rfl rfl (by kernel_rfl) (by decide) (fun K hK => ?_); refine goes_ Try.func141 (by kernel_rfl) rfl #[.slice A0_0 l0_0.length c0_0] (by rfl) rfl rfl ma ?_; (with_reducible refine (slices_Min_int_int.calls k _ _ l0_0 t184 _ ?side1 ?side2 A5.out).mono ?_); ((case side1 => exact ca (Kd.C_below HR0_0.out HB.out))); ((case side2 => exact HC0_0.out)); rintro e w10 ⟨rfl, hb⟩; refine ⟨_, rfl, ?_⟩; have n0_ := q0_4 (bb q6.out hb); have n1_ := q0_4 (below_step (ql_4) hb); clear q6 HB; have q6 := n0_; have HB := n1_; clear n0_ n1_; ((try clear hb)); ((try clear hb2)); ((try clear hk)); ((try clear hi)); refine hK.out _ _ ⟨(blk_cell q6.out 0).trans rfl, (blk_cell q6.out 1).trans rfl⟩ (fun hHeld => ?_); clear hK K; refine norm_ (a' := ?_) ?_ ?_; rotate_left; ((show Act.put _ (some 11) _ = _); simp only [Act.put, List.setIfInBounds_toArray, List.set_cons_zero, List.set_cons_succ, i64_w, i32_w]; rfl); refine one_ (i := 5) (N := some 12) (bq 63 7) rfl rfl (by kernel_rfl) (by decide) (fun K hK => ?_); refine goes_ Try.func140 (by kernel_rfl) rfl #[.slice A0_0 l0_0.length c0_0, .int .i64 t184] (by rfl) rfl rfl ma ?_; (with_reducible refine (slices_Index_int_int.calls k _ _ l0_0 t184 t185 _ ?side1 ?side2 A6.out).mono ?_); ((case side1 => exact ca (Kd.C_below HR0_0.out HB.out))); ((case side2 => exact HC0_0.out)); rintro e w' ⟨rfl, ⟨nd, rfl⟩⟩; refine ⟨_, rfl, ?_⟩; refine hK.out _ _ ⟨(blk_cell q6.out 0).trans rfl, (blk_cell q6.out 1).trans rfl⟩ (fun hHeld => ?_); clear hK K; refine norm_ (a' := ?_) ?_ ?_; rotate_left; ((show Act.put _ (some 12) _ = _); simp only [Act.put, List.setIfInBounds_toArray, List.set_cons_zero, List.set_cons_succ, i64_w, i32_w]; rfl); refine pure_ (i := 6) (N := some 2) (v := ?_) (a' := ?_) (bq 127 7) rfl rfl (by kernel_rfl) (fun _ _ _ h => h) (Or.inl ⟨by rfl, ?_⟩) ?_ ?_; rotate_left; (intro w'; go_simp; with_reducible rfl); rotate_left; (exact pb); refine done_ (by kernel_rfl) ?_; (try go_wp2); go_ret; (exact ⟨by first | rfl | (simp [errW_none, errW_some] <;> rfl) | (simp [*, errW_none, errW_some] <;> rfl), by exact (ql_4)⟩)
/-! ### slices_ContainsFunc_int_int: function 132 -/
def inFar (c : Int) : Bool := decide (0 ≤ c ∧ c ≤ 500)
def slices_ContainsFunc_int_int.f (l0 : List Int) : Option Bool := some (l0.any fun c => !inFar c)
theorem inFar_eq (c : Int) : impl_InRange.f c 0 500 = some (inFar c) := by
 unfold impl_InRange.f inFar
 by_cases h1 : 0 ≤ c <;> by_cases h2 : c ≤ 500 <;> simp [h1, h2]
set_option maxHeartbeats 8000000 in
theorem window_1_gives (W : World) (x : Int) : FnGives Try.prog 133 #[] #[.int .i64 x] (.bool (!inFar x)) W := by
 show Calls Try.prog 133 #[.int .i64 x] W _
 have hc := fun w => impl_InRange.calls x 0 500 (inFar x) w (inFar_eq x)
 generalize inFar x = b at hc ⊢; go_enter Try.func133, Try.ntmps133
 cases b <;> (go_wp2_with (go_at_call 77; refine (hc _).mono ?_; rintro e w' ⟨rfl, q, rfl⟩); go_ret; exact ⟨rfl, q, rfl⟩)
theorem slices_ContainsFunc_int_int.calls (A0 : Option Addr) (c0 : Nat) (l0 : List Int) (r : Bool) (w : World) (hr0 : Kd.C (Kd.int .i64) w A0 l0.length l0) (hc0 : l0.length ≤ c0) (h : slices_ContainsFunc_int_int.f l0 = some r) :
 Calls Try.prog 132 #[.slice A0 l0.length c0, .func (.func 133) #[] #[]] w fun e w' => e = .returned (.bool r) ∧ Drawn0 w w' := by
 obtain rfl := Option.some.inj h; (have eg : ∀ args w, (callFunc 133 args).run Try.prog w = .ok (.enter 133 args) w := enters_of Try.func133 (by kernel_rfl) rfl)
 by_cases h0 : l0.length = 0
 · obtain rfl := List.length_eq_zero_iff.1 h0
   refine (AnyE.slices_ContainsFunc_empty Lay.layContainsFunc A0 c0 (.func (.func 133) #[] #[]) w).mono ?_; rintro e w' ⟨rfl, rfl⟩; exact ⟨rfl, Drawn0.refl _⟩
 · obtain ⟨ad, rfl, hcell⟩ := hr0.2.2 (by omega)
   have hs : ad.spot = none := by
    obtain ⟨c, hl, rfl, hu⟩ := hcell 0 l0[0] (List.getElem?_eq_getElem (by omega)); have h1 := hu 0 _ rfl; (simp only [Nat.zero_mul, Nat.zero_add, Addr.add, if_true] at h1); unfold World.cell? at h1; (split at h1)
    · cases hsp : ad.spot with
      | none => rfl
      | some x => rw [hsp] at h1; simp at h1
    · cases h1
   obtain ⟨b, off, g⟩ := ad; (dsimp only at hs); subst hs; refine (AnyE.slices_ContainsFunc Lay.layContainsFunc (Value.int .i64) (fun c => !inFar c) 133 #[] eg b off l0.length c0 l0 w (fun W x _ => window_1_gives W x) (Nat.le_refl _) hr0.2.1 (fun j hj => ?_)).mono ?_
   · obtain ⟨c, hl, rfl, hu⟩ := hcell j l0[j] (List.getElem?_eq_getElem hj)
     have h1 := hu 0 _ rfl; rw [show j * (Kd.int .i64).sz + 0 = j from by show j * 1 + 0 = j; omega] at h1; rw [getElem!_pos l0 j hj, ← h1]; (congr 1); unfold Addr.add
     by_cases hj0 : j = 0
     · subst hj0; simp
     · rw [if_neg hj0]
   · rintro e w' ⟨rfl, q, rfl⟩
     rw [List.take_length]; exact ⟨rfl, ⟨⟨q, rfl⟩⟩⟩
end Go.Proofs.Ytlkcbmcbmanmiaa.PFnExactHearNear
