-- Written for this claim by a program of this repository (wip/tools/print2.py), out of the translation; Lean checks it.
import Derived.Test.YtlkcbmcbmanmiaaPFnExactSamePlacex0
import Derived.Test.YtlkcbmcbmanmiaaPFnExactSamePlacex1
import Derived.Test.YtlkcbmcbmanmiaaPFnExactSamePlacex3
import Derived.Test.YtlkcbmcbmanmiaaPFnExactSamePlacex5
namespace Go.Proofs.Ytlkcbmcbmanmiaa.PFnExactSamePlace
open Go.RowKit Go.Proofs.YtlkcbmcbmanmiaaW.PrintWords Go.Proofs.YtlkcbmcbmanmiaaW.PrintLast Go.Proofs.YtlkcbmcbmanmiaaW.PrintMore
attribute [local go_sem] max2_int min2_int max_two min_two max_three min_three max_four min_four   -- for this text's walks alone
set_option linter.unusedVariables false
set_option linter.unusedSimpArgs false
-- SHORT
theorem qt_6 {p : Prop} (f : p := by repeat (first | (with_reducible first | exact HB.out | apply below_alloc | apply pw_below_drewN | apply below_drew1) | exact HB.out)) : p := f
theorem qq_6 {p : Prop} (f : p := by repeat (first | (with_reducible first | exact HB.out | apply below_alloc | apply pw_below_drewN | apply below_drew1 | refine below_set ?_ z01.out) | exact HB.out)) : p := f
theorem qd_6 {p : Prop} (f : p := by repeat (first | (with_reducible first | exact HB.out | apply below_alloc | apply pw_below_drewN | apply below_drew1 | refine below_set ?_ z01.out | refine below_set ?_ z02.out) | exact HB.out)) : p := f
theorem q8_6 {p : Prop} (f : p := by repeat (first | (with_reducible first | exact HB.out | apply below_alloc | apply pw_below_drewN | apply below_drew1 | refine below_set ?_ z01.out | refine below_set ?_ z02.out | refine below_set ?_ z03.out) | exact HB.out)) : p := f
theorem qf_6 {p : Prop} (f : p := by repeat (first | (with_reducible first | exact HB.out | apply below_alloc | apply pw_below_drewN | apply below_drew1 | refine below_set ?_ z04.out) | exact HB.out)) : p := f
theorem q0_6 {p : Prop} (h : p) : Aside0 p := ⟨h⟩
/-! ### spec_HearAll: function 103 -/
def spec_HearAll.l0 : Nat → List Int → List Int → Int → List Int → Int → Option (List Int × Int)
 | 0, _, _, _, _, _ => none
 | k + 1, x0, x2, x8, x203000, x203001 => if x8 < (x2.length : Int) then (if 0 ≤ x8 then ((spec_StepFollower.f k x0 x203000 x203001 (rd x2 x8)).bind fun bt204 => (spec_HearAll.l0 k x0 x2 (wrap64 (x8 + 1)) bt204.1 bt204.2)) else (none)) else (some (x203000, x203001))
def spec_HearAll.f (k : Nat) (l0 : List Int) (l1_0 : List Int) (a1_1 : Int) (l2 : List Int) : Option (List Int × Int) := (spec_l17Copy.f l1_0 a1_1).bind fun bt198 => (spec_HearAll.l0 k l0 l2 0 bt198.1 bt198.2)
theorem spec_HearAll.mono_l : ∀ k, (∀ y0 y1 y2 y3 y4, LeO (spec_HearAll.l0 k y0 y1 y2 y3 y4) (spec_HearAll.l0 (k + 1) y0 y1 y2 y3 y4))
 | 0 => fun _ _ _ _ _ r h => by simp [spec_HearAll.l0] at h
 | k + 1 => by
  have ih0 := spec_HearAll.mono_l k
  · intro y0 y1 y2 y3 y4
    unfold spec_HearAll.l0
    repeat' first
    | (with_reducible exact ih0 _ _ _ _ _)
    | (with_reducible exact spec_StepFollower.mono _ _ _ _ _)
    | (with_reducible exact LeO.refl _)
    | (with_reducible exact LeO.none _)
    | (with_reducible refine LeO.ite ?_ ?_)
    | (with_reducible refine LeO.bind ?_ (fun _ => ?_))
    | exact ih0 _ _ _ _ _
    | exact spec_StepFollower.mono _ _ _ _ _
    | exact LeO.none _
    | refine LeO.ite ?_ ?_
    | refine LeO.bind ?_ (fun _ => ?_)
theorem spec_HearAll.mono : ∀ a0 a1 a2 a3 k, LeO (spec_HearAll.f k a0 a1 a2 a3) (spec_HearAll.f (k + 1) a0 a1 a2 a3) := by
 intro a0 a1 a2 a3 k; have ih0 := spec_HearAll.mono_l k; unfold spec_HearAll.f
 repeat' first
  | (with_reducible exact ih0 _ _ _ _ _)
  | (with_reducible exact spec_StepFollower.mono _ _ _ _ _)
  | (with_reducible exact LeO.refl _)
  | (with_reducible exact LeO.none _)
  | (with_reducible refine LeO.ite ?_ ?_)
  | (with_reducible refine LeO.bind ?_ (fun _ => ?_))
  | exact ih0 _ _ _ _ _
  | exact spec_StepFollower.mono _ _ _ _ _
  | exact LeO.none _
  | refine LeO.ite ?_ ?_
  | refine LeO.bind ?_ (fun _ => ?_)
def spec_HearAll.T5 : Bool × List (List Nat × List Nat) := (true, [([], []), ([], []), ([], []), ([], []), ([2, 3], [2, 3]), ([4], [4]), ([0, 1, 5], [0, 1, 5]), ([6, 6, 0, 1, 2, 3, 4, 5, 6], [6])])
def spec_HearAll.B5 : List Nat := [0, 0, 0, 0, 12, 28, 63, 127]
theorem spec_HearAll.tab5 : rtab .any (opsOf Try.f103 5) = spec_HearAll.T5 := by kernel_rfl
theorem spec_HearAll.bits5 : waitsOk spec_HearAll.T5.2 spec_HearAll.B5 = true := by kernel_rfl
set_option maxHeartbeats 8000000 in
set_option maxRecDepth 100000 in
theorem spec_HearAll.calls (k : Nat) (A0 : Option Addr) (c0 : Nat) (l0 : List Int) (A1_0 : Option Addr) (c1_0 : Nat) (l1_0 : List Int) (a1_1 : Int) (A2 : Option Addr) (c2 : Nat) (l2 : List Int) (r1 : List Int) (r2 : Int) (w : World) (hr0 : Kd.C (Kd.int .i64) w A0 l0.length l0) (hc0 : l0.length ≤ c0) (hr1_0 : Kd.C (Kd.int .i64) w A1_0 l1_0.length l1_0) (hc1_0 : l1_0.length ≤ c1_0) (hr2 : Kd.C (Kd.int .i64) w A2 l2.length l2) (hc2 : l2.length ≤ c2) (h : spec_HearAll.f k l0 l1_0 a1_1 l2 = some (r1, r2)) :
 Calls Try.prog 103 #[.slice A0 l0.length c0, .agg #[.slice A1_0 l1_0.length c1_0, .int .i64 a1_1], .slice A2 l2.length c2] w fun e w' => ∃ v0_ : Value, e = .returned (.agg #[v0_, .int .i64 r2]) ∧ Kd.R (Kd.int .i64) 3 w' w.heap.size (fun _ => True) v0_ r1 ∧ Below w.heap.size w w' := by
 have hu51 := Try.underlying51; have HR0 := q0_6 hr0; have HC0 := q0_6 hc0; clear hr0 hc0; have HR1_0 := q0_6 hr1_0; have HC1_0 := q0_6 hc1_0; clear hr1_0 hc1_0; have HR2 := q0_6 hr2; have HC2 := q0_6 hc2; clear hr2 hc2; have HB := q0_6 (Below.refl w.heap.size w); (have H : ((spec_l17Copy.f l1_0 a1_1).bind fun bt198 => (spec_HearAll.l0 k l0 l2 0 bt198.1 bt198.2)) = some (r1, r2) := h); clear h; replace H := Option.bind_eq_some_iff.mp H; obtain ⟨⟨t198, t201⟩, A40, H⟩ := H; replace H : (spec_HearAll.l0 k l0 l2 0 t198 t201) = some (r1, r2) := H; have A4 := q0_6 A40; clear A40; (have H' := q0_6 H); clear H; go_enter Try.func103, Try.ntmps103
 (go_wp2_with (first | ((with_reducible refine gate_dst (N := 4) rfl ?_); refine box_event ?hg (N := 4) ?hd (cs := #[.slice A1_0 l1_0.length c1_0, .int .i64 a1_1]) (t := 51) ?hr ?_; (case hd => rfl); (case hg => rfl); (case hr => first | (go_simp; done) | (go_simp; rfl)); intro ql hg w5 hbox hb; have n0_ := q0_6 (below_step (qt_6) hb); have n1_ := q0_6 (hbox); have n2_ := q0_6 ((by rw [hg]; exact (below_size (qt_6)) : w.heap.size ≤ ql)); have n3_ := q0_6 ((by rw [hg]; exact (below_size (qt_6)) : w.heap.size ≤ ql)); clear HB; have HB := n0_; have q6 := n1_; have GW196 := n2_; have z01 := n3_; clear n0_ n1_ n2_ n3_; clear hb hbox hg) | ((with_reducible refine gate_dst (N := 6) rfl ?_); refine box_event ?hg (N := 6) ?hd (cs := #[.slice none 0 0, .int .i64 0]) (t := 51) ?hr ?_; (case hd => rfl); (case hg => rfl); (case hr => first | (go_simp; done) | (go_simp; rfl)); intro qg hg w6 hbox hb; have n0_ := q0_6 (bb q6.out hb); have n1_ := q0_6 (below_step (qq_6) hb); have n2_ := q0_6 (hbox); have n3_ := q0_6 ((by rw [hg]; exact (below_size (qq_6)) : w.heap.size ≤ qg)); have n4_ := q0_6 ((by rw [hg]; exact (below_size (qq_6)) : w.heap.size ≤ qg)); have n5_ := q0_6 ((by rw [hg]; exact Nat.ne_of_lt (bl q6.out) : ql ≠ qg)); have n6_ := q0_6 ((by rw [hg]; exact Nat.ne_of_gt (bl q6.out) : qg ≠ ql)); clear q6; clear HB; have q6 := n0_; have HB := n1_; have q7 := n2_; have GW197 := n3_; have z02 := n4_; have qm := n5_; have qn := n6_; clear n0_ n1_ n2_ n3_ n4_ n5_ n6_; clear hb hbox hg; have hnb7 := qm.out; have hnc7 := qn.out; have hcz8_0 : w6.cell? ⟨ql, 0, none⟩ = some (.slice A1_0 l1_0.length c1_0) := (blk_cell q6.out 0).trans rfl; have hcz8_1 : w6.cell? ⟨ql, 1, none⟩ = some (.int .i64 a1_1) := (blk_cell q6.out 1).trans rfl; have hfz8_0 := blk_frozen q6.out 0; have hfz8_1 := blk_frozen q6.out 1) | ((with_reducible refine gate_callee (f := 83) rfl ?_); refine goesL_ (some 10) rfl rfl Try.func83 (by kernel_rfl) rfl #[.agg #[.slice A1_0 l1_0.length c1_0, .int .i64 a1_1]] rfl ma ?_; (with_reducible refine (spec_l17Copy.calls _ _ l1_0 a1_1 t198 t201 _ ?side1 ?side2 A4.out).mono ?_); (case side1 => exact ca (Kd.C_below HR1_0.out HB.out)); (case side2 => exact HC1_0.out); rintro e w9 ⟨v199, rfl, ho0, hb⟩; refine ⟨_, rfl, ?_⟩; have n0_ := q0_6 (Kd.R_lower ho0 (below_size (qd_6))); have n1_ := q0_6 (bb q6.out hb); have n2_ := q0_6 (bb q7.out hb); have n3_ := q0_6 (below_step (qd_6) hb); clear q6; clear q7; clear HB; have qp := n0_; have q6 := n1_; have q7 := n2_; have HB := n3_; clear n0_ n1_ n2_ n3_; (try clear hb); (try clear hb2); (try clear hk); (try clear hi); (try clear ho0)) | ((with_reducible refine gate_dst (N := 7) rfl ?_); refine box_event ?hg (N := 7) ?hd (cs := #[.slice none 0 0, .int .i64 0]) (t := 51) ?hr ?_; (case hd => rfl); (case hg => rfl); (case hr => first | (go_simp; done) | (go_simp; rfl)); intro qb hg w10 hbox hb; have n0_ := q0_6 (Kd.R_below (ra qp.out) hb); have n1_ := q0_6 (bb q6.out hb); have n2_ := q0_6 (bb q7.out hb); have n3_ := q0_6 (below_step (qd_6) hb); have n4_ := q0_6 (hbox); have n5_ := q0_6 ((by rw [hg]; exact (below_size (qd_6)) : w.heap.size ≤ qb)); have n6_ := q0_6 ((by rw [hg]; exact (below_size (qd_6)) : w.heap.size ≤ qb)); have n7_ := q0_6 ((by rw [hg]; exact Nat.ne_of_lt (bl q6.out) : ql ≠ qb)); have n8_ := q0_6 ((by rw [hg]; exact Nat.ne_of_gt (bl q6.out) : qb ≠ ql)); have n9_ := q0_6 ((by rw [hg]; exact Nat.ne_of_lt (bl q7.out) : qg ≠ qb)); have n10_ := q0_6 ((by rw [hg]; exact Nat.ne_of_gt (bl q7.out) : qb ≠ qg)); clear qp; clear q6; clear q7; clear HB; have qp := n0_; have q6 := n1_; have q7 := n2_; have HB := n3_; have q5 := n4_; have GW202 := n5_; have z03 := n6_; have q9 := n7_; have qh := n8_; have qa := n9_; have qi := n10_; clear n0_ n1_ n2_ n3_ n4_ n5_ n6_ n7_ n8_ n9_ n10_; clear hb hbox hg; obtain ⟨qj, qk, eo11⟩ := Kd.R_slice qp.out; subst eo11; have hnb12 := qh.out; have hnc12 := q9.out; have hnb13 := qi.out; have hnc13 := qa.out; have hcz14_0 : w10.cell? ⟨qb, 0, none⟩ = some (.slice none 0 0) := (blk_cell q5.out 0).trans rfl; have hcz14_1 : w10.cell? ⟨qb, 1, none⟩ = some (.int .i64 0) := (blk_cell q5.out 1).trans rfl; have hfz14_0 := blk_frozen q5.out 0; have hfz14_1 := blk_frozen q5.out 1)))
 (go_loopg [8] k (fun kq v8 w' => ∃ (x8_1 : Int) (x203000_1 : List Int) (x203001_1 : Int) (u203000 : Value), v8 = .int .i64 x8_1 ∧ Aside0 (spec_HearAll.l0 kq l0 l2 x8_1 x203000_1 x203001_1 = some (r1, r2)) ∧ Aside0 (kq ≤ k) ∧ Aside0 (Kd.R (Kd.int .i64) 3 w' w.heap.size (fun _ => True) u203000 x203000_1) ∧ Aside0 (w'.heap[ql]? = some (.cells #[(.slice A1_0 l1_0.length c1_0), .int .i64 a1_1] 51 (0, 0))) ∧ Aside0 (w'.heap[qg]? = some (.cells #[(.slice none 0 0), .int .i64 0] 51 (0, 0))) ∧ Aside0 (w'.heap[qb]? = some (.cells #[u203000, .int .i64 x203001_1] 51 (0, 0))) ∧ Aside0 (Below w.heap.size w w')))
 case atStart => exact ⟨(0), (t198), (t201), (.slice qj t198.length qk), (by first | rfl | (simp; done) | (simp [*]; done)), H', ⟨Nat.le_refl _⟩, ⟨by refine ra ?_; exact Kd.R_mono (Kd.R_far (p := ⟨qb, 1, none⟩) (Kd.R_far (p := ⟨qb, 0, none⟩) (Kd.R_types qp.out q5.out (by decide)) (fun _ hk => hk.2) (.slice qj t198.length qk)) (fun _ hk => hk.2) (.int .i64 t201)) (fun _ hk => trivial)⟩, ⟨by refine ba ?_; refine blk_far ?_ q9.out _; refine ba ?_; refine blk_far ?_ q9.out _; refine ba ?_; exact q6.out⟩, ⟨by refine ba ?_; refine blk_far ?_ qa.out _; refine ba ?_; refine blk_far ?_ qa.out _; refine ba ?_; exact q7.out⟩, ⟨by refine ba ?_; refine blk_put (cs := #[.slice qj t198.length qk, .int .i64 0]) ?_ 1 _ rfl; refine ba ?_; refine blk_put (cs := #[.slice none 0 0, .int .i64 0]) ?_ 0 _ rfl; refine ba ?_; exact q5.out⟩, ⟨by exact (q8_6)⟩⟩
 case round =>
  clear H'; (try clear c1); (try clear c2); (try clear p2); (try clear c7); (try clear c8); (try clear c10); (try clear c12); (try clear c13); (try clear hcz14_0); (try clear hcz14_1); (try clear hcz8_0); (try clear hcz8_1); (try clear hfz14_0); (try clear hfz14_1); (try clear hfz8_0); (try clear hfz8_1); obtain ⟨x8_1, x203000_1, x203001_1, u203000, rfl, HA, HK1, q3, q6, q7, q5, HB⟩ := hrel
  cases gk with
  | zero => exact absurd HA.out (by simp [spec_HearAll.l0])
  | succ k1 =>
   have H := HA.out; clear HA; (simp only [spec_HearAll.l0] at H)
   by_cases c15 : x8_1 < (l2.length : Int)
   · rw [if_pos c15] at H
     (have c15b0 : decide (x8_1 < (l2.length : Int)) = true := decide_eq_true c15); clear c15
     by_cases c16 : 0 ≤ x8_1
     · rw [if_pos c16] at H
       (have c16b0 : decide (0 ≤ x8_1) = true := decide_eq_true c16); clear c16; replace H := Option.bind_eq_some_iff.mp H; obtain ⟨⟨t204, t207⟩, A170, H⟩ := H; replace H : (spec_HearAll.l0 k1 l0 l2 (wrap64 (x8_1 + 1)) t204 t207) = some (r1, r2) := H; have A17 := q0_6 A170; clear A170; (have H' := q0_6 H); clear H; (try go_wp2); have n0_ := q0_6 (Kd.R_drew q3.out); have n1_ := q0_6 (blk_drew q6.out); have n2_ := q0_6 (blk_drew q7.out); have n3_ := q0_6 (blk_drew q5.out); have n4_ := q0_6 (below_drew1 HB.out); clear q3 q6 q7 q5 HB; have q3 := n0_; have q6 := n1_; have q7 := n2_; have q5 := n3_; have HB := n4_; clear n0_ n1_ n2_ n3_ n4_; (have p203 : 0 ≤ (x8_1 : Int) := of_decide_eq_true (by first | (with_reducible assumption) | assumption)); (have q203 : x8_1 < (l2.length : Int) := of_decide_eq_true (by first | (with_reducible assumption) | assumption)); obtain ⟨ad203, e203, hx203_0⟩ := Kd.at_int HR2.out x8_1 p203 q203; have hw203_0 := hx203_0
       cases e203
       replace hx203_0 := (HB.out.cell (World.block_lt_of_cell? w _ hx203_0)).trans hx203_0; replace p203 := eq_true p203; replace q203 := eq_true q203; obtain ⟨qr, qs, eo19⟩ := Kd.R_slice q3.out; ((first | subst eo19 | (injection eo19 with f1_ f2_ f3_; have f4_ := f1_.symm; have f5_ := f3_.symm; clear f1_ f2_ f3_; subst f4_; subst f5_))); refine start_ (n := 8) (S := fun w' => w'.cell? ⟨qb, 0, none⟩ = some (.slice qr x203000_1.length qs) ∧ w'.cell? ⟨qb, 1, none⟩ = some (.int .i64 x203001_1) ∧ w'.cell? (ad203.add (x8_1).toNat) = some (.int .i64 (rd l2 x8_1))) (ds := [7]) (bq 0 8) (by kernel_rfl) rfl rfl ⟨(blk_cell q5.out 0).trans rfl, (blk_cell q5.out 1).trans rfl, ((HB.out.cell (World.block_lt_of_cell? w _ hw203_0)).trans hw203_0)⟩ (fun hHeld => ?_); refine with_tabW spec_HearAll.tab5 spec_HearAll.bits5 (fun HT_ HW_ => ?_); generalize wr.drew = w18 at q3 q6 q7 q5 HB hx203_0 hHeld ⊢; refine pure_ (i := 0) (N := some 17) (v := ?_) (a' := ?_) (bq 1 8) rfl rfl (any_of HT_.out (by kernel_rfl)) (fun _ _ _ h => h) (Or.inl ⟨by rfl, ?_⟩) ?_ ?_; rotate_left; (intro w'; go_simp; with_reducible rfl); rotate_left; (exact pb); refine pure_ (i := 2) (N := some 19) (v := ?_) (a' := ?_) (bq 5 8) rfl rfl (any_of HT_.out (by kernel_rfl)) (fun _ _ _ h => h) (Or.inl ⟨by rfl, ?_⟩) ?_ ?_; rotate_left; (intro w'; go_simp; with_reducible rfl); rotate_left; (exact pb); refine pure_ (i := 3) (N := some 20) (v := ?_) (a' := ?_) (bq 13 8) rfl rfl (any_of HT_.out (by kernel_rfl)) (fun _ _ _ h => h) (Or.inl ⟨by rfl, ?_⟩) ?_ ?_; rotate_left; (intro w'; go_simp; with_reducible rfl); rotate_left; (exact pb); refine pure_ (i := 4) (N := some 21) (v := ?_) (a' := ?_) (bq 29 8) rfl rfl (any_of HT_.out (by kernel_rfl)) (fun _ _ _ h => h) (Or.inl ⟨by rfl, ?_⟩) ?_ ?_; rotate_left; (intro w'; go_simp; with_reducible rfl); rotate_left; (exact pb); refine take_ (i := 1) (N := some 18) (v := ?_) (a' := ?_) (bq 31 8) rfl rfl (take_ofW HT_.out HW_.out (by kernel_rfl)) (fun _ _ _ h => h) (Or.inl ⟨by rfl, ?_⟩) hHeld ?_ ?_; rotate_left; (rintro w' ⟨s0, s1, s2⟩; go_simp; with_reducible rfl); rotate_left; (exact pb); refine take_ (i := 5) (N := some 22) (v := ?_) (a' := ?_) (bq 63 8) rfl rfl (take_ofW HT_.out HW_.out (by kernel_rfl)) (fun _ _ _ h => h) (Or.inl ⟨by rfl, ?_⟩) hHeld ?_ ?_; rotate_left; (rintro w' ⟨s0, s1, s2⟩; go_simp; with_reducible rfl); rotate_left; (exact pb); refine one_ (i := 6) (N := some 23) (bq 127 8) rfl rfl (one_of HT_.out (by kernel_rfl)) (by decide) (fun K hK => ?_); refine goes_ Try.func109 (by kernel_rfl) rfl #[.slice A0 l0.length c0, .agg #[.slice qr x203000_1.length qs, .int .i64 x203001_1], .int .i64 (rd l2 x8_1)] (by rfl) rfl rfl ma ?_; (with_reducible refine (spec_StepFollower.calls k1 _ _ l0 _ _ x203000_1 x203001_1 (rd l2 x8_1) t204 t207 _ ?side1 ?side2 ?side3 ?side4 A17.out).mono ?_); ((case side1 => exact ca (Kd.C_below HR0.out HB.out))); ((case side2 => exact HC0.out))
       ((case side3 => exact ca (Kd.R_reads' q3.out).2.2)); ((case side4 => exact (Kd.R_reads' q3.out).2.1)); rintro e w20 ⟨v205, rfl, ho0, hb⟩; refine ⟨_, rfl, ?_⟩; have n0_ := q0_6 (Kd.R_elder' (ra q3.out) (Kd.R_base ho0) hb); have n1_ := q0_6 (Kd.R_lower (Kd.R_new' ho0 (Kd.R_lt (ra q3.out))) (below_size (q8_6))); have n2_ := q0_6 (bb q6.out hb); have n3_ := q0_6 (bb q7.out hb); have n4_ := q0_6 (bb q5.out hb); have n5_ := q0_6 (below_step (q8_6) hb); clear q3 q6 q7 q5 HB; have q3 := n0_; have qu := n1_; have q6 := n2_; have q7 := n3_; have q5 := n4_; have HB := n5_; clear n0_ n1_ n2_ n3_ n4_ n5_; ((try clear hb)); ((try clear hb2)); ((try clear hk)); ((try clear hi)); ((try clear ho0)); obtain ⟨qv, qw, eo21⟩ := Kd.R_slice qu.out; ((first | subst eo21 | (injection eo21 with f1_ f2_ f3_; have f4_ := f1_.symm; have f5_ := f3_.symm; clear f1_ f2_ f3_; subst f4_; subst f5_))); refine hK.out _ _ ⟨(blk_cell q5.out 0).trans rfl, (blk_cell q5.out 1).trans rfl, ((HB.out.cell (World.block_lt_of_cell? w _ hw203_0)).trans hw203_0)⟩ (fun hHeld => ?_); clear hK K; refine norm_ (a' := ?_) ?_ ?_; rotate_left; ((show Act.put _ (some 23) _ = _); simp only [Act.put, List.setIfInBounds_toArray, List.set_cons_zero, List.set_cons_succ, i64_w, i32_w]; rfl); refine last_ (i := 7) (N := none) (bq 255 8) rfl rfl (one_of HT_.out (by kernel_rfl)) (by decide) (fun K hK => ?_); (have hs22 : w20.cell? ⟨qb, 0, none⟩ = some (.slice qr x203000_1.length qs) := (blk_cell q5.out 0).trans rfl); have hfs22 := blk_frozen q5.out 0; have hns22_0 := q9.out; have hns22_1 := qa.out; have hms22_0 := qh.out; have hms22_1 := qi.out; (have hs23 : w20.cell? ⟨qb, 1, none⟩ = some (.int .i64 x203001_1) := (blk_cell q5.out 1).trans rfl); have hfs23 := blk_frozen q5.out 1; have hns23_0 := q9.out; have hns23_1 := qa.out; have hms23_0 := qh.out; have hms23_1 := qi.out; refine skip_ (w1 := ?_) (by rfl) rfl ?_ ?_; rotate_left; (go_simp; rfl); refine hK.out _ _ ?_; clear hK K; refine done_ (done_of HT_.out (by kernel_rfl)) ?_; (try go_wp2); (go_roundg k1)
       case measure => have := HK1.out; omega
       case rel => exact ⟨(wrap64 (x8_1 + 1)), (t204), (t207), (.slice qv t204.length qw), (by first | rfl | (simp; done) | (simp [*]; done)), H', ⟨by have := HK1.out; omega⟩, ⟨by refine ra ?_; exact Kd.R_mono (Kd.R_far (p := ⟨qb, 1, none⟩) (Kd.R_far (p := ⟨qb, 0, none⟩) (Kd.R_types qu.out q5.out (by decide)) (fun _ hk => hk.2) (.slice qv t204.length qw)) (fun _ hk => hk.2) (.int .i64 t207)) (fun _ hk => trivial)⟩, ⟨by refine ba ?_; refine blk_far ?_ q9.out _; refine ba ?_; refine blk_far ?_ q9.out _; refine ba ?_; exact q6.out⟩, ⟨by refine ba ?_; refine blk_far ?_ qa.out _; refine ba ?_; refine blk_far ?_ qa.out _; refine ba ?_; exact q7.out⟩, ⟨by refine ba ?_; refine blk_put (cs := #[.slice qv t204.length qw, .int .i64 x203001_1]) ?_ 1 _ rfl; refine ba ?_; refine blk_put (cs := #[.slice qr x203000_1.length qs, .int .i64 x203001_1]) ?_ 0 _ rfl; refine ba ?_; exact q5.out⟩, ⟨by exact (q8_6)⟩⟩
     · rw [if_neg c16] at H
       exact absurd H (by simp)
   · rw [if_neg c15] at H
     (have c15b0 : decide (x8_1 < (l2.length : Int)) = false := decide_eq_false c15); clear c15; (simp only [Option.some.injEq, Prod.mk.injEq] at H); obtain ⟨rfl, rfl⟩ := H; have hnb24 := qh.out; have hnc24 := q9.out; have hnb25 := qi.out; have hnc25 := qa.out; (have hcz26_0 : wr.cell? ⟨qb, 0, none⟩ = some (u203000) := (blk_cell q5.out 0).trans rfl); (have hcz26_1 : wr.cell? ⟨qb, 1, none⟩ = some (.int .i64 x203001_1) := (blk_cell q5.out 1).trans rfl); have hfz26_0 := blk_frozen q5.out 0; have hfz26_1 := blk_frozen q5.out 1; obtain ⟨qx, qy, eo27⟩ := Kd.R_slice q3.out; subst eo27; have hnb28 := qn.out; have hnc28 := qm.out; (have hcz29_0 : wr.cell? ⟨qg, 0, none⟩ = some (.slice none 0 0) := (blk_cell q7.out 0).trans rfl); (have hcz29_1 : wr.cell? ⟨qg, 1, none⟩ = some (.int .i64 0) := (blk_cell q7.out 1).trans rfl); have hfz29_0 := blk_frozen q7.out 0; have hfz29_1 := blk_frozen q7.out 1; (go_wp2); refine bodyPost_ret (results_cell_row rfl _ _ qg 51 #[.slice qx x203000_1.length qy, .int .i64 x203001_1] (0, 0) _ rfl (by refine ba ?_; refine blk_put (cs := #[.slice qx x203000_1.length qy, .int .i64 0]) ?_ 1 _ rfl; refine ba ?_; refine blk_put (cs := #[.slice none 0 0, .int .i64 0]) ?_ 0 _ rfl; refine ba ?_; exact q7.out) Try.underlying51 rfl (by kernel_rfl)) rfl ?_; (exact ⟨_, by first | rfl | (simp [errW_none, errW_some] <;> rfl) | (simp [*, errW_none, errW_some] <;> rfl), by refine ra ?_; exact Kd.R_mono (Kd.R_far (p := ⟨qg, 1, none⟩) (Kd.R_far (p := ⟨qg, 0, none⟩) (Kd.R_types q3.out q7.out (by decide)) (fun _ hk => hk.2) (.slice qx x203000_1.length qy)) (fun _ hk => hk.2) (.int .i64 x203001_1)) (fun _ hk => trivial), by exact (q8_6)⟩)
/-! ### spec_SamePlace: function 53 -/
def spec_SamePlace.f (k : Nat) (l0 : List Int) (l1 : List Int) (a2 : Int) : Option (Bool) := (spec_StartFollower.f k l0).bind fun bt208 => ((spec_HearNear.f k l0 bt208.1 bt208.2.1 l1 a2).bind fun bt214 => ((spec_PositionOf.f k bt214.1 bt214.2).bind fun t218 => ((spec_HearAll.f k l0 bt208.1 bt208.2.1 l1).bind fun bt219 => ((spec_PositionOf.f k bt219.1 bt219.2).bind fun t223 => (some (t218 == t223))))))
theorem spec_SamePlace.mono : ∀ a0 a1 a2 k, LeO (spec_SamePlace.f k a0 a1 a2) (spec_SamePlace.f (k + 1) a0 a1 a2) := by
 intro a0 a1 a2 k; unfold spec_SamePlace.f
 repeat' first
  | (with_reducible exact spec_HearAll.mono _ _ _ _ _)
  | (with_reducible exact spec_HearNear.mono _ _ _ _ _ _)
  | (with_reducible exact spec_PositionOf.mono _ _ _)
  | (with_reducible exact spec_StartFollower.mono _ _)
  | (with_reducible exact LeO.refl _)
  | (with_reducible exact LeO.none _)
  | (with_reducible refine LeO.ite ?_ ?_)
  | (with_reducible refine LeO.bind ?_ (fun _ => ?_))
  | exact spec_HearAll.mono _ _ _ _ _
  | exact spec_HearNear.mono _ _ _ _ _ _
  | exact spec_PositionOf.mono _ _ _
  | exact spec_StartFollower.mono _ _
  | exact LeO.none _
  | refine LeO.ite ?_ ?_
  | refine LeO.bind ?_ (fun _ => ?_)
def spec_SamePlace.T2 : Bool × List (List Nat × List Nat) := (true, [([], []), ([], []), ([], []), ([], []), ([0, 1, 2, 3], [0, 1, 2, 3]), ([4, 4], [4]), ([], []), ([], []), ([], []), ([6, 7, 8, 5], [6, 7, 8]), ([9, 9], [9]), ([5, 10], [5, 10]), ([11, 10, 0, 1, 2, 3, 4, 5, 6, 7, 8, 9, 10, 11], [11])])
def spec_SamePlace.B2 : List Nat := [0, 0, 0, 0, 15, 31, 0, 0, 0, 511, 1023, 2047, 4095]
theorem spec_SamePlace.tab2 : rtab .any (opsOf Try.f53 2) = spec_SamePlace.T2 := by kernel_rfl
theorem spec_SamePlace.bits2 : waitsOk spec_SamePlace.T2.2 spec_SamePlace.B2 = true := by kernel_rfl
set_option maxHeartbeats 8000000 in
set_option maxRecDepth 100000 in
theorem spec_SamePlace.calls (k : Nat) (A0 : Option Addr) (c0 : Nat) (l0 : List Int) (A1 : Option Addr) (c1 : Nat) (l1 : List Int) (a2 : Int) (r : Bool) (w : World) (hr0 : Kd.C (Kd.int .i64) w A0 l0.length l0) (hc0 : l0.length ≤ c0) (hr1 : Kd.C (Kd.int .i64) w A1 l1.length l1) (hc1 : l1.length ≤ c1) (h : spec_SamePlace.f k l0 l1 a2 = some r) :
 Calls Try.prog 53 #[.slice A0 l0.length c0, .slice A1 l1.length c1, .int .i64 a2] w fun e w' => e = .returned (.bool r) ∧ Below w.heap.size w w' := by
 have hu51 := Try.underlying51; have HR0 := q0_6 hr0; have HC0 := q0_6 hc0; clear hr0 hc0; have HR1 := q0_6 hr1; have HC1 := q0_6 hc1; clear hr1 hc1; have HB := q0_6 (Below.refl w.heap.size w); (have H : ((spec_StartFollower.f k l0).bind fun bt208 => ((spec_HearNear.f k l0 bt208.1 bt208.2.1 l1 a2).bind fun bt214 => ((spec_PositionOf.f k bt214.1 bt214.2).bind fun t218 => ((spec_HearAll.f k l0 bt208.1 bt208.2.1 l1).bind fun bt219 => ((spec_PositionOf.f k bt219.1 bt219.2).bind fun t223 => (some (t218 == t223))))))) = some r := h); clear h; replace H := Option.bind_eq_some_iff.mp H; obtain ⟨⟨t208, t211, t212⟩, A40, H⟩ := H; replace H : ((spec_HearNear.f k l0 t208 t211 l1 a2).bind fun bt214 => ((spec_PositionOf.f k bt214.1 bt214.2).bind fun t218 => ((spec_HearAll.f k l0 t208 t211 l1).bind fun bt219 => ((spec_PositionOf.f k bt219.1 bt219.2).bind fun t223 => (some (t218 == t223)))))) = some r := H; have A4 := q0_6 A40; clear A40; replace H := Option.bind_eq_some_iff.mp H; obtain ⟨⟨t214, t217⟩, A50, H⟩ := H; replace H : ((spec_PositionOf.f k t214 t217).bind fun t218 => ((spec_HearAll.f k l0 t208 t211 l1).bind fun bt219 => ((spec_PositionOf.f k bt219.1 bt219.2).bind fun t223 => (some (t218 == t223))))) = some r := H; have A5 := q0_6 A50; clear A50; replace H := Option.bind_eq_some_iff.mp H; obtain ⟨t218, A60, H⟩ := H; replace H : ((spec_HearAll.f k l0 t208 t211 l1).bind fun bt219 => ((spec_PositionOf.f k bt219.1 bt219.2).bind fun t223 => (some (t218 == t223)))) = some r := H; have A6 := q0_6 A60; clear A60; replace H := Option.bind_eq_some_iff.mp H; obtain ⟨⟨t219, t222⟩, A70, H⟩ := H; replace H : ((spec_PositionOf.f k t219 t222).bind fun t223 => (some (t218 == t223))) = some r := H; have A7 := q0_6 A70; clear A70; replace H := Option.bind_eq_some_iff.mp H; obtain ⟨t223, A80, H⟩ := H; replace H : (some (t218 == t223)) = some r := H; have A8 := q0_6 A80; clear A80; obtain rfl := Option.some.inj H; go_enter Try.func53, Try.ntmps53
 (try go_wp2_with (first | ((with_reducible refine gate_callee (f := 102) rfl ?_); refine goesL_ (some 11) rfl rfl Try.func102 (by kernel_rfl) rfl #[.slice A0 l0.length c0] rfl ma ?_; (with_reducible refine (spec_StartFollower.calls k _ _ l0 t208 t211 t212 _ ?side1 ?side2 A4.out).mono ?_); (case side1 => repeat (first | exact HR0.out | (with_reducible refine Kd.C_alloc ?_ _) | (with_reducible refine Kd.C_drewN ?_ _) | (with_reducible refine Kd.C_drew ?_))); (case side2 => exact HC0.out); rintro e w9 ⟨v209, rfl, ho0, hb⟩; refine ⟨_, rfl, ?_⟩; have n0_ := q0_6 (Kd.R_lower ho0 (below_size (qt_6))); have n1_ := q0_6 (below_step (qt_6) hb); clear HB; have q4 := n0_; have HB := n1_; clear n0_ n1_; (try clear hb); (try clear hb2); (try clear hk); (try clear hi); (try clear ho0)) | ((with_reducible refine gate_dst (N := 7) rfl ?_); refine box_event ?hg (N := 7) ?hd (cs := #[.slice none 0 0, .int .i64 0]) (t := 51) ?hr ?_; (case hd => rfl); (case hg => rfl); (case hr => first | (go_simp; done) | (go_simp; rfl)); intro qc hg w10 hbox hb; have n0_ := q0_6 (Kd.R_below (ra q4.out) hb); have n1_ := q0_6 (below_step (qt_6) hb); have n2_ := q0_6 (hbox); have n3_ := q0_6 ((by rw [hg]; exact (below_size (qt_6)) : w.heap.size ≤ qc)); have n4_ := q0_6 ((by rw [hg]; exact (below_size (qt_6)) : w.heap.size ≤ qc)); clear q4; clear HB; have q4 := n0_; have HB := n1_; have q1 := n2_; have GW213 := n3_; have z04 := n4_; clear n0_ n1_ n2_ n3_ n4_; clear hb hbox hg; obtain ⟨qj, qk, eo11⟩ := Kd.R_slice q4.out; subst eo11; have hcz12_0 : w10.cell? ⟨qc, 0, none⟩ = some (.slice none 0 0) := (blk_cell q1.out 0).trans rfl; have hcz12_1 : w10.cell? ⟨qc, 1, none⟩ = some (.int .i64 0) := (blk_cell q1.out 1).trans rfl; have hfz12_0 := blk_frozen q1.out 0; have hfz12_1 := blk_frozen q1.out 1))); (have n0_ : Aside0 (Kd.R (Kd.int .i64) 3 ((w10.setCell ⟨qc, 0, none⟩ (.slice qj t208.length qk)).setCell ⟨qc, 1, none⟩ (.int .i64 t211)) w.heap.size (fun _ => True) (.slice qj t208.length qk) t208) := ⟨by refine ra ?_; exact Kd.R_mono (Kd.R_far (p := ⟨qc, 1, none⟩) (Kd.R_far (p := ⟨qc, 0, none⟩) (Kd.R_types q4.out q1.out (by decide)) (fun _ hk => hk.2) (.slice qj t208.length qk)) (fun _ hk => hk.2) (.int .i64 t211)) (fun _ hk => trivial)⟩); (have n1_ : Aside0 (((w10.setCell ⟨qc, 0, none⟩ (.slice qj t208.length qk)).setCell ⟨qc, 1, none⟩ (.int .i64 t211)).heap[qc]? = some (.cells #[.slice qj t208.length qk, .int .i64 t211] 51 (0, 0))) := ⟨by refine ba ?_; refine blk_put (cs := #[.slice qj t208.length qk, .int .i64 0]) ?_ 1 _ rfl; refine ba ?_; refine blk_put (cs := #[.slice none 0 0, .int .i64 0]) ?_ 0 _ rfl; refine ba ?_; exact q1.out⟩); (have n2_ : Aside0 (Below w.heap.size w ((w10.setCell ⟨qc, 0, none⟩ (.slice qj t208.length qk)).setCell ⟨qc, 1, none⟩ (.int .i64 t211))) := ⟨by exact (qf_6)⟩); ((try clear q4)); ((try clear q1)); ((try clear HB))
 generalize ((w10.setCell ⟨qc, 0, none⟩ (.slice qj t208.length qk)).setCell ⟨qc, 1, none⟩ (.int .i64 t211)) = w13 at n0_ n1_ n2_ ⊢; have q4 := n0_; have q1 := n1_; have HB := n2_; clear n0_ n1_ n2_; have n0_ := q0_6 (Kd.R_drew q4.out); have n1_ := q0_6 (blk_drew q1.out); have n2_ := q0_6 (below_drew1 HB.out); clear q4 q1 HB; have q4 := n0_; have q1 := n1_; have HB := n2_; clear n0_ n1_ n2_; refine start_ (n := 13) (S := fun w' => w'.cell? ⟨qc, 0, none⟩ = some (.slice qj t208.length qk) ∧ w'.cell? ⟨qc, 1, none⟩ = some (.int .i64 t211)) (ds := []) (bq 0 13) (by kernel_rfl) rfl rfl ⟨(blk_cell q1.out 0).trans rfl, (blk_cell q1.out 1).trans rfl⟩ (fun hHeld => ?_); refine with_tabW spec_SamePlace.tab2 spec_SamePlace.bits2 (fun HT_ HW_ => ?_); generalize w13.drew = w14 at q4 q1 HB hHeld ⊢; refine pure_ (i := 0) (N := some 14) (v := ?_) (a' := ?_) (bq 1 13) rfl rfl (any_of HT_.out (by kernel_rfl)) (fun _ _ _ h => h) (Or.inl ⟨by rfl, ?_⟩) ?_ ?_; rotate_left; (intro w'; go_simp; with_reducible rfl); rotate_left; (exact pb); refine pure_ (i := 2) (N := some 16) (v := ?_) (a' := ?_) (bq 5 13) rfl rfl (any_of HT_.out (by kernel_rfl)) (fun _ _ _ h => h) (Or.inl ⟨by rfl, ?_⟩) ?_ ?_; rotate_left; (intro w'; go_simp; with_reducible rfl); rotate_left; (exact pb); refine pure_ (i := 3) (N := some 17) (v := ?_) (a' := ?_) (bq 13 13) rfl rfl (any_of HT_.out (by kernel_rfl)) (fun _ _ _ h => h) (Or.inl ⟨by rfl, ?_⟩) ?_ ?_; rotate_left; (intro w'; go_simp; with_reducible rfl); rotate_left; (exact pb); refine pure_ (i := 6) (N := some 20) (v := ?_) (a' := ?_) (bq 77 13) rfl rfl (any_of HT_.out (by kernel_rfl)) (fun _ _ _ h => h) (Or.inl ⟨by rfl, ?_⟩) ?_ ?_; rotate_left; (intro w'; go_simp; with_reducible rfl); rotate_left; (exact pb); refine pure_ (i := 8) (N := some 22) (v := ?_) (a' := ?_) (bq 333 13) rfl rfl (any_of HT_.out (by kernel_rfl)) (fun _ _ _ h => h) (Or.inl ⟨by rfl, ?_⟩) ?_ ?_; rotate_left; (intro w'; go_simp; with_reducible rfl); rotate_left; (exact pb); refine take_ (i := 1) (N := some 15) (v := ?_) (a' := ?_) (bq 335 13) rfl rfl (take_ofW HT_.out HW_.out (by kernel_rfl)) (fun _ _ _ h => h) (Or.inl ⟨by rfl, ?_⟩) hHeld ?_ ?_; rotate_left; (rintro w' ⟨s0, s1⟩; go_simp; with_reducible rfl); rotate_left; (exact pb); refine take_ (i := 7) (N := some 21) (v := ?_) (a' := ?_) (bq 463 13) rfl rfl (take_ofW HT_.out HW_.out (by kernel_rfl)) (fun _ _ _ h => h) (Or.inl ⟨by rfl, ?_⟩) hHeld ?_ ?_; rotate_left; (rintro w' ⟨s0, s1⟩; go_simp; with_reducible rfl); rotate_left; (exact pb); refine one_ (i := 4) (N := some 18) (bq 479 13) rfl rfl (one_of HT_.out (by kernel_rfl)) (by decide) (fun K hK => ?_); refine goes_ Try.func43 (by kernel_rfl) rfl #[.slice A0 l0.length c0, .agg #[.slice qj t208.length qk, .int .i64 t211], .slice A1 l1.length c1, .int .i64 a2] (by rfl) rfl rfl ma ?_
 (with_reducible refine (spec_HearNear.calls k _ _ l0 _ _ t208 t211 _ _ l1 a2 t214 t217 _ ?side1 ?side2 ?side3 ?side4 ?side5 ?side6 A5.out).mono ?_); ((case side1 => exact ca (Kd.C_below HR0.out HB.out))); ((case side2 => exact HC0.out)); ((case side3 => exact ca (Kd.R_reads' q4.out).2.2)); ((case side4 => exact (Kd.R_reads' q4.out).2.1)); ((case side5 => exact ca (Kd.C_below HR1.out HB.out))); ((case side6 => exact HC1.out)); rintro e w15 ⟨v215, rfl, ho0, hb⟩; refine ⟨_, rfl, ?_⟩; have n0_ := q0_6 (Kd.R_elder' (ra q4.out) (Kd.R_base ho0) hb); have n1_ := q0_6 (Kd.R_lower (Kd.R_new' ho0 (Kd.R_lt (ra q4.out))) (below_size (qf_6))); have n2_ := q0_6 (bb q1.out hb); have n3_ := q0_6 (below_step (qf_6) hb); clear q4 q1 HB; have q4 := n0_; have qe := n1_; have q1 := n2_; have HB := n3_; clear n0_ n1_ n2_ n3_; ((try clear hb)); ((try clear hb2)); ((try clear hk)); ((try clear hi)); ((try clear ho0)); obtain ⟨qz, z00, eo16⟩ := Kd.R_slice qe.out; ((first | subst eo16 | (injection eo16 with f1_ f2_ f3_; have f4_ := f1_.symm; have f5_ := f3_.symm; clear f1_ f2_ f3_; subst f4_; subst f5_))); refine hK.out _ _ ⟨(blk_cell q1.out 0).trans rfl, (blk_cell q1.out 1).trans rfl⟩ (fun hHeld => ?_); clear hK K; refine norm_ (a' := ?_) ?_ ?_; rotate_left; ((show Act.put _ (some 18) _ = _); simp only [Act.put, List.setIfInBounds_toArray, List.set_cons_zero, List.set_cons_succ, i64_w, i32_w]; rfl); refine one_ (i := 5) (N := some 19) (bq 511 13) rfl rfl (one_of HT_.out (by kernel_rfl)) (by decide) (fun K hK => ?_); refine goes_ Try.func85 (by kernel_rfl) rfl #[.agg #[.slice qz t214.length z00, .int .i64 t217]] (by rfl) rfl rfl ma ?_; (with_reducible refine (spec_PositionOf.calls k _ _ t214 t217 t218 _ ?side1 ?side2 A6.out).mono ?_); ((case side1 => exact ca (Kd.R_reads' qe.out).2.2)); ((case side2 => exact (Kd.R_reads' qe.out).2.1)); rintro e w17 ⟨rfl, hb⟩; refine ⟨_, rfl, ?_⟩; have n0_ := q0_6 (Kd.R_below (ra q4.out) hb); have n1_ := q0_6 (Kd.R_below (ra qe.out) hb); have n2_ := q0_6 (bb q1.out hb); have n3_ := q0_6 (below_step (qf_6) hb); clear q4 qe q1 HB; have q4 := n0_; have qe := n1_; have q1 := n2_; have HB := n3_; clear n0_ n1_ n2_ n3_; ((try clear hb)); ((try clear hb2)); ((try clear hk)); ((try clear hi)); refine hK.out _ _ ⟨(blk_cell q1.out 0).trans rfl, (blk_cell q1.out 1).trans rfl⟩ (fun hHeld => ?_); clear hK K; refine norm_ (a' := ?_) ?_ ?_; rotate_left; ((show Act.put _ (some 19) _ = _); simp only [Act.put, List.setIfInBounds_toArray, List.set_cons_zero, List.set_cons_succ, i64_w, i32_w]; rfl); refine one_ (i := 9) (N := some 23) (bq 1023 13) rfl rfl (one_of HT_.out (by kernel_rfl)) (by decide) (fun K hK => ?_); refine goes_ Try.func103 (by kernel_rfl) rfl #[.slice A0 l0.length c0, .agg #[.slice qj t208.length qk, .int .i64 t211], .slice A1 l1.length c1] (by rfl) rfl rfl ma ?_
 (with_reducible refine (spec_HearAll.calls k _ _ l0 _ _ t208 t211 _ _ l1 t219 t222 _ ?side1 ?side2 ?side3 ?side4 ?side5 ?side6 A7.out).mono ?_); ((case side1 => exact ca (Kd.C_below HR0.out HB.out))); ((case side2 => exact HC0.out)); ((case side3 => exact ca (Kd.R_reads' q4.out).2.2)); ((case side4 => exact (Kd.R_reads' q4.out).2.1)); ((case side5 => exact ca (Kd.C_below HR1.out HB.out))); ((case side6 => exact HC1.out)); rintro e w18 ⟨v220, rfl, ho0, hb⟩; refine ⟨_, rfl, ?_⟩; have n0_ := q0_6 (Kd.R_elder' (ra q4.out) (Kd.R_base ho0) hb); have n1_ := q0_6 (Kd.R_elder' (ra qe.out) (Kd.R_base ho0) hb); have n2_ := q0_6 (Kd.R_lower (Kd.R_new' (Kd.R_new' ho0 (Kd.R_lt (ra q4.out))) (Kd.R_lt (ra qe.out))) (below_size (qf_6))); have n3_ := q0_6 (bb q1.out hb); have n4_ := q0_6 (below_step (qf_6) hb); clear q4 qe q1 HB; have q4 := n0_; have qe := n1_; have qo := n2_; have q1 := n3_; have HB := n4_; clear n0_ n1_ n2_ n3_ n4_; ((try clear hb)); ((try clear hb2)); ((try clear hk)); ((try clear hi)); ((try clear ho0)); obtain ⟨qr, qs, eo19⟩ := Kd.R_slice qo.out; ((first | subst eo19 | (injection eo19 with f1_ f2_ f3_; have f4_ := f1_.symm; have f5_ := f3_.symm; clear f1_ f2_ f3_; subst f4_; subst f5_))); refine hK.out _ _ ⟨(blk_cell q1.out 0).trans rfl, (blk_cell q1.out 1).trans rfl⟩ (fun hHeld => ?_); clear hK K; refine norm_ (a' := ?_) ?_ ?_; rotate_left; ((show Act.put _ (some 23) _ = _); simp only [Act.put, List.setIfInBounds_toArray, List.set_cons_zero, List.set_cons_succ, i64_w, i32_w]; rfl); refine one_ (i := 10) (N := some 24) (bq 2047 13) rfl rfl (one_of HT_.out (by kernel_rfl)) (by decide) (fun K hK => ?_); refine goes_ Try.func85 (by kernel_rfl) rfl #[.agg #[.slice qr t219.length qs, .int .i64 t222]] (by rfl) rfl rfl ma ?_; (with_reducible refine (spec_PositionOf.calls k _ _ t219 t222 t223 _ ?side1 ?side2 A8.out).mono ?_); ((case side1 => exact ca (Kd.R_reads' qo.out).2.2)); ((case side2 => exact (Kd.R_reads' qo.out).2.1)); rintro e w20 ⟨rfl, hb⟩; refine ⟨_, rfl, ?_⟩; have n0_ := q0_6 (Kd.R_below (ra q4.out) hb); have n1_ := q0_6 (Kd.R_below (ra qe.out) hb); have n2_ := q0_6 (Kd.R_below (ra qo.out) hb); have n3_ := q0_6 (bb q1.out hb); have n4_ := q0_6 (below_step (qf_6) hb); clear q4 qe qo q1 HB; have q4 := n0_; have qe := n1_; have qo := n2_; have q1 := n3_; have HB := n4_; clear n0_ n1_ n2_ n3_ n4_; ((try clear hb)); ((try clear hb2)); ((try clear hk)); ((try clear hi)); refine hK.out _ _ ⟨(blk_cell q1.out 0).trans rfl, (blk_cell q1.out 1).trans rfl⟩ (fun hHeld => ?_); clear hK K; refine norm_ (a' := ?_) ?_ ?_; rotate_left; ((show Act.put _ (some 24) _ = _); simp only [Act.put, List.setIfInBounds_toArray, List.set_cons_zero, List.set_cons_succ, i64_w, i32_w]; rfl)
 refine pure_ (i := 11) (N := some 25) (v := ?_) (a' := ?_) (bq 4095 13) rfl rfl (any_of HT_.out (by kernel_rfl)) (fun _ _ _ h => h) (Or.inl ⟨by rfl, ?_⟩) ?_ ?_; rotate_left; (intro w'; go_simp; with_reducible rfl); rotate_left; (exact pb); refine pure_ (i := 12) (N := some 6) (v := ?_) (a' := ?_) (bq 8191 13) rfl rfl (any_of HT_.out (by kernel_rfl)) (fun _ _ _ h => h) (Or.inl ⟨by rfl, ?_⟩) ?_ ?_; rotate_left; (intro w'; go_simp; with_reducible rfl); rotate_left; (exact pb); refine done_ (done_of HT_.out (by kernel_rfl)) ?_; (try go_wp2); go_ret; (exact ⟨by first | rfl | (simp [errW_none, errW_some] <;> rfl) | (simp [*, errW_none, errW_some] <;> rfl), by exact (qf_6)⟩)
/-! ### impl_InRange: function 77 -/
def impl_InRange.f (a0 : Int) (a1 : Int) (a2 : Int) : Option (Bool) := if a1 ≤ a0 then (some (decide (a0 ≤ a2))) else (some false)
set_option maxHeartbeats 8000000 in
set_option maxRecDepth 100000 in
theorem impl_InRange.calls (a0 : Int) (a1 : Int) (a2 : Int) (r : Bool) (w : World) (h : impl_InRange.f a0 a1 a2 = some r) :
 Calls Try.prog 77 #[.int .i64 a0, .int .i64 a1, .int .i64 a2] w fun e w' => e = .returned (.bool r) ∧ Drawn0 w w' := by
 (have H : (if a1 ≤ a0 then (some (decide (a0 ≤ a2))) else (some false)) = some r := h); clear h
 by_cases c4 : a1 ≤ a0
 · rw [if_pos c4] at H
   (have c4b0 : decide (a1 ≤ a0) = true := decide_eq_true c4); clear c4; obtain rfl := Option.some.inj H; go_enter Try.func77, Try.ntmps77; (go_wp2); go_ret; exact ⟨by first | rfl | (simp; done) | (simp [*]; done), by repeat (first | exact Drawn0.refl _ | apply Drawn0.step)⟩
 · rw [if_neg c4] at H
   (have c4b0 : decide (a1 ≤ a0) = false := decide_eq_false c4); clear c4; obtain rfl := Option.some.inj H; go_enter Try.func77, Try.ntmps77; (go_wp2); go_ret; exact ⟨by first | rfl | (simp; done) | (simp [*]; done), by repeat (first | exact Drawn0.refl _ | apply Drawn0.step)⟩
/-! ### slices_Index_int_int: function 140 -/
def slices_Index_int_int.l0 : Nat → List Int → Int → Int → Int → Option (Int)
 | 0, _, _, _, _ => none
 | k + 1, x0, x1, x7, x8 => if x8 < x7 then (if 0 ≤ x8 then (if x8 < (x0.length : Int) then (if x1 = (rd x0 x8) then (some x8) else (slices_Index_int_int.l0 k x0 x1 x7 (wrap64 (x8 + 1)))) else (none)) else (none)) else (some (-1))
def slices_Index_int_int.f (k : Nat) (l0 : List Int) (a1 : Int) : Option (Int) := slices_Index_int_int.l0 k l0 a1 (l0.length : Int) 0
theorem slices_Index_int_int.mono_l : ∀ k, (∀ y0 y1 y2 y3, LeO (slices_Index_int_int.l0 k y0 y1 y2 y3) (slices_Index_int_int.l0 (k + 1) y0 y1 y2 y3))
 | 0 => fun _ _ _ _ r h => by simp [slices_Index_int_int.l0] at h
 | k + 1 => by
  have ih0 := slices_Index_int_int.mono_l k
  · intro y0 y1 y2 y3
    unfold slices_Index_int_int.l0
    repeat' first
    | (with_reducible exact ih0 _ _ _ _)
    | (with_reducible exact LeO.refl _)
    | (with_reducible exact LeO.none _)
    | (with_reducible refine LeO.ite ?_ ?_)
    | (with_reducible refine LeO.bind ?_ (fun _ => ?_))
    | exact ih0 _ _ _ _
    | exact LeO.none _
    | refine LeO.ite ?_ ?_
    | refine LeO.bind ?_ (fun _ => ?_)
theorem slices_Index_int_int.mono : ∀ a0 a1 k, LeO (slices_Index_int_int.f k a0 a1) (slices_Index_int_int.f (k + 1) a0 a1) := by
 intro a0 a1 k; have ih0 := slices_Index_int_int.mono_l k; unfold slices_Index_int_int.f
 repeat' first
  | (with_reducible exact ih0 _ _ _ _)
  | (with_reducible exact LeO.refl _)
  | (with_reducible exact LeO.none _)
  | (with_reducible refine LeO.ite ?_ ?_)
  | (with_reducible refine LeO.bind ?_ (fun _ => ?_))
  | exact ih0 _ _ _ _
  | exact LeO.none _
  | refine LeO.ite ?_ ?_
  | refine LeO.bind ?_ (fun _ => ?_)
set_option maxHeartbeats 8000000 in
set_option maxRecDepth 100000 in
theorem slices_Index_int_int.calls (k : Nat) (A0 : Option Addr) (c0 : Nat) (l0 : List Int) (a1 : Int) (r : Int) (w : World) (hr0 : Kd.C (Kd.int .i64) w A0 l0.length l0) (hc0 : l0.length ≤ c0) (h : slices_Index_int_int.f k l0 a1 = some r) :
 Calls Try.prog 140 #[.slice A0 l0.length c0, .int .i64 a1] w fun e w' => e = .returned (.int .i64 r) ∧ Drawn0 w w' := by
 have HR0 := q0_6 hr0; have HC0 := q0_6 hc0; clear hr0 hc0; (have H : (slices_Index_int_int.l0 k l0 a1 (l0.length : Int) 0) = some r := h); clear h; (have H' := q0_6 H); clear H; go_enter Try.func140, Try.ntmps140; (go_wp2); (go_loopg [8] k (fun kq v8 w' => ∃ (x8_1 : Int), v8 = .int .i64 x8_1 ∧ Aside0 (slices_Index_int_int.l0 kq l0 a1 (l0.length : Int) x8_1 = some r) ∧ Aside0 (kq ≤ k) ∧ Drawn0 w w'))
 case atStart => exact ⟨(0), (by first | rfl | (simp; done) | (simp [*]; done)), H', ⟨Nat.le_refl _⟩, by repeat (first | exact Drawn0.refl _ | apply Drawn0.step)⟩
 case round =>
  clear H'; (try clear c1); (try clear p2); obtain ⟨x8_1, rfl, HA, HK1, ⟨m1, rfl⟩⟩ := hrel
  cases gk with
  | zero => exact absurd HA.out (by simp [slices_Index_int_int.l0])
  | succ k1 =>
   have H := HA.out; clear HA; (simp only [slices_Index_int_int.l0] at H)
   by_cases c3 : x8_1 < (l0.length : Int)
   · rw [if_pos c3] at H
     (have c3b0 : decide (x8_1 < (l0.length : Int)) = true := decide_eq_true c3); clear c3
     by_cases c4 : 0 ≤ x8_1
     · rw [if_pos c4] at H
       (have c4b0 : decide (0 ≤ x8_1) = true := decide_eq_true c4); clear c4
       by_cases c5 : x8_1 < (l0.length : Int)
       · rw [if_pos c5] at H
         (have c5b0 : decide (x8_1 < (l0.length : Int)) = true := decide_eq_true c5); clear c5
         by_cases c6 : a1 = (rd l0 x8_1)
         · rw [if_pos c6] at H
           (have c6b0 : (a1 == (rd l0 x8_1)) = true := beq_iff_eq.mpr c6); (have c6b1 : (a1 != (rd l0 x8_1)) = false := bne_eq_false_iff_eq.mpr c6); clear c6; obtain rfl := Option.some.inj H; (have p224 : 0 ≤ (x8_1 : Int) := of_decide_eq_true (by first | (with_reducible assumption) | assumption)); (have q224 : x8_1 < (l0.length : Int) := of_decide_eq_true (by first | (with_reducible assumption) | assumption)); obtain ⟨ad224, e224, hx224_0⟩ := Kd.at_int HR0.out x8_1 p224 q224
           cases e224
           replace p224 := eq_true p224; replace q224 := eq_true q224; (go_wp2); go_ret; exact ⟨by first | rfl | (simp; done) | (simp [*]; done), by repeat (first | exact Drawn0.refl _ | apply Drawn0.step)⟩
         · rw [if_neg c6] at H
           (have c6b0 : (a1 == (rd l0 x8_1)) = false := beq_eq_false_iff_ne.mpr c6); (have c6b1 : (a1 != (rd l0 x8_1)) = true := bne_iff_ne.mpr c6); (have H' := q0_6 H); clear H; (have p224 : 0 ≤ (x8_1 : Int) := of_decide_eq_true (by first | (with_reducible assumption) | assumption)); (have q224 : x8_1 < (l0.length : Int) := of_decide_eq_true (by first | (with_reducible assumption) | assumption)); obtain ⟨ad224, e224, hx224_0⟩ := Kd.at_int HR0.out x8_1 p224 q224
           cases e224
           replace p224 := eq_true p224; replace q224 := eq_true q224; (go_wp2); (go_roundg k1)
           case measure => have := HK1.out; omega
           case rel => exact ⟨(wrap64 (x8_1 + 1)), (by first | rfl | (simp; done) | (simp [*]; done)), H', ⟨by have := HK1.out; omega⟩, by repeat (first | exact Drawn0.refl _ | apply Drawn0.step)⟩
       · rw [if_neg c5] at H
         exact absurd H (by simp)
     · rw [if_neg c4] at H
       exact absurd H (by simp)
   · rw [if_neg c3] at H
     (have c3b0 : decide (x8_1 < (l0.length : Int)) = false := decide_eq_false c3); clear c3; obtain rfl := Option.some.inj H; (go_wp2); go_ret; exact ⟨by first | rfl | (simp; done) | (simp [*]; done), by repeat (first | exact Drawn0.refl _ | apply Drawn0.step)⟩
/-! ### slices_Min_int_int: function 141 -/
def slices_Min_int_int.l0 : Nat → List Int → Int → Int → Option (Int)
 | 0, _, _, _ => none
 | k + 1, x0, x3, x4 => if x4 < (x0.length : Int) then (if 0 ≤ x4 then (slices_Min_int_int.l0 k x0 (mn x3 (rd x0 x4)) (wrap64 (x4 + 1))) else (none)) else (some x3)
def slices_Min_int_int.f (k : Nat) (l0 : List Int) : Option (Int) := if (l0.length : Int) < 1 then (none) else (if 0 < (l0.length : Int) then (slices_Min_int_int.l0 k l0 (rd l0 0) 1) else (none))
theorem slices_Min_int_int.mono_l : ∀ k, (∀ y0 y1 y2, LeO (slices_Min_int_int.l0 k y0 y1 y2) (slices_Min_int_int.l0 (k + 1) y0 y1 y2))
 | 0 => fun _ _ _ r h => by simp [slices_Min_int_int.l0] at h
 | k + 1 => by
  have ih0 := slices_Min_int_int.mono_l k
  · intro y0 y1 y2
    unfold slices_Min_int_int.l0
    repeat' first
    | (with_reducible exact ih0 _ _ _)
    | (with_reducible exact LeO.refl _)
    | (with_reducible exact LeO.none _)
    | (with_reducible refine LeO.ite ?_ ?_)
    | (with_reducible refine LeO.bind ?_ (fun _ => ?_))
    | exact ih0 _ _ _
    | exact LeO.none _
    | refine LeO.ite ?_ ?_
    | refine LeO.bind ?_ (fun _ => ?_)
theorem slices_Min_int_int.mono : ∀ a0 k, LeO (slices_Min_int_int.f k a0) (slices_Min_int_int.f (k + 1) a0) := by
 intro a0 k; have ih0 := slices_Min_int_int.mono_l k; unfold slices_Min_int_int.f
 repeat' first
  | (with_reducible exact ih0 _ _ _)
  | (with_reducible exact LeO.refl _)
  | (with_reducible exact LeO.none _)
  | (with_reducible refine LeO.ite ?_ ?_)
  | (with_reducible refine LeO.bind ?_ (fun _ => ?_))
  | exact ih0 _ _ _
  | exact LeO.none _
  | refine LeO.ite ?_ ?_
  | refine LeO.bind ?_ (fun _ => ?_)
set_option maxHeartbeats 8000000 in
set_option maxRecDepth 100000 in
theorem slices_Min_int_int.calls (k : Nat) (A0 : Option Addr) (c0 : Nat) (l0 : List Int) (r : Int) (w : World) (hr0 : Kd.C (Kd.int .i64) w A0 l0.length l0) (hc0 : l0.length ≤ c0) (h : slices_Min_int_int.f k l0 = some r) :
 Calls Try.prog 141 #[.slice A0 l0.length c0] w fun e w' => e = .returned (.int .i64 r) ∧ Below w.heap.size w w' := by
 have HR0 := q0_6 hr0; have HC0 := q0_6 hc0; clear hr0 hc0; have HB := q0_6 (Below.refl w.heap.size w); (have H : (if (l0.length : Int) < 1 then (none) else (if 0 < (l0.length : Int) then (slices_Min_int_int.l0 k l0 (rd l0 0) 1) else (none))) = some r := h); clear h
 by_cases c2 : (l0.length : Int) < 1
 · rw [if_pos c2] at H
   exact absurd H (by simp)
 · rw [if_neg c2] at H
   (have c2b0 : decide ((l0.length : Int) < 1) = false := decide_eq_false c2); (have c2b1 : decide (l0.length < 1) = false := decide_eq_false (by omega)); clear c2
   by_cases c3 : 0 < (l0.length : Int)
   · rw [if_pos c3] at H
     (have c3b0 : decide (0 < (l0.length : Int)) = true := decide_eq_true c3); (have c3b1 : decide (0 < l0.length) = true := decide_eq_true (by omega)); clear c3; (have H' := q0_6 H); clear H; (have p225 : 0 ≤ (0 : Int) := (by omega)); (have q225 : 0 < (l0.length : Int) := of_decide_eq_true (by first | (with_reducible assumption) | assumption)); obtain ⟨ad225, e225, hx225_0⟩ := Kd.at_int HR0.out 0 p225 q225
     cases e225
     (have qi225 : (0 < l0.length) = True := eq_true (by omega)); ((try rw [show ((0 : Int)).toNat = 0 from rfl] at hx225_0)); ((try rw [Addr.add_zero'] at hx225_0)); replace p225 := eq_true p225; replace q225 := eq_true q225; go_enter Try.func141, Try.ntmps141; (go_wp2); (go_loopg [3, 4] k (fun kq v3 v4 w' => ∃ (x3_1 : Int) (x4_1 : Int), v3 = .int .i64 x3_1 ∧ v4 = .int .i64 x4_1 ∧ Aside0 (slices_Min_int_int.l0 kq l0 x3_1 x4_1 = some r) ∧ Aside0 (kq ≤ k) ∧ Aside0 (Below w.heap.size w w')))
     case atStart => exact ⟨(rd l0 0), (1), (by first | rfl | (simp; done) | (simp [*]; done)), (by first | rfl | (simp; done) | (simp [*]; done)), H', ⟨Nat.le_refl _⟩, ⟨by exact (qt_6)⟩⟩
     case round =>
      clear H'; (try clear c1); (try clear c2); (try clear c2b0); (try clear c2b1); (try clear p2); (try clear q2); (try clear hx2); (try clear qi2); (try clear c3); (try clear c3b0); (try clear c3b1); (try clear hx225_0); (try clear p225); (try clear q225); obtain ⟨x3_1, x4_1, rfl, rfl, HA, HK1, HB⟩ := hrel
      cases gk with
      | zero => exact absurd HA.out (by simp [slices_Min_int_int.l0])
      | succ k1 =>
       have H := HA.out; clear HA; (simp only [slices_Min_int_int.l0] at H)
       by_cases c4 : x4_1 < (l0.length : Int)
       · rw [if_pos c4] at H
         (have c4b0 : decide (x4_1 < (l0.length : Int)) = true := decide_eq_true c4); clear c4
         by_cases c5 : 0 ≤ x4_1
         · rw [if_pos c5] at H
           (have c5b0 : decide (0 ≤ x4_1) = true := decide_eq_true c5); clear c5; obtain ⟨ji6, hji6⟩ : ∃ j_ : Int, (mn x3_1 (rd l0 x4_1)) = j_ := ⟨_, rfl⟩; (replace H : (slices_Min_int_int.l0 k1 l0 ji6 (wrap64 (x4_1 + 1))) = some r := by first | (rw [hji6] at H; exact H) | (simp only [hji6] at H ⊢; exact H)); (have hji6_ : (if (rd l0 x4_1) < x3_1 then (rd l0 x4_1) else x3_1) = ji6 := hji6); (have H' := q0_6 H); clear H; (have p226 : 0 ≤ (x4_1 : Int) := of_decide_eq_true (by first | (with_reducible assumption) | assumption)); (have q226 : x4_1 < (l0.length : Int) := of_decide_eq_true (by first | (with_reducible assumption) | assumption)); obtain ⟨ad226, e226, hx226_0⟩ := Kd.at_int HR0.out x4_1 p226 q226; obtain rfl : ad225 = ad226 := (by injection e226); replace hx226_0 := (HB.out.cell (World.block_lt_of_cell? w _ hx226_0)).trans hx226_0; replace p226 := eq_true p226; replace q226 := eq_true q226; (go_wp2); (go_roundg k1)
           case measure => have := HK1.out; omega
           case rel => exact ⟨(ji6), (wrap64 (x4_1 + 1)), (by first | rfl | (simp; done) | (simp only [← hji6] <;> (first | rfl | simp)) | (simp [*]; done)), (by first | rfl | (simp; done) | (simp [*]; done)), (by first | exact H' | (have H2_ := H'; (try simp only [← hji6] at H2_); (try simp only [← hji6]); exact H2_)), ⟨by have := HK1.out; omega⟩, ⟨by exact (qt_6)⟩⟩
         · rw [if_neg c5] at H
           exact absurd H (by simp)
       · rw [if_neg c4] at H
         (have c4b0 : decide (x4_1 < (l0.length : Int)) = false := decide_eq_false c4); clear c4; obtain rfl := Option.some.inj H; (go_wp2); go_ret; (exact ⟨by first | rfl | (simp [errW_none, errW_some] <;> rfl) | (simp [*, errW_none, errW_some] <;> rfl), by exact (qt_6)⟩)
   · rw [if_neg c3] at H
     exact absurd H (by simp)
end Go.Proofs.Ytlkcbmcbmanmiaa.PFnExactSamePlace
