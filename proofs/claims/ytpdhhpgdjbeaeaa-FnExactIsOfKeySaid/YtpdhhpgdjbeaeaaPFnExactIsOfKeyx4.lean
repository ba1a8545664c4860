-- Written for this claim by a program of this repository (wip/tools/print2.py), out of the translation; Lean checks it.
import Derived.Test.YtpdhhpgdjbeaeaaPFnExactIsOfKeyx0
import Derived.Test.YtpdhhpgdjbeaeaaPFnExactIsOfKeyx3
namespace Go.Proofs.Ytpdhhpgdjbeaeaa.PFnExactIsOfKey
open Go.RowKit Go.Proofs.YtpdhhpgdjbeaeaaW.PrintWords Go.Proofs.YtpdhhpgdjbeaeaaW.PrintLast Go.Proofs.YtpdhhpgdjbeaeaaW.PrintMore
attribute [local go_sem] max2_int min2_int max_two min_two max_three min_three max_four min_four   -- for this text's walks alone
set_option linter.unusedVariables false
set_option linter.unusedSimpArgs false
-- SHORT
theorem qf_4 {p : Prop} (f : p := by repeat (first | (with_reducible first | exact HB.out | apply below_alloc | apply pw_below_drewN | apply below_drew1) | exact HB.out)) : p := f
theorem q9_4 {p : Prop} (f : p := by repeat (first | (with_reducible first | exact HB.out | apply below_alloc | apply pw_below_drewN | apply below_drew1 | refine below_set ?_ z09.out) | exact HB.out)) : p := f
theorem q3_4 {p : Prop} (f : p := by repeat (first | (with_reducible first | exact HB.out | apply below_alloc | apply pw_below_drewN | apply below_drew1 | refine below_set ?_ qs.out) | exact HB.out)) : p := f
theorem qm_4 {p : Prop} (f : p := by repeat (first | (with_reducible first | exact HB.out | apply below_alloc | apply pw_below_drewN | apply below_drew1 | refine below_set ?_ qo.out) | exact HB.out)) : p := f
theorem q0_4 {p : Prop} (h : p) : Aside0 p := ⟨h⟩
/-! ### spec_IsOfKey: function 21 -/
def spec_IsOfKey.l0 : Nat → Int → List Int → Int → Int → Int → Option (Bool)
 | 0, _, _, _, _, _ => none
 | k + 1, x0, x5, x6, x194000, x194001 => if x6 < (x5.length : Int) then (if 0 ≤ x6 then ((spec_DegreeOf.f k x0 (rd x5 x6) 1).bind fun t198 => (if t198 = 0 then (some false) else (spec_IsOfKey.l0 k x0 x5 (wrap64 (x6 + 1)) x194000 x194001))) else (none)) else ((spec_IsKey.f x0).bind fun t199 => (if t199 = true then ((spec_IsChord.f x194000 x194001).bind fun t200 => (some t200)) else (some false)))
def spec_IsOfKey.f (k : Nat) (a0 : Int) (a1_0 : Int) (a1_1 : Int) : Option (Bool) := (spec_TonesOf.f k a1_0 a1_1).bind fun t194 => (spec_IsOfKey.l0 k a0 t194 0 a1_0 a1_1)
theorem spec_IsOfKey.mono_l : ∀ k, (∀ y0 y1 y2 y3 y4, LeO (spec_IsOfKey.l0 k y0 y1 y2 y3 y4) (spec_IsOfKey.l0 (k + 1) y0 y1 y2 y3 y4))
 | 0 => fun _ _ _ _ _ r h => by simp [spec_IsOfKey.l0] at h
 | k + 1 => by
  have ih0 := spec_IsOfKey.mono_l k
  · intro y0 y1 y2 y3 y4
    unfold spec_IsOfKey.l0
    repeat' first
    | (with_reducible exact ih0 _ _ _ _ _)
    | (with_reducible exact spec_DegreeOf.mono _ _ _ _)
    | (with_reducible exact spec_TonesOf.mono _ _ _)
    | (with_reducible exact LeO.refl _)
    | (with_reducible exact LeO.none _)
    | (with_reducible refine LeO.ite ?_ ?_)
    | (with_reducible refine LeO.bind ?_ (fun _ => ?_))
    | exact ih0 _ _ _ _ _
    | exact spec_DegreeOf.mono _ _ _ _
    | exact spec_TonesOf.mono _ _ _
    | exact LeO.none _
    | refine LeO.ite ?_ ?_
    | refine LeO.bind ?_ (fun _ => ?_)
theorem spec_IsOfKey.mono : ∀ a0 a1 a2 k, LeO (spec_IsOfKey.f k a0 a1 a2) (spec_IsOfKey.f (k + 1) a0 a1 a2) := by
 intro a0 a1 a2 k; have ih0 := spec_IsOfKey.mono_l k; unfold spec_IsOfKey.f
 repeat' first
  | (with_reducible exact ih0 _ _ _ _ _)
  | (with_reducible exact spec_DegreeOf.mono _ _ _ _)
  | (with_reducible exact spec_TonesOf.mono _ _ _)
  | (with_reducible exact LeO.refl _)
  | (with_reducible exact LeO.none _)
  | (with_reducible refine LeO.ite ?_ ?_)
  | (with_reducible refine LeO.bind ?_ (fun _ => ?_))
  | exact ih0 _ _ _ _ _
  | exact spec_DegreeOf.mono _ _ _ _
  | exact spec_TonesOf.mono _ _ _
  | exact LeO.none _
  | refine LeO.ite ?_ ?_
  | refine LeO.bind ?_ (fun _ => ?_)
set_option maxHeartbeats 8000000 in
set_option maxRecDepth 100000 in
theorem spec_IsOfKey.calls (k : Nat) (a0 : Int) (a1_0 : Int) (a1_1 : Int) (r : Bool) (w : World) (h : spec_IsOfKey.f k a0 a1_0 a1_1 = some r) :
 Calls Try.prog 21 #[.int .i64 a0, .agg #[.int .i64 a1_0, .int .i64 a1_1]] w fun e w' => e = .returned (.bool r) ∧ Below w.heap.size w w' := by
 have hu30 := Try.underlying30; have HB := q0_4 (Below.refl w.heap.size w); (have H : ((spec_TonesOf.f k a1_0 a1_1).bind fun t194 => (spec_IsOfKey.l0 k a0 t194 0 a1_0 a1_1)) = some r := h); clear h; replace H := Option.bind_eq_some_iff.mp H; obtain ⟨t194, A30, H⟩ := H; replace H : (spec_IsOfKey.l0 k a0 t194 0 a1_0 a1_1) = some r := H; have A3 := q0_4 A30; clear A30; (have H' := q0_4 H); clear H; go_enter Try.func21, Try.ntmps21; (go_wp2_with (first | ((with_reducible refine gate_dst (N := 3) rfl ?_); refine box_event ?hg (N := 3) ?hd (cs := #[.int .i64 a1_0, .int .i64 a1_1]) (t := 30) ?hr ?_; (case hd => rfl); (case hg => rfl); (case hr => first | (go_simp; done) | (go_simp; rfl)); intro qh hg w4 hbox hb; have n0_ := q0_4 (below_step (qf_4) hb); have n1_ := q0_4 (hbox); have n2_ := q0_4 ((by rw [hg]; exact (below_size (qf_4)) : w.heap.size ≤ qh)); have n3_ := q0_4 ((by rw [hg]; exact (below_size (qf_4)) : w.heap.size ≤ qh)); clear HB; have HB := n0_; have q6 := n1_; have GW193 := n2_; have z09 := n3_; clear n0_ n1_ n2_ n3_; clear hb hbox hg; have hcz5_0 : w4.cell? ⟨qh, 0, none⟩ = some (.int .i64 a1_0) := (blk_cell q6.out 0).trans rfl; have hcz5_1 : w4.cell? ⟨qh, 1, none⟩ = some (.int .i64 a1_1) := (blk_cell q6.out 1).trans rfl; have hfz5_0 := blk_frozen q6.out 0; have hfz5_1 := blk_frozen q6.out 1) | ((with_reducible refine gate_callee (f := 15) rfl ?_); refine goesL_ (some 8) rfl rfl Try.func15 (by kernel_rfl) rfl #[.agg #[.int .i64 a1_0, .int .i64 a1_1]] rfl ma ?_; (with_reducible refine (spec_TonesOf.calls k a1_0 a1_1 t194 _ A3.out).mono ?_); rintro e w6 ⟨v195, rfl, ho0, hb⟩; refine ⟨_, rfl, ?_⟩; have n0_ := q0_4 (Kd.R_lower ho0 (below_size (q9_4))); have n1_ := q0_4 (bb q6.out hb); have n2_ := q0_4 (below_step (q9_4) hb); clear q6; clear HB; have qn := n0_; have q6 := n1_; have HB := n2_; clear n0_ n1_ n2_; (try clear hb); (try clear hb2); (try clear hk); (try clear hi); (try clear ho0)))); (go_loopg [6] k (fun kq v6 w' => ∃ (x6_1 : Int), v6 = .int .i64 x6_1 ∧ Aside0 (spec_IsOfKey.l0 kq a0 t194 x6_1 a1_0 a1_1 = some r) ∧ Aside0 (kq ≤ k) ∧ Aside0 (Kd.R (Kd.int .i64) 3 w' w.heap.size (fun _ => True) v195 t194) ∧ Aside0 (w'.heap[qh]? = some (.cells #[.int .i64 a1_0, .int .i64 a1_1] 30 (0, 0))) ∧ Aside0 (Below w.heap.size w w')))
 case atStart => exact ⟨(0), (by first | rfl | (simp; done) | (simp [*]; done)), H', ⟨Nat.le_refl _⟩, ⟨by refine ra ?_; exact qn.out⟩, ⟨by refine ba ?_; exact q6.out⟩, ⟨by exact (q9_4)⟩⟩
 case round =>
  clear H'; (try clear c1); (try clear c2); (try clear p2); (try clear hcz5_0); (try clear hcz5_1); (try clear hfz5_0); (try clear hfz5_1); obtain ⟨x6_1, rfl, HA, HK1, qc, q6, HB⟩ := hrel
  cases gk with
  | zero => exact absurd HA.out (by simp [spec_IsOfKey.l0])
  | succ k1 =>
   have H := HA.out; clear HA; (simp only [spec_IsOfKey.l0] at H)
   by_cases c7 : x6_1 < (t194.length : Int)
   · rw [if_pos c7] at H
     (have c7b0 : decide (x6_1 < (t194.length : Int)) = true := decide_eq_true c7); clear c7
     by_cases c8 : 0 ≤ x6_1
     · rw [if_pos c8] at H
       (have c8b0 : decide (0 ≤ x6_1) = true := decide_eq_true c8); clear c8; replace H := Option.bind_eq_some_iff.mp H; obtain ⟨t198, A90, H⟩ := H; replace H : (if t198 = 0 then (some false) else (spec_IsOfKey.l0 k1 a0 t194 (wrap64 (x6_1 + 1)) a1_0 a1_1)) = some r := H; have A9 := q0_4 A90; clear A90
       by_cases c10 : t198 = 0
       · rw [if_pos c10] at H
         (have c10b0 : (t198 == 0) = true := beq_iff_eq.mpr c10); (have c10b1 : (t198 != 0) = false := bne_eq_false_iff_eq.mpr c10); clear c10; obtain rfl := Option.some.inj H; obtain ⟨z0a, z0b, eo11⟩ := Kd.R_slice qc.out; subst eo11; (have p197 : 0 ≤ (x6_1 : Int) := of_decide_eq_true (by first | (with_reducible assumption) | assumption)); (have q197 : x6_1 < (t194.length : Int) := of_decide_eq_true (by first | (with_reducible assumption) | assumption)); obtain ⟨ad197, e197, hx197_0⟩ := Kd.at_int (Kd.R_reads' qc.out).2.2 x6_1 p197 q197
         cases e197
         replace p197 := eq_true p197; replace q197 := eq_true q197; (go_wp2_with (first | ((with_reducible refine gate_callee (f := 44) rfl ?_); refine goesL_ (some 21) rfl rfl Try.func44 (by kernel_rfl) rfl #[.int .i64 a0, .agg #[.int .i64 (rd t194 x6_1), .int .i64 1]] rfl ma ?_; (with_reducible refine (spec_DegreeOf.calls k1 a0 (rd t194 x6_1) 1 t198 _ A9.out).mono ?_); rintro e w12 ⟨rfl, hb⟩; refine ⟨_, rfl, ?_⟩; have n0_ := q0_4 (Kd.R_below (ra qc.out) hb); have n1_ := q0_4 (bb q6.out hb); have n2_ := q0_4 (below_step (q9_4) hb); clear qc; clear q6; clear HB; have qc := n0_; have q6 := n1_; have HB := n2_; clear n0_ n1_ n2_; (try clear hb); (try clear hb2); (try clear hk); (try clear hi)))); go_ret; (exact ⟨by first | rfl | (simp [errW_none, errW_some] <;> rfl) | (simp [*, errW_none, errW_some] <;> rfl), by exact (q9_4)⟩)
       · rw [if_neg c10] at H
         (have c10b0 : (t198 == 0) = false := beq_eq_false_iff_ne.mpr c10); (have c10b1 : (t198 != 0) = true := bne_iff_ne.mpr c10); (have H' := q0_4 H); clear H; obtain ⟨z0c, z0d, eo13⟩ := Kd.R_slice qc.out; subst eo13; (have p197 : 0 ≤ (x6_1 : Int) := of_decide_eq_true (by first | (with_reducible assumption) | assumption)); (have q197 : x6_1 < (t194.length : Int) := of_decide_eq_true (by first | (with_reducible assumption) | assumption)); obtain ⟨ad197, e197, hx197_0⟩ := Kd.at_int (Kd.R_reads' qc.out).2.2 x6_1 p197 q197
         cases e197
         replace p197 := eq_true p197; replace q197 := eq_true q197; (go_wp2_with (first | ((with_reducible refine gate_callee (f := 44) rfl ?_); refine goesL_ (some 21) rfl rfl Try.func44 (by kernel_rfl) rfl #[.int .i64 a0, .agg #[.int .i64 (rd t194 x6_1), .int .i64 1]] rfl ma ?_; (with_reducible refine (spec_DegreeOf.calls k1 a0 (rd t194 x6_1) 1 t198 _ A9.out).mono ?_); rintro e w14 ⟨rfl, hb⟩; refine ⟨_, rfl, ?_⟩; have n0_ := q0_4 (Kd.R_below (ra qc.out) hb); have n1_ := q0_4 (bb q6.out hb); have n2_ := q0_4 (below_step (q9_4) hb); clear qc; clear q6; clear HB; have qc := n0_; have q6 := n1_; have HB := n2_; clear n0_ n1_ n2_; (try clear hb); (try clear hb2); (try clear hk); (try clear hi)))); (go_roundg k1)
         case measure => have := HK1.out; omega
         case rel => exact ⟨(wrap64 (x6_1 + 1)), (by first | rfl | (simp; done) | (simp [*]; done)), H', ⟨by have := HK1.out; omega⟩, ⟨by refine ra ?_; exact qc.out⟩, ⟨by refine ba ?_; exact q6.out⟩, ⟨by exact (q9_4)⟩⟩
     · rw [if_neg c8] at H
       exact absurd H (by simp)
   · rw [if_neg c7] at H
     (have c7b0 : decide (x6_1 < (t194.length : Int)) = false := decide_eq_false c7); clear c7; replace H := Option.bind_eq_some_iff.mp H; obtain ⟨t199, A150, H⟩ := H; replace H : (if t199 = true then ((spec_IsChord.f a1_0 a1_1).bind fun t200 => (some t200)) else (some false)) = some r := H; have A15 := q0_4 A150; clear A150
     by_cases c16 : t199 = true
     · subst c16
       have H1 : ((spec_IsChord.f a1_0 a1_1).bind fun t200 => (some t200)) = some r := by rw [if_pos rfl] at H; exact H
       clear H; have H := H1; clear H1; replace H := Option.bind_eq_some_iff.mp H; obtain ⟨t200, A170, H⟩ := H; replace H : (some t200) = some r := H; have A17 := q0_4 A170; clear A170; obtain rfl := Option.some.inj H; obtain ⟨z0e, z0f, eo18⟩ := Kd.R_slice qc.out; subst eo18; (go_wp2_with (first | ((with_reducible refine gate_callee (f := 45) rfl ?_); refine goesL_ (some 24) rfl rfl Try.func45 (by kernel_rfl) rfl #[.int .i64 a0] rfl ma ?_; (with_reducible refine (spec_IsKey.calls a0 true _ A15.out).mono ?_); rintro e w' ⟨rfl, ⟨nd, rfl⟩⟩; refine ⟨_, rfl, ?_⟩; have hcz19_0 : wr.cell? ⟨qh, 0, none⟩ = some (.int .i64 a1_0) := (blk_cell q6.out 0).trans rfl; have hcz19_1 : wr.cell? ⟨qh, 1, none⟩ = some (.int .i64 a1_1) := (blk_cell q6.out 1).trans rfl; have hfz19_0 := blk_frozen q6.out 0; have hfz19_1 := blk_frozen q6.out 1) | (go_at_call 39; (with_reducible refine (spec_IsChord.calls a1_0 a1_1 t200 _ A17.out).mono ?_); rintro e w20 ⟨rfl, hb⟩; have n0_ := q0_4 (Kd.R_below (ra qc.out) hb); have n1_ := q0_4 (bb q6.out hb); have n2_ := q0_4 (below_step (q9_4) hb); clear qc; clear q6; clear HB; have qc := n0_; have q6 := n1_; have HB := n2_; clear n0_ n1_ n2_; (try clear hb); (try clear hb2); (try clear hk); (try clear hi)))); go_ret; (exact ⟨by first | rfl | (simp [errW_none, errW_some] <;> rfl) | (simp [*, errW_none, errW_some] <;> rfl), by exact (q9_4)⟩)
     · replace c16 := Bool.eq_false_iff.mpr c16
       subst c16; (have H1 : (some false) = some r := by rw [if_neg (show ¬ (false = true) by decide)] at H; exact H); clear H; have H := H1; clear H1; obtain rfl := Option.some.inj H; obtain ⟨z0g, z0h, eo21⟩ := Kd.R_slice qc.out; subst eo21; (go_wp2_with (first | ((with_reducible refine gate_callee (f := 45) rfl ?_); refine goesL_ (some 24) rfl rfl Try.func45 (by kernel_rfl) rfl #[.int .i64 a0] rfl ma ?_; (with_reducible refine (spec_IsKey.calls a0 false _ A15.out).mono ?_); rintro e w' ⟨rfl, ⟨nd, rfl⟩⟩; refine ⟨_, rfl, ?_⟩))); go_ret; (exact ⟨by first | rfl | (simp [errW_none, errW_some] <;> rfl) | (simp [*, errW_none, errW_some] <;> rfl), by exact (q9_4)⟩)
/-! ### impl_InRange: function 59 -/
def impl_InRange.f (a0 : Int) (a1 : Int) (a2 : Int) : Option (Bool) := if a1 ≤ a0 then (some (decide (a0 ≤ a2))) else (some false)
set_option maxHeartbeats 8000000 in
set_option maxRecDepth 100000 in
theorem impl_InRange.calls (a0 : Int) (a1 : Int) (a2 : Int) (r : Bool) (w : World) (h : impl_InRange.f a0 a1 a2 = some r) :
 Calls Try.prog 59 #[.int .i64 a0, .int .i64 a1, .int .i64 a2] w fun e w' => e = .returned (.bool r) ∧ Drawn0 w w' := by
 (have H : (if a1 ≤ a0 then (some (decide (a0 ≤ a2))) else (some false)) = some r := h); clear h
 by_cases c4 : a1 ≤ a0
 · rw [if_pos c4] at H
   (have c4b0 : decide (a1 ≤ a0) = true := decide_eq_true c4); clear c4; obtain rfl := Option.some.inj H; go_enter Try.func59, Try.ntmps59; (go_wp2); go_ret; exact ⟨by first | rfl | (simp; done) | (simp [*]; done), by repeat (first | exact Drawn0.refl _ | apply Drawn0.step)⟩
 · rw [if_neg c4] at H
   (have c4b0 : decide (a1 ≤ a0) = false := decide_eq_false c4); clear c4; obtain rfl := Option.some.inj H; go_enter Try.func59, Try.ntmps59; (go_wp2); go_ret; exact ⟨by first | rfl | (simp; done) | (simp [*]; done), by repeat (first | exact Drawn0.refl _ | apply Drawn0.step)⟩
/-! ### impl_IsKey: function 46 -/
def impl_IsKey.f (a0 : Int) : Option (Bool) := (impl_InRange.f a0 (-7) 7).bind fun t201 => (some t201)
set_option maxHeartbeats 8000000 in
set_option maxRecDepth 100000 in
theorem impl_IsKey.calls (a0 : Int) (r : Bool) (w : World) (h : impl_IsKey.f a0 = some r) :
 Calls Try.prog 46 #[.int .i64 a0] w fun e w' => e = .returned (.bool r) ∧ Drawn0 w w' := by
 (have H : ((impl_InRange.f a0 (-7) 7).bind fun t201 => (some t201)) = some r := h); clear h; replace H := Option.bind_eq_some_iff.mp H; obtain ⟨t201, A20, H⟩ := H; replace H : (some t201) = some r := H; have A2 := q0_4 A20; clear A20; obtain rfl := Option.some.inj H; go_enter Try.func46, Try.ntmps46; (go_wp2_with (first | ((with_reducible refine gate_callee (f := 59) rfl ?_); refine goesL_ (some 4) rfl rfl Try.func59 (by kernel_rfl) rfl #[.int .i64 a0, .int .i64 (-7), .int .i64 7] rfl ma ?_; (with_reducible refine (impl_InRange.calls a0 (-7) 7 t201 _ A2.out).mono ?_); rintro e w' ⟨rfl, ⟨nd, rfl⟩⟩; refine ⟨_, rfl, ?_⟩))); go_ret; exact ⟨by first | rfl | (simp; done) | (simp [*]; done), by repeat (first | exact Drawn0.refl _ | apply Drawn0.step)⟩
/-! ### impl_IsChord: function 41 -/
def impl_IsChord.f (a0_0 : Int) (a0_1 : Int) : Option (Bool) := (impl_InRange.f a0_0 0 11).bind fun t203 => (if t203 = true then ((impl_InRange.f a0_1 1 5).bind fun t204 => (some t204)) else (some false))
set_option maxHeartbeats 8000000 in
set_option maxRecDepth 100000 in
theorem impl_IsChord.calls (a0_0 : Int) (a0_1 : Int) (r : Bool) (w : World) (h : impl_IsChord.f a0_0 a0_1 = some r) :
 Calls Try.prog 41 #[.agg #[.int .i64 a0_0, .int .i64 a0_1]] w fun e w' => e = .returned (.bool r) ∧ Below w.heap.size w w' := by
 have hu30 := Try.underlying30; have HB := q0_4 (Below.refl w.heap.size w); (have H : ((impl_InRange.f a0_0 0 11).bind fun t203 => (if t203 = true then ((impl_InRange.f a0_1 1 5).bind fun t204 => (some t204)) else (some false))) = some r := h); clear h; replace H := Option.bind_eq_some_iff.mp H; obtain ⟨t203, A20, H⟩ := H; replace H : (if t203 = true then ((impl_InRange.f a0_1 1 5).bind fun t204 => (some t204)) else (some false)) = some r := H; have A2 := q0_4 A20; clear A20
 by_cases c3 : t203 = true
 · subst c3
   have H1 : ((impl_InRange.f a0_1 1 5).bind fun t204 => (some t204)) = some r := by rw [if_pos rfl] at H; exact H
   clear H; have H := H1; clear H1; replace H := Option.bind_eq_some_iff.mp H; obtain ⟨t204, A40, H⟩ := H; replace H : (some t204) = some r := H; have A4 := q0_4 A40; clear A40; obtain rfl := Option.some.inj H; go_enter Try.func41, Try.ntmps41; (go_wp2_with (first | ((with_reducible refine gate_dst (N := 1) rfl ?_); refine box_event ?hg (N := 1) ?hd (cs := #[.int .i64 a0_0, .int .i64 a0_1]) (t := 30) ?hr ?_; (case hd => rfl); (case hg => rfl); (case hr => first | (go_simp; done) | (go_simp; rfl)); intro qd hg w5 hbox hb; have n0_ := q0_4 (below_step (qf_4) hb); have n1_ := q0_4 (hbox); have n2_ := q0_4 ((by rw [hg]; exact (below_size (qf_4)) : w.heap.size ≤ qd)); have n3_ := q0_4 ((by rw [hg]; exact (below_size (qf_4)) : w.heap.size ≤ qd)); clear HB; have HB := n0_; have qe := n1_; have GW202 := n2_; have qo := n3_; clear n0_ n1_ n2_ n3_; clear hb hbox hg; have hcz6_0 : w5.cell? ⟨qd, 0, none⟩ = some (.int .i64 a0_0) := (blk_cell qe.out 0).trans rfl; have hcz6_1 : w5.cell? ⟨qd, 1, none⟩ = some (.int .i64 a0_1) := (blk_cell qe.out 1).trans rfl; have hfz6_0 := blk_frozen qe.out 0; have hfz6_1 := blk_frozen qe.out 1) | ((with_reducible refine gate_callee (f := 59) rfl ?_); refine goesL_ (some 5) rfl rfl Try.func59 (by kernel_rfl) rfl #[.int .i64 a0_0, .int .i64 0, .int .i64 11] rfl ma ?_; (with_reducible refine (impl_InRange.calls a0_0 0 11 true _ A2.out).mono ?_); rintro e w' ⟨rfl, ⟨nd, rfl⟩⟩; refine ⟨_, rfl, ?_⟩) | (go_at_call 59; (with_reducible refine (impl_InRange.calls a0_1 1 5 t204 _ A4.out).mono ?_); rintro e w' ⟨rfl, ⟨nd, rfl⟩⟩))); go_ret; (exact ⟨by first | rfl | (simp [errW_none, errW_some] <;> rfl) | (simp [*, errW_none, errW_some] <;> rfl), by exact (qm_4)⟩)
 · replace c3 := Bool.eq_false_iff.mpr c3
   subst c3; (have H1 : (some false) = some r := by rw [if_neg (show ¬ (false = true) by decide)] at H; exact H); clear H; have H := H1; clear H1; obtain rfl := Option.some.inj H; go_enter Try.func41, Try.ntmps41; (go_wp2_with (first | ((with_reducible refine gate_dst (N := 1) rfl ?_); refine box_event ?hg (N := 1) ?hd (cs := #[.int .i64 a0_0, .int .i64 a0_1]) (t := 30) ?hr ?_; (case hd => rfl); (case hg => rfl); (case hr => first | (go_simp; done) | (go_simp; rfl)); intro qd hg w7 hbox hb; have n0_ := q0_4 (below_step (qf_4) hb); have n1_ := q0_4 (hbox); have n2_ := q0_4 ((by rw [hg]; exact (below_size (qf_4)) : w.heap.size ≤ qd)); have n3_ := q0_4 ((by rw [hg]; exact (below_size (qf_4)) : w.heap.size ≤ qd)); clear HB; have HB := n0_; have qe := n1_; have GW202 := n2_; have qo := n3_; clear n0_ n1_ n2_ n3_; clear hb hbox hg; have hcz8_0 : w7.cell? ⟨qd, 0, none⟩ = some (.int .i64 a0_0) := (blk_cell qe.out 0).trans rfl; have hcz8_1 : w7.cell? ⟨qd, 1, none⟩ = some (.int .i64 a0_1) := (blk_cell qe.out 1).trans rfl; have hfz8_0 := blk_frozen qe.out 0; have hfz8_1 := blk_frozen qe.out 1) | ((with_reducible refine gate_callee (f := 59) rfl ?_); refine goesL_ (some 5) rfl rfl Try.func59 (by kernel_rfl) rfl #[.int .i64 a0_0, .int .i64 0, .int .i64 11] rfl ma ?_; (with_reducible refine (impl_InRange.calls a0_0 0 11 false _ A2.out).mono ?_); rintro e w' ⟨rfl, ⟨nd, rfl⟩⟩; refine ⟨_, rfl, ?_⟩))); go_ret; (exact ⟨by first | rfl | (simp [errW_none, errW_some] <;> rfl) | (simp [*, errW_none, errW_some] <;> rfl), by exact (qm_4)⟩)
/-! ### impl_Mod: function 36 -/
def impl_Mod.f (a0 : Int) (a1 : Int) : Option (Int) := (impl_InRange.f a1 1 1000000000000).bind fun t205 => (if t205 = true then (if a1 = 0 then (none) else (some (Int.tmod (wrap64 ((Int.tmod a0 a1) + a1)) a1))) else (some 0))
set_option maxHeartbeats 8000000 in
set_option maxRecDepth 100000 in
theorem impl_Mod.calls (a0 : Int) (a1 : Int) (r : Int) (w : World) (h : impl_Mod.f a0 a1 = some r) :
 Calls Try.prog 36 #[.int .i64 a0, .int .i64 a1] w fun e w' => e = .returned (.int .i64 r) ∧ Drawn0 w w' := by
 (have H : ((impl_InRange.f a1 1 1000000000000).bind fun t205 => (if t205 = true then (if a1 = 0 then (none) else (some (Int.tmod (wrap64 ((Int.tmod a0 a1) + a1)) a1))) else (some 0))) = some r := h); clear h; replace H := Option.bind_eq_some_iff.mp H; obtain ⟨t205, A30, H⟩ := H; replace H : (if t205 = true then (if a1 = 0 then (none) else (some (Int.tmod (wrap64 ((Int.tmod a0 a1) + a1)) a1))) else (some 0)) = some r := H; have A3 := q0_4 A30; clear A30
 by_cases c4 : t205 = true
 · subst c4
   have H1 : (if a1 = 0 then (none) else (some (Int.tmod (wrap64 ((Int.tmod a0 a1) + a1)) a1))) = some r := by rw [if_pos rfl] at H; exact H
   clear H; have H := H1; clear H1
   by_cases c5 : a1 = 0
   · rw [if_pos c5] at H
     exact absurd H (by simp)
   · rw [if_neg c5] at H
     (have c5b0 : (a1 == 0) = false := beq_eq_false_iff_ne.mpr c5); (have c5b1 : (a1 != 0) = true := bne_iff_ne.mpr c5); obtain rfl := Option.some.inj H; go_enter Try.func36, Try.ntmps36; (go_wp2_with (first | ((with_reducible refine gate_callee (f := 59) rfl ?_); refine goesL_ (some 6) rfl rfl Try.func59 (by kernel_rfl) rfl #[.int .i64 a1, .int .i64 1, .int .i64 1000000000000] rfl ma ?_; (with_reducible refine (impl_InRange.calls a1 1 1000000000000 true _ A3.out).mono ?_); rintro e w' ⟨rfl, ⟨nd, rfl⟩⟩; refine ⟨_, rfl, ?_⟩))); go_ret; exact ⟨by first | rfl | (simp; done) | (simp [*]; done), by repeat (first | exact Drawn0.refl _ | apply Drawn0.step)⟩
 · replace c4 := Bool.eq_false_iff.mpr c4
   subst c4; (have H1 : (some 0) = some r := by rw [if_neg (show ¬ (false = true) by decide)] at H; exact H); clear H; have H := H1; clear H1; obtain rfl := Option.some.inj H; go_enter Try.func36, Try.ntmps36; (go_wp2_with (first | ((with_reducible refine gate_callee (f := 59) rfl ?_); refine goesL_ (some 6) rfl rfl Try.func59 (by kernel_rfl) rfl #[.int .i64 a1, .int .i64 1, .int .i64 1000000000000] rfl ma ?_; (with_reducible refine (impl_InRange.calls a1 1 1000000000000 false _ A3.out).mono ?_); rintro e w' ⟨rfl, ⟨nd, rfl⟩⟩; refine ⟨_, rfl, ?_⟩))); go_ret; exact ⟨by first | rfl | (simp; done) | (simp [*]; done), by repeat (first | exact Drawn0.refl _ | apply Drawn0.step)⟩
/-! ### slices_Sort_int_int: function 37 -/
def slices_Sort_int_int.f (l0 : List Int) : Option (List Int) := if l0.length < 4611686018427387904 then some (ShSort.sorted l0) else none
theorem slices_Sort_int_int.calls (P0_ : Nat → Prop) (u9000_ : Value) (l0 : List Int) (r : List Int) (w0 w : World) (hB : Below w0.heap.size w0 w) (ho0 : Kd.R (Kd.int .i64) 3 w w0.heap.size P0_ u9000_ l0) (h : slices_Sort_int_int.f l0 = some r) :
 Calls Try.prog 37 #[u9000_] w fun e w' => e = .returned (.tuple #[]) ∧ Kd.R (Kd.int .i64) 3 w' w0.heap.size (fun k_ => (P0_ k_ ∨ w.heap.size ≤ k_)) u9000_ r ∧ Below w0.heap.size w0 w' ∧ Kept w w' (fun k_ => P0_ k_) := by
 unfold slices_Sort_int_int.f at h
 by_cases c : l0.length < 4611686018427387904
 · rw [if_pos c] at h
   obtain rfl := Option.some.inj h; exact ShSort.sort_calls Lay.laySort 3 P0_ u9000_ l0 w0 w hB ho0 c
 · rw [if_neg c] at h; cases h
/-! ### slices_Compact_int_int: function 38 -/
def slices_Compact_int_int.f (k : Nat) (l0 : List Int) : Option (List Int) := some (Go.Lib.compact l0)
theorem slices_Compact_int_int.mono : ∀ a0 k, LeO (slices_Compact_int_int.f k a0) (slices_Compact_int_int.f (k + 1) a0) := fun _ _ => LeO.refl _
theorem slices_Compact_int_int.calls (k : Nat) (P0_ : Nat → Prop) (u9000_ : Value) (l0 : List Int) (r : List Int) (w0 w : World) (hB : Below w0.heap.size w0 w) (ho0 : Kd.R (Kd.int .i64) 3 w w0.heap.size P0_ u9000_ l0) (h : slices_Compact_int_int.f k l0 = some r) :
 Calls Try.prog 38 #[u9000_] w fun e w' => ∃ v0_ : Value, e = .returned (v0_) ∧ Kd.R (Kd.int .i64) 3 w' w0.heap.size (fun k_ => (P0_ k_ ∨ w.heap.size ≤ k_)) v0_ r ∧ Below w0.heap.size w0 w' ∧ Kept w w' (fun k_ => P0_ k_) := by
 obtain rfl := Option.some.inj h; exact ShCompact.compact_calls Lay.layCompact _ P0_ u9000_ l0 w0 w hB ho0
/-! ### impl_ClassesOf: function 11 -/
def impl_ClassesOf.l0 : Nat → List Int → List Int → Int → Int → Option (List Int)
 | 0, _, _, _, _ => none
 | k + 1, x3, x7, x8, x9 => if x9 < x8 then (if 0 ≤ x9 then (if x9 < (x7.length : Int) then ((impl_Mod.f (rd x7 x9) 12).bind fun t227 => (if x3.length < 17592186044416 then (impl_ClassesOf.l0 k (x3 ++ [t227]) x7 x8 (wrap64 (x9 + 1))) else (none))) else (none)) else (none)) else ((slices_Sort_int_int.f x3).bind fun t231 => ((slices_Compact_int_int.f k t231).bind fun t232 => (some t232)))
def impl_ClassesOf.f (k : Nat) (l0 : List Int) : Option (List Int) := impl_ClassesOf.l0 k (([] : List Int)) l0 (l0.length : Int) 0
theorem impl_ClassesOf.mono_l : ∀ k, (∀ y0 y1 y2 y3, LeO (impl_ClassesOf.l0 k y0 y1 y2 y3) (impl_ClassesOf.l0 (k + 1) y0 y1 y2 y3))
 | 0 => fun _ _ _ _ r h => by simp [impl_ClassesOf.l0] at h
 | k + 1 => by
  have ih0 := impl_ClassesOf.mono_l k
  · intro y0 y1 y2 y3
    unfold impl_ClassesOf.l0
    repeat' first
    | (with_reducible exact ih0 _ _ _ _)
    | (with_reducible exact slices_Compact_int_int.mono _ _)
    | (with_reducible exact LeO.refl _)
    | (with_reducible exact LeO.none _)
    | (with_reducible refine LeO.ite ?_ ?_)
    | (with_reducible refine LeO.bind ?_ (fun _ => ?_))
    | exact ih0 _ _ _ _
    | exact slices_Compact_int_int.mono _ _
    | exact LeO.none _
    | refine LeO.ite ?_ ?_
    | refine LeO.bind ?_ (fun _ => ?_)
theorem impl_ClassesOf.mono : ∀ a0 k, LeO (impl_ClassesOf.f k a0) (impl_ClassesOf.f (k + 1) a0) := by
 intro a0 k; have ih0 := impl_ClassesOf.mono_l k; unfold impl_ClassesOf.f
 repeat' first
  | (with_reducible exact ih0 _ _ _ _)
  | (with_reducible exact slices_Compact_int_int.mono _ _)
  | (with_reducible exact LeO.refl _)
  | (with_reducible exact LeO.none _)
  | (with_reducible refine LeO.ite ?_ ?_)
  | (with_reducible refine LeO.bind ?_ (fun _ => ?_))
  | exact ih0 _ _ _ _
  | exact slices_Compact_int_int.mono _ _
  | exact LeO.none _
  | refine LeO.ite ?_ ?_
  | refine LeO.bind ?_ (fun _ => ?_)
set_option maxHeartbeats 8000000 in
set_option maxRecDepth 100000 in
theorem impl_ClassesOf.calls (k : Nat) (A0 : Option Addr) (c0 : Nat) (l0 : List Int) (r : List Int) (w : World) (hr0 : Kd.C (Kd.int .i64) w A0 l0.length l0) (hc0 : l0.length ≤ c0) (h : impl_ClassesOf.f k l0 = some r) :
 Calls Try.prog 11 #[.slice A0 l0.length c0] w fun e w' => ∃ v0_ : Value, e = .returned (v0_) ∧ Kd.R (Kd.int .i64) 3 w' w.heap.size (fun _ => True) v0_ r ∧ Below w.heap.size w w' := by
 have HR0 := q0_4 hr0; have HC0 := q0_4 hc0; clear hr0 hc0; have HB := q0_4 (Below.refl w.heap.size w); (have H : (impl_ClassesOf.l0 k (([] : List Int)) l0 (l0.length : Int) 0) = some r := h); clear h; obtain ⟨y223, hy223⟩ : ∃ y_ : List Int, y_ = (([] : List Int)) := ⟨_, rfl⟩; (replace H : (impl_ClassesOf.l0 k y223 l0 (l0.length : Int) 0) = some r := by first | (rw [hy223]; with_reducible exact H) | (have H2_ := (Option.bind_some _ _).symm.trans H; rw [hy223]; with_reducible exact H2_) | (have H2_ := (Option.bind_some _ _).symm.trans H; with_reducible exact H2_) | with_reducible exact H | (rw [hy223]; exact H) | exact H); have Ny223 := q0_4 hy223; clear hy223; (have H' := q0_4 H); clear H; go_enter Try.func11, Try.ntmps11; (go_wp2_with (first | ((with_reducible refine gate_dst (N := 6) rfl ?_); refine Kd.R_lit (Kd.int .i64) _ 3 ?hg (N := 6) ?hd (xs := ([] : List Int)) (inner := []) (ok := fun _ => True) (okp := fun _ => True) ?hr ?hp (fun _ hk => hk) trivial (Below.refl _ _) (Nat.le_refl _) (by simp) ?_; (case hd => rfl); (case hg => rfl); (case hr => first | (go_simp; done) | (go_simp; rfl)); (case hp => exact (Reps.none _ _)); intro v224 w2 ho3 hb hg_ hnew_; clear hg_ hnew_; (first | rw [← Ny223.out] at ho3 | (simp only [Int.reduceToNat] at ho3; rw [← Ny223.out] at ho3)); have n0_ := q0_4 (Kd.R_lower ho3 (below_size (qf_4))); have n1_ := q0_4 (below_step (qf_4) hb); clear HB; have qp := n0_; have HB := n1_; clear n0_ n1_; clear hb ho3))); (go_loopg [3, 9] k (fun kq v3 v9 w' => ∃ (x3_1 : List Int) (x9_1 : Int), v9 = .int .i64 x9_1 ∧ Aside0 (impl_ClassesOf.l0 kq x3_1 l0 (l0.length : Int) x9_1 = some r) ∧ Aside0 (kq ≤ k) ∧ Aside0 (Kd.R (Kd.int .i64) 3 w' w.heap.size (fun _ => True) v3 x3_1) ∧ Aside0 (Below w.heap.size w w')))
 case atStart => exact ⟨(y223), (0), (by first | rfl | (simp; done) | (simp [*]; done)), H', ⟨Nat.le_refl _⟩, ⟨by refine ra ?_; exact qp.out⟩, ⟨by exact (qf_4)⟩⟩
 case round =>
  clear H'; (try clear c1); (try clear p2); obtain ⟨x3_1, x9_1, rfl, HA, HK1, qa, HB⟩ := hrel
  cases gk with
  | zero => exact absurd HA.out (by simp [impl_ClassesOf.l0])
  | succ k1 =>
   have H := HA.out; clear HA; (simp only [impl_ClassesOf.l0] at H)
   by_cases c4 : x9_1 < (l0.length : Int)
   · rw [if_pos c4] at H
     (have c4b0 : decide (x9_1 < (l0.length : Int)) = true := decide_eq_true c4); clear c4
     by_cases c5 : 0 ≤ x9_1
     · rw [if_pos c5] at H
       (have c5b0 : decide (0 ≤ x9_1) = true := decide_eq_true c5); clear c5
       by_cases c6 : x9_1 < (l0.length : Int)
       · rw [if_pos c6] at H
         (have c6b0 : decide (x9_1 < (l0.length : Int)) = true := decide_eq_true c6); clear c6; replace H := Option.bind_eq_some_iff.mp H; obtain ⟨t227, A70, H⟩ := H; replace H : (if x3_1.length < 17592186044416 then (impl_ClassesOf.l0 k1 (x3_1 ++ [t227]) l0 (l0.length : Int) (wrap64 (x9_1 + 1))) else (none)) = some r := H; have A7 := q0_4 A70; clear A70
         by_cases c8 : x3_1.length < 17592186044416
         · rw [if_pos c8] at H
           have LMc8 := q0_4 c8; clear c8; obtain ⟨y228, hy228⟩ : ∃ y_ : List Int, y_ = (x3_1 ++ [t227]) := ⟨_, rfl⟩; (replace H : (impl_ClassesOf.l0 k1 y228 l0 (l0.length : Int) (wrap64 (x9_1 + 1))) = some r := by first | (rw [hy228]; with_reducible exact H) | (have H2_ := (Option.bind_some _ _).symm.trans H; rw [hy228]; with_reducible exact H2_) | (have H2_ := (Option.bind_some _ _).symm.trans H; with_reducible exact H2_) | with_reducible exact H | (rw [hy228]; exact H) | exact H); have Ny228 := q0_4 hy228; clear hy228; (have H' := q0_4 H); clear H; (have p226 : 0 ≤ (x9_1 : Int) := of_decide_eq_true (by first | (with_reducible assumption) | assumption)); (have q226 : x9_1 < (l0.length : Int) := of_decide_eq_true (by first | (with_reducible assumption) | assumption)); obtain ⟨ad226, e226, hx226_0⟩ := Kd.at_int HR0.out x9_1 p226 q226
           cases e226
           replace hx226_0 := (HB.out.cell (World.block_lt_of_cell? w _ hx226_0)).trans hx226_0; replace p226 := eq_true p226; replace q226 := eq_true q226; (go_wp2_with (first | ((with_reducible refine gate_callee (f := 36) rfl ?_); refine goesL_ (some 15) rfl rfl Try.func36 (by kernel_rfl) rfl #[.int .i64 (rd l0 x9_1), .int .i64 12] rfl ma ?_; (with_reducible refine (impl_Mod.calls (rd l0 x9_1) 12 t227 _ A7.out).mono ?_); rintro e w' ⟨rfl, ⟨nd, rfl⟩⟩; refine ⟨_, rfl, ?_⟩) | ((with_reducible refine gate_builtin (b := .append) (xs := #[.tmp 13, .tmp 16]) rfl ?_); at_builtin; refine Kd.R_append (Kd.int .i64) (w0 := w) w.heap.size rfl (.tmp 13) (.tmp 16) 22 3 (.int .i64 0) 8 rfl Try.underlying22 info3 rfl (by decide) (by omega) u3 x3_1 t227 [.int .i64 t227] (fun _ => True) (fun _ => False) rfl rfl ?aP (fun _ hk => hk.elim) ?aF ?aO ?aB ?aS ?aL ?_; (case aP => exact rfl); (case aB => exact (qf_4)); (case aF => exact (fun _ _ => trivial)); (case aO => exact (ra qa.out)); (case aS => exact (below_size (qf_4))); (case aL => have := LMc8.out; omega); intro v229 w9 ho hb hg hat; rw [← Ny228.out] at ho; have n0_ := q0_4 (hb); have n1_ := q0_4 (ho); clear HB; clear qa; have HB := n0_; have qq := n1_; clear n0_ n1_; clear ho hb hg hat))); (go_roundg k1)
           case measure => have := HK1.out; omega
           case rel => exact ⟨(y228), (wrap64 (x9_1 + 1)), (by first | rfl | (simp; done) | (simp [*]; done)), H', ⟨by have := HK1.out; omega⟩, ⟨by refine ra ?_; exact qq.out⟩, ⟨by exact (qf_4)⟩⟩
         · rw [if_neg c8] at H
           exact absurd H (by simp)
       · rw [if_neg c6] at H
         exact absurd H (by simp)
     · rw [if_neg c5] at H
       exact absurd H (by simp)
   · rw [if_neg c4] at H
     (have c4b0 : decide (x9_1 < (l0.length : Int)) = false := decide_eq_false c4); clear c4; replace H := Option.bind_eq_some_iff.mp H; obtain ⟨t231, A100, H⟩ := H; replace H : ((slices_Compact_int_int.f k1 t231).bind fun t232 => (some t232)) = some r := H; have A10 := q0_4 A100; clear A100; replace H := Option.bind_eq_some_iff.mp H; obtain ⟨t232, A110, H⟩ := H; replace H : (some t232) = some r := H; have A11 := q0_4 A110; clear A110; obtain rfl := Option.some.inj H; obtain ⟨qk, ql, eo12⟩ := Kd.R_slice qa.out; subst eo12; (go_wp2_with (first | ((with_reducible refine gate_callee (f := 37) rfl ?_); refine goesL_ (some 20) rfl rfl Try.func37 (by kernel_rfl) rfl #[.slice qk x3_1.length ql] rfl ma ?_; (with_reducible refine (slices_Sort_int_int.calls (fun k_ => some k_ = (.slice qk x3_1.length ql : Value).ownBlock) (.slice qk x3_1.length ql) x3_1 t231 w _ ?side1 ?side2 A10.out).mono ?_); (case side1 => exact (qf_4)); (case side2 => exact Kd.R_tight rfl qa.out); rintro e w13 ⟨rfl, hy0, hb, hkp⟩; refine ⟨_, rfl, ?_⟩; have n0_ := q0_4 (Kd.R_reok rfl hy0 (fun k_ e_ => qa.out.1 k_ e_)); have n1_ := q0_4 (hb); clear qa; clear HB; have qa := n0_; have HB := n1_; clear n0_ n1_; (try clear hb); (try clear hkp); (try clear hy0)) | ((with_reducible refine gate_callee (f := 38) rfl ?_); refine goesL_ (some 22) rfl rfl Try.func38 (by kernel_rfl) rfl #[.slice qk x3_1.length ql] rfl ma ?_; (with_reducible refine (slices_Compact_int_int.calls k1 (fun k_ => some k_ = (.slice qk x3_1.length ql : Value).ownBlock) (.slice qk x3_1.length ql) t231 t232 w _ ?side1 ?side2 A11.out).mono ?_); (case side1 => exact (qf_4)); (case side2 => exact Kd.R_tight rfl qa.out); rintro e w14 ⟨v233, rfl, ho0, hb, hkp⟩; refine ⟨_, rfl, ?_⟩; have n0_ := q0_4 (Kd.R_mono (ok' := fun k_ => True) ho0 (fun k_ hk_ => trivial)); have n1_ := q0_4 (hb); clear HB; clear qa; have qr := n0_; have HB := n1_; clear n0_ n1_; (try clear hb); (try clear hkp); (try clear ho0)))); go_ret; (exact ⟨_, by first | rfl | (simp [errW_none, errW_some] <;> rfl) | (simp [*, errW_none, errW_some] <;> rfl), by refine ra ?_; exact qr.out, by exact (qf_4)⟩)
/-! ### impl_TonesOf: function 17 -/
def impl_TonesOf.l0 : Nat → List Int → List Int → Int → Int → Int → Int → Option (List Int)
 | 0, _, _, _, _, _, _ => none
 | k + 1, x3, x21, x22, x23, x236000, x236001 => if x23 < x22 then (if 0 ≤ x23 then (if x23 < (x21.length : Int) then (if x3.length < 17592186044416 then (impl_TonesOf.l0 k (x3 ++ [wrap64 (x236000 + (rd x21 x23))]) x21 x22 (wrap64 (x23 + 1)) x236000 x236001) else (none)) else (none)) else (none)) else ((impl_ClassesOf.f k x3).bind fun t266 => (some t266))
def impl_TonesOf.f (k : Nat) (a0_0 : Int) (a0_1 : Int) : Option (List Int) := (impl_IsChord.f a0_0 a0_1).bind fun t236 => (if t236 = true then ((some (([(([0, 4, 7] : List Int)), (([0, 3, 7] : List Int)), (([0, 3, 6] : List Int)), (([0, 4, 8] : List Int)), (([0, 4, 7, 10] : List Int))] : List (List Int)) : List (List Int))).bind fun y258 => (if 0 ≤ (wrap64 (a0_1 - 1)) then (if (wrap64 (a0_1 - 1)) < (y258.length : Int) then (impl_TonesOf.l0 k (([] : List Int)) (rd_L1 y258 (wrap64 (a0_1 - 1))) ((rd_L1 y258 (wrap64 (a0_1 - 1))).length : Int) 0 a0_0 a0_1) else (none)) else (none))) else (some (([] : List Int))))
theorem impl_TonesOf.mono_l : ∀ k, (∀ y0 y1 y2 y3 y4 y5, LeO (impl_TonesOf.l0 k y0 y1 y2 y3 y4 y5) (impl_TonesOf.l0 (k + 1) y0 y1 y2 y3 y4 y5))
 | 0 => fun _ _ _ _ _ _ r h => by simp [impl_TonesOf.l0] at h
 | k + 1 => by
  have ih0 := impl_TonesOf.mono_l k
  · intro y0 y1 y2 y3 y4 y5
    unfold impl_TonesOf.l0
    repeat' first
    | (with_reducible exact ih0 _ _ _ _ _ _)
    | (with_reducible exact impl_ClassesOf.mono _ _)
    | (with_reducible exact LeO.refl _)
    | (with_reducible exact LeO.none _)
    | (with_reducible refine LeO.ite ?_ ?_)
    | (with_reducible refine LeO.bind ?_ (fun _ => ?_))
    | exact ih0 _ _ _ _ _ _
    | exact impl_ClassesOf.mono _ _
    | exact LeO.none _
    | refine LeO.ite ?_ ?_
    | refine LeO.bind ?_ (fun _ => ?_)
theorem impl_TonesOf.mono : ∀ a0 a1 k, LeO (impl_TonesOf.f k a0 a1) (impl_TonesOf.f (k + 1) a0 a1) := by
 intro a0 a1 k; have ih0 := impl_TonesOf.mono_l k; unfold impl_TonesOf.f
 repeat' first
  | (with_reducible exact ih0 _ _ _ _ _ _)
  | (with_reducible exact impl_ClassesOf.mono _ _)
  | (with_reducible exact LeO.refl _)
  | (with_reducible exact LeO.none _)
  | (with_reducible refine LeO.ite ?_ ?_)
  | (with_reducible refine LeO.bind ?_ (fun _ => ?_))
  | exact ih0 _ _ _ _ _ _
  | exact impl_ClassesOf.mono _ _
  | exact LeO.none _
  | refine LeO.ite ?_ ?_
  | refine LeO.bind ?_ (fun _ => ?_)
set_option maxHeartbeats 8000000 in
set_option maxRecDepth 100000 in
theorem impl_TonesOf.calls (k : Nat) (a0_0 : Int) (a0_1 : Int) (r : List Int) (w : World) (h : impl_TonesOf.f k a0_0 a0_1 = some r) :
 Calls Try.prog 17 #[.agg #[.int .i64 a0_0, .int .i64 a0_1]] w fun e w' => ∃ v0_ : Value, e = .returned (v0_) ∧ Kd.R (Kd.int .i64) 3 w' w.heap.size (fun _ => True) v0_ r ∧ Below w.heap.size w w' := by
 have hu30 := Try.underlying30; have HB := q0_4 (Below.refl w.heap.size w); (have H : ((impl_IsChord.f a0_0 a0_1).bind fun t236 => (if t236 = true then ((some (([(([0, 4, 7] : List Int)), (([0, 3, 7] : List Int)), (([0, 3, 6] : List Int)), (([0, 4, 8] : List Int)), (([0, 4, 7, 10] : List Int))] : List (List Int)) : List (List Int))).bind fun y258 => (if 0 ≤ (wrap64 (a0_1 - 1)) then (if (wrap64 (a0_1 - 1)) < (y258.length : Int) then (impl_TonesOf.l0 k (([] : List Int)) (rd_L1 y258 (wrap64 (a0_1 - 1))) ((rd_L1 y258 (wrap64 (a0_1 - 1))).length : Int) 0 a0_0 a0_1) else (none)) else (none))) else (some (([] : List Int))))) = some r := h); clear h; replace H := Option.bind_eq_some_iff.mp H; obtain ⟨t236, A20, H⟩ := H; replace H : (if t236 = true then ((some (([(([0, 4, 7] : List Int)), (([0, 3, 7] : List Int)), (([0, 3, 6] : List Int)), (([0, 4, 8] : List Int)), (([0, 4, 7, 10] : List Int))] : List (List Int)) : List (List Int))).bind fun y258 => (if 0 ≤ (wrap64 (a0_1 - 1)) then (if (wrap64 (a0_1 - 1)) < (y258.length : Int) then (impl_TonesOf.l0 k (([] : List Int)) (rd_L1 y258 (wrap64 (a0_1 - 1))) ((rd_L1 y258 (wrap64 (a0_1 - 1))).length : Int) 0 a0_0 a0_1) else (none)) else (none))) else (some (([] : List Int)))) = some r := H; have A2 := q0_4 A20; clear A20
 by_cases c3 : t236 = true
 · subst c3
   have H1 : ((some (([(([0, 4, 7] : List Int)), (([0, 3, 7] : List Int)), (([0, 3, 6] : List Int)), (([0, 4, 8] : List Int)), (([0, 4, 7, 10] : List Int))] : List (List Int)) : List (List Int))).bind fun y258 => (if 0 ≤ (wrap64 (a0_1 - 1)) then (if (wrap64 (a0_1 - 1)) < (y258.length : Int) then (impl_TonesOf.l0 k (([] : List Int)) (rd_L1 y258 (wrap64 (a0_1 - 1))) ((rd_L1 y258 (wrap64 (a0_1 - 1))).length : Int) 0 a0_0 a0_1) else (none)) else (none))) = some r := by rw [if_pos rfl] at H; exact H
   clear H; have H := H1; clear H1; obtain ⟨y240, hy240⟩ : ∃ y_ : List Int, y_ = (([] : List Int)) := ⟨_, rfl⟩; (replace H : ((some (([(([0, 4, 7] : List Int)), (([0, 3, 7] : List Int)), (([0, 3, 6] : List Int)), (([0, 4, 8] : List Int)), (([0, 4, 7, 10] : List Int))] : List (List Int)) : List (List Int))).bind fun y258 => (if 0 ≤ (wrap64 (a0_1 - 1)) then (if (wrap64 (a0_1 - 1)) < (y258.length : Int) then (impl_TonesOf.l0 k y240 (rd_L1 y258 (wrap64 (a0_1 - 1))) ((rd_L1 y258 (wrap64 (a0_1 - 1))).length : Int) 0 a0_0 a0_1) else (none)) else (none))) = some r := by first | (rw [hy240]; with_reducible exact H) | (have H2_ := (Option.bind_some _ _).symm.trans H; rw [hy240]; with_reducible exact H2_) | (have H2_ := (Option.bind_some _ _).symm.trans H; with_reducible exact H2_) | with_reducible exact H | (rw [hy240]; exact H) | exact H); have Ny240 := q0_4 hy240; clear hy240; obtain ⟨y243, hy243⟩ : ∃ y_ : List Int, y_ = (([0, 4, 7] : List Int)) := ⟨_, rfl⟩; (replace H : ((some (([y243, (([0, 3, 7] : List Int)), (([0, 3, 6] : List Int)), (([0, 4, 8] : List Int)), (([0, 4, 7, 10] : List Int))] : List (List Int)) : List (List Int))).bind fun y258 => (if 0 ≤ (wrap64 (a0_1 - 1)) then (if (wrap64 (a0_1 - 1)) < (y258.length : Int) then (impl_TonesOf.l0 k y240 (rd_L1 y258 (wrap64 (a0_1 - 1))) ((rd_L1 y258 (wrap64 (a0_1 - 1))).length : Int) 0 a0_0 a0_1) else (none)) else (none))) = some r := by first | (rw [hy243]; with_reducible exact H) | (have H2_ := (Option.bind_some _ _).symm.trans H; rw [hy243]; with_reducible exact H2_) | (have H2_ := (Option.bind_some _ _).symm.trans H; with_reducible exact H2_) | with_reducible exact H | (rw [hy243]; exact H) | exact H); have Ny243 := q0_4 hy243; clear hy243; obtain ⟨y246, hy246⟩ : ∃ y_ : List Int, y_ = (([0, 3, 7] : List Int)) := ⟨_, rfl⟩; (replace H : ((some (([y243, y246, (([0, 3, 6] : List Int)), (([0, 4, 8] : List Int)), (([0, 4, 7, 10] : List Int))] : List (List Int)) : List (List Int))).bind fun y258 => (if 0 ≤ (wrap64 (a0_1 - 1)) then (if (wrap64 (a0_1 - 1)) < (y258.length : Int) then (impl_TonesOf.l0 k y240 (rd_L1 y258 (wrap64 (a0_1 - 1))) ((rd_L1 y258 (wrap64 (a0_1 - 1))).length : Int) 0 a0_0 a0_1) else (none)) else (none))) = some r := by first | (rw [hy246]; with_reducible exact H) | (have H2_ := (Option.bind_some _ _).symm.trans H; rw [hy246]; with_reducible exact H2_) | (have H2_ := (Option.bind_some _ _).symm.trans H; with_reducible exact H2_) | with_reducible exact H | (rw [hy246]; exact H) | exact H); have Ny246 := q0_4 hy246; clear hy246; obtain ⟨y249, hy249⟩ : ∃ y_ : List Int, y_ = (([0, 3, 6] : List Int)) := ⟨_, rfl⟩
   replace H : ((some (([y243, y246, y249, (([0, 4, 8] : List Int)), (([0, 4, 7, 10] : List Int))] : List (List Int)) : List (List Int))).bind fun y258 => (if 0 ≤ (wrap64 (a0_1 - 1)) then (if (wrap64 (a0_1 - 1)) < (y258.length : Int) then (impl_TonesOf.l0 k y240 (rd_L1 y258 (wrap64 (a0_1 - 1))) ((rd_L1 y258 (wrap64 (a0_1 - 1))).length : Int) 0 a0_0 a0_1) else (none)) else (none))) = some r := by first | (rw [hy249]; with_reducible exact H) | (have H2_ := (Option.bind_some _ _).symm.trans H; rw [hy249]; with_reducible exact H2_) | (have H2_ := (Option.bind_some _ _).symm.trans H; with_reducible exact H2_) | with_reducible exact H | (rw [hy249]; exact H) | exact H
   have Ny249 := q0_4 hy249; clear hy249; obtain ⟨y252, hy252⟩ : ∃ y_ : List Int, y_ = (([0, 4, 8] : List Int)) := ⟨_, rfl⟩; (replace H : ((some (([y243, y246, y249, y252, (([0, 4, 7, 10] : List Int))] : List (List Int)) : List (List Int))).bind fun y258 => (if 0 ≤ (wrap64 (a0_1 - 1)) then (if (wrap64 (a0_1 - 1)) < (y258.length : Int) then (impl_TonesOf.l0 k y240 (rd_L1 y258 (wrap64 (a0_1 - 1))) ((rd_L1 y258 (wrap64 (a0_1 - 1))).length : Int) 0 a0_0 a0_1) else (none)) else (none))) = some r := by first | (rw [hy252]; with_reducible exact H) | (have H2_ := (Option.bind_some _ _).symm.trans H; rw [hy252]; with_reducible exact H2_) | (have H2_ := (Option.bind_some _ _).symm.trans H; with_reducible exact H2_) | with_reducible exact H | (rw [hy252]; exact H) | exact H); have Ny252 := q0_4 hy252; clear hy252; obtain ⟨y255, hy255⟩ : ∃ y_ : List Int, y_ = (([0, 4, 7, 10] : List Int)) := ⟨_, rfl⟩; (replace H : ((some (([y243, y246, y249, y252, y255] : List (List Int)) : List (List Int))).bind fun y258 => (if 0 ≤ (wrap64 (a0_1 - 1)) then (if (wrap64 (a0_1 - 1)) < (y258.length : Int) then (impl_TonesOf.l0 k y240 (rd_L1 y258 (wrap64 (a0_1 - 1))) ((rd_L1 y258 (wrap64 (a0_1 - 1))).length : Int) 0 a0_0 a0_1) else (none)) else (none))) = some r := by first | (rw [hy255]; with_reducible exact H) | (have H2_ := (Option.bind_some _ _).symm.trans H; rw [hy255]; with_reducible exact H2_) | (have H2_ := (Option.bind_some _ _).symm.trans H; with_reducible exact H2_) | with_reducible exact H | (rw [hy255]; exact H) | exact H); have Ny255 := q0_4 hy255; clear hy255; obtain ⟨y258, hy258⟩ : ∃ y_ : List (List Int), y_ = (([y243, y246, y249, y252, y255] : List (List Int))) := ⟨_, rfl⟩; (replace H : (if 0 ≤ (wrap64 (a0_1 - 1)) then (if (wrap64 (a0_1 - 1)) < (y258.length : Int) then (impl_TonesOf.l0 k y240 (rd_L1 y258 (wrap64 (a0_1 - 1))) ((rd_L1 y258 (wrap64 (a0_1 - 1))).length : Int) 0 a0_0 a0_1) else (none)) else (none)) = some r := by first | (rw [hy258]; with_reducible exact H) | (have H2_ := (Option.bind_some _ _).symm.trans H; rw [hy258]; with_reducible exact H2_) | (have H2_ := (Option.bind_some _ _).symm.trans H; with_reducible exact H2_) | with_reducible exact H | (rw [hy258]; exact H) | exact H); have Ny258 := q0_4 hy258; clear hy258; obtain ⟨ji4, hji4⟩ : ∃ j_ : Int, (wrap64 (a0_1 - 1)) = j_ := ⟨_, rfl⟩; (replace H : (if 0 ≤ (ji4) then (if (ji4) < (y258.length : Int) then (impl_TonesOf.l0 k y240 (rd_L1 y258 (ji4)) ((rd_L1 y258 (ji4)).length : Int) 0 a0_0 a0_1) else (none)) else (none)) = some r := by first | (rw [hji4] at H; exact H) | (simp only [hji4] at H ⊢; exact H)); ((try rw [hji4] at A2)); (have hji4w : (IntKind.i64.wrap (a0_1 - 1)) = ji4 := (i64_w _).trans hji4)
   by_cases c5 : 0 ≤ (ji4)
   · rw [if_pos c5] at H
     (have c5b0 : decide (0 ≤ (ji4)) = true := decide_eq_true c5); clear c5
     by_cases c6 : (ji4) < (y258.length : Int)
     · rw [if_pos c6] at H
       (have c6b0 : decide ((ji4) < (y258.length : Int)) = true := decide_eq_true c6); clear c6; (have H' := q0_4 H); clear H; go_enter Try.func17, Try.ntmps17
       (go_wp2_with (first | ((with_reducible refine gate_dst (N := 1) rfl ?_); refine box_event ?hg (N := 1) ?hd (cs := #[.int .i64 a0_0, .int .i64 a0_1]) (t := 30) ?hr ?_; (case hd => rfl); (case hg => rfl); (case hr => first | (go_simp; done) | (go_simp; rfl)); intro q4 hg w7 hbox hb; have n0_ := q0_4 (below_step (qf_4) hb); have n1_ := q0_4 (hbox); have n2_ := q0_4 ((by rw [hg]; exact (below_size (qf_4)) : w.heap.size ≤ q4)); have n3_ := q0_4 ((by rw [hg]; exact (below_size (qf_4)) : w.heap.size ≤ q4)); clear HB; have HB := n0_; have q1 := n1_; have GW235 := n2_; have qs := n3_; clear n0_ n1_ n2_ n3_; clear hb hbox hg; have hcz8_0 : w7.cell? ⟨q4, 0, none⟩ = some (.int .i64 a0_0) := (blk_cell q1.out 0).trans rfl; have hcz8_1 : w7.cell? ⟨q4, 1, none⟩ = some (.int .i64 a0_1) := (blk_cell q1.out 1).trans rfl; have hfz8_0 := blk_frozen q1.out 0; have hfz8_1 := blk_frozen q1.out 1) | ((with_reducible refine gate_callee (f := 41) rfl ?_); refine goesL_ (some 7) rfl rfl Try.func41 (by kernel_rfl) rfl #[.agg #[.int .i64 a0_0, .int .i64 a0_1]] rfl ma ?_; (with_reducible refine (impl_IsChord.calls a0_0 a0_1 true _ A2.out).mono ?_); rintro e w9 ⟨rfl, hb⟩; refine ⟨_, rfl, ?_⟩; have n0_ := q0_4 (bb q1.out hb); have n1_ := q0_4 (below_step (q3_4) hb); clear q1; clear HB; have q1 := n0_; have HB := n1_; clear n0_ n1_; (try clear hb); (try clear hb2); (try clear hk); (try clear hi)) | ((with_reducible refine gate_dst (N := 10) rfl ?_); refine Kd.R_lit (Kd.int .i64) _ 3 ?hg (N := 10) ?hd (xs := ([] : List Int)) (inner := []) (ok := fun _ => True) (okp := fun _ => True) ?hr ?hp (fun _ hk => hk) trivial (Below.refl _ _) (Nat.le_refl _) (by simp) ?_; (case hd => rfl); (case hg => rfl); (case hr => first | (go_simp; done) | (go_simp; rfl)); (case hp => exact (Reps.none _ _)); intro v241 w10 ho11 hb hg_ hnew_; clear hg_ hnew_; (first | rw [← Ny240.out] at ho11 | (simp only [Int.reduceToNat] at ho11; rw [← Ny240.out] at ho11)); have n0_ := q0_4 (Kd.R_lower ho11 (below_size (q3_4))); have n1_ := q0_4 (bb q1.out hb); have n2_ := q0_4 (below_step (q3_4) hb); clear q1; clear HB; have q5 := n0_; have q1 := n1_; have HB := n2_; clear n0_ n1_ n2_; clear hb ho11) | ((with_reducible refine gate_dst (N := 11) rfl ?_); refine Kd.R_lit (Kd.int .i64) _ 3 ?hg (N := 11) ?hd (xs := ([0, 4, 7] : List Int)) (inner := [.int .i64 0, .int .i64 4, .int .i64 7]) (ok := fun _ => True) (okp := fun _ => True) ?hr ?hp (fun _ hk => hk) trivial (Below.refl _ _) (Nat.le_refl _) (by simp) ?_; (case hd => rfl); (case hg => rfl); (case hr => first | (go_simp; done) | (go_simp; rfl)); (case hp => exact (Reps.one (show Kd.M (Kd.int .i64) _ _ _ 0 [.int .i64 0] from rfl) (Reps.one (show Kd.M (Kd.int .i64) _ _ _ 4 [.int .i64 4] from rfl) (Reps.one (show Kd.M (Kd.int .i64) _ _ _ 7 [.int .i64 7] from rfl) (Reps.none _ _))))); intro v244 w12 ho13 hb hg_ hnew_; clear hg_ hnew_; (first | rw [← Ny243.out] at ho13 | (simp only [Int.reduceToNat] at ho13; rw [← Ny243.out] at ho13)); have n0_ := q0_4 (Kd.R_elder' (ra q5.out) (Kd.R_base ho13) hb); have n1_ := q0_4 (Kd.R_lower (Kd.R_new' ho13 (Kd.R_lt (ra q5.out))) (below_size (q3_4))); have n2_ := q0_4 (bb q1.out hb); have n3_ := q0_4 (below_step (q3_4) hb); clear q5; clear q1; clear HB; have q5 := n0_; have q7 := n1_; have q1 := n2_; have HB := n3_; clear n0_ n1_ n2_ n3_; clear hb ho13) | ((with_reducible refine gate_dst (N := 12) rfl ?_); refine Kd.R_lit (Kd.int .i64) _ 3 ?hg (N := 12) ?hd (xs := ([0, 3, 7] : List Int)) (inner := [.int .i64 0, .int .i64 3, .int .i64 7]) (ok := fun _ => True) (okp := fun _ => True) ?hr ?hp (fun _ hk => hk) trivial (Below.refl _ _) (Nat.le_refl _) (by simp) ?_; (case hd => rfl); (case hg => rfl); (case hr => first | (go_simp; done) | (go_simp; rfl)); (case hp => exact (Reps.one (show Kd.M (Kd.int .i64) _ _ _ 0 [.int .i64 0] from rfl) (Reps.one (show Kd.M (Kd.int .i64) _ _ _ 3 [.int .i64 3] from rfl) (Reps.one (show Kd.M (Kd.int .i64) _ _ _ 7 [.int .i64 7] from rfl) (Reps.none _ _))))); intro v247 w14 ho15 hb hg_ hnew_; clear hg_ hnew_; (first | rw [← Ny246.out] at ho15 | (simp only [Int.reduceToNat] at ho15; rw [← Ny246.out] at ho15)); have n0_ := q0_4 (Kd.R_elder' (ra q5.out) (Kd.R_base ho15) hb); have n1_ := q0_4 (Kd.R_elder' (ra q7.out) (Kd.R_base ho15) hb); have n2_ := q0_4 (Kd.R_lower (Kd.R_new' (Kd.R_new' ho15 (Kd.R_lt (ra q5.out))) (Kd.R_lt (ra q7.out))) (below_size (q3_4))); have n3_ := q0_4 (bb q1.out hb); have n4_ := q0_4 (below_step (q3_4) hb); clear q5; clear q7; clear q1; clear HB; have q5 := n0_; have q7 := n1_; have q8 := n2_; have q1 := n3_; have HB := n4_; clear n0_ n1_ n2_ n3_ n4_; clear hb ho15) | ((with_reducible refine gate_dst (N := 13) rfl ?_); refine Kd.R_lit (Kd.int .i64) _ 3 ?hg (N := 13) ?hd (xs := ([0, 3, 6] : List Int)) (inner := [.int .i64 0, .int .i64 3, .int .i64 6]) (ok := fun _ => True) (okp := fun _ => True) ?hr ?hp (fun _ hk => hk) trivial (Below.refl _ _) (Nat.le_refl _) (by simp) ?_; (case hd => rfl); (case hg => rfl); (case hr => first | (go_simp; done) | (go_simp; rfl)); (case hp => exact (Reps.one (show Kd.M (Kd.int .i64) _ _ _ 0 [.int .i64 0] from rfl) (Reps.one (show Kd.M (Kd.int .i64) _ _ _ 3 [.int .i64 3] from rfl) (Reps.one (show Kd.M (Kd.int .i64) _ _ _ 6 [.int .i64 6] from rfl) (Reps.none _ _))))); intro v250 w16 ho17 hb hg_ hnew_; clear hg_ hnew_; (first | rw [← Ny249.out] at ho17 | (simp only [Int.reduceToNat] at ho17; rw [← Ny249.out] at ho17)); have n0_ := q0_4 (Kd.R_elder' (ra q5.out) (Kd.R_base ho17) hb); have n1_ := q0_4 (Kd.R_elder' (ra q7.out) (Kd.R_base ho17) hb); have n2_ := q0_4 (Kd.R_elder' (ra q8.out) (Kd.R_base ho17) hb); have n3_ := q0_4 (Kd.R_lower (Kd.R_new' (Kd.R_new' (Kd.R_new' ho17 (Kd.R_lt (ra q5.out))) (Kd.R_lt (ra q7.out))) (Kd.R_lt (ra q8.out))) (below_size (q3_4))); have n4_ := q0_4 (bb q1.out hb); have n5_ := q0_4 (below_step (q3_4) hb); clear q5; clear q7; clear q8; clear q1; clear HB; have q5 := n0_; have q7 := n1_; have q8 := n2_; have qb := n3_; have q1 := n4_; have HB := n5_; clear n0_ n1_ n2_ n3_ n4_ n5_; clear hb ho17) | ((with_reducible refine gate_dst (N := 14) rfl ?_); refine Kd.R_lit (Kd.int .i64) _ 3 ?hg (N := 14) ?hd (xs := ([0, 4, 8] : List Int)) (inner := [.int .i64 0, .int .i64 4, .int .i64 8]) (ok := fun _ => True) (okp := fun _ => True) ?hr ?hp (fun _ hk => hk) trivial (Below.refl _ _) (Nat.le_refl _) (by simp) ?_; (case hd => rfl); (case hg => rfl); (case hr => first | (go_simp; done) | (go_simp; rfl)); (case hp => exact (Reps.one (show Kd.M (Kd.int .i64) _ _ _ 0 [.int .i64 0] from rfl) (Reps.one (show Kd.M (Kd.int .i64) _ _ _ 4 [.int .i64 4] from rfl) (Reps.one (show Kd.M (Kd.int .i64) _ _ _ 8 [.int .i64 8] from rfl) (Reps.none _ _))))); intro v253 w18 ho19 hb hg_ hnew_; clear hg_ hnew_; (first | rw [← Ny252.out] at ho19 | (simp only [Int.reduceToNat] at ho19; rw [← Ny252.out] at ho19)); have n0_ := q0_4 (Kd.R_elder' (ra q5.out) (Kd.R_base ho19) hb); have n1_ := q0_4 (Kd.R_elder' (ra q7.out) (Kd.R_base ho19) hb); have n2_ := q0_4 (Kd.R_elder' (ra q8.out) (Kd.R_base ho19) hb); have n3_ := q0_4 (Kd.R_elder' (ra qb.out) (Kd.R_base ho19) hb); have n4_ := q0_4 (Kd.R_lower (Kd.R_new' (Kd.R_new' (Kd.R_new' (Kd.R_new' ho19 (Kd.R_lt (ra q5.out))) (Kd.R_lt (ra q7.out))) (Kd.R_lt (ra q8.out))) (Kd.R_lt (ra qb.out))) (below_size (q3_4))); have n5_ := q0_4 (bb q1.out hb); have n6_ := q0_4 (below_step (q3_4) hb); clear q5; clear q7; clear q8; clear qb; clear q1; clear HB; have q5 := n0_; have q7 := n1_; have q8 := n2_; have qb := n3_; have qg := n4_; have q1 := n5_; have HB := n6_; clear n0_ n1_ n2_ n3_ n4_ n5_ n6_; clear hb ho19) | ((with_reducible refine gate_dst (N := 15) rfl ?_); refine Kd.R_lit (Kd.int .i64) _ 3 ?hg (N := 15) ?hd (xs := ([0, 4, 7, 10] : List Int)) (inner := [.int .i64 0, .int .i64 4, .int .i64 7, .int .i64 10]) (ok := fun _ => True) (okp := fun _ => True) ?hr ?hp (fun _ hk => hk) trivial (Below.refl _ _) (Nat.le_refl _) (by simp) ?_; (case hd => rfl); (case hg => rfl); (case hr => first | (go_simp; done) | (go_simp; rfl)); (case hp => exact (Reps.one (show Kd.M (Kd.int .i64) _ _ _ 0 [.int .i64 0] from rfl) (Reps.one (show Kd.M (Kd.int .i64) _ _ _ 4 [.int .i64 4] from rfl) (Reps.one (show Kd.M (Kd.int .i64) _ _ _ 7 [.int .i64 7] from rfl) (Reps.one (show Kd.M (Kd.int .i64) _ _ _ 10 [.int .i64 10] from rfl) (Reps.none _ _)))))); intro v256 w20 ho21 hb hg_ hnew_; clear hg_ hnew_; (first | rw [← Ny255.out] at ho21 | (simp only [Int.reduceToNat] at ho21; rw [← Ny255.out] at ho21)); have n0_ := q0_4 (Kd.R_elder' (ra q5.out) (Kd.R_base ho21) hb); have n1_ := q0_4 (Kd.R_elder' (ra q7.out) (Kd.R_base ho21) hb); have n2_ := q0_4 (Kd.R_elder' (ra q8.out) (Kd.R_base ho21) hb); have n3_ := q0_4 (Kd.R_elder' (ra qb.out) (Kd.R_base ho21) hb); have n4_ := q0_4 (Kd.R_elder' (ra qg.out) (Kd.R_base ho21) hb); have n5_ := q0_4 (Kd.R_lower (Kd.R_new' (Kd.R_new' (Kd.R_new' (Kd.R_new' (Kd.R_new' ho21 (Kd.R_lt (ra q5.out))) (Kd.R_lt (ra q7.out))) (Kd.R_lt (ra q8.out))) (Kd.R_lt (ra qb.out))) (Kd.R_lt (ra qg.out))) (below_size (q3_4))); have n6_ := q0_4 (bb q1.out hb); have n7_ := q0_4 (below_step (q3_4) hb); clear q5; clear q7; clear q8; clear qb; clear qg; clear q1; clear HB; have q5 := n0_; have q7 := n1_; have q8 := n2_; have qb := n3_; have qg := n4_; have qi := n5_; have q1 := n6_; have HB := n7_; clear n0_ n1_ n2_ n3_ n4_ n5_ n6_ n7_; clear hb ho21; obtain ⟨qt, qu, eo22⟩ := Kd.R_slice q7.out; subst eo22; obtain ⟨qv, qw, eo23⟩ := Kd.R_slice q8.out; subst eo23; obtain ⟨qx, qy, eo24⟩ := Kd.R_slice qb.out; subst eo24; obtain ⟨qz, z00, eo25⟩ := Kd.R_slice qg.out; subst eo25; obtain ⟨z01, z02, eo26⟩ := Kd.R_slice qi.out; subst eo26) | ((with_reducible refine gate_dst (N := 16) rfl ?_); refine Kd.N_lit (Kd.slice 3 (Kd.int .i64)) _ 22 ?hg (N' := 16) ?hd (xs := ([y243, y246, y249, y252, y255] : List (List Int))) (inner := [.slice qt y243.length qu, .slice qv y246.length qw, .slice qx y249.length qy, .slice qz y252.length z00, .slice z01 y255.length z02]) (ok := (fun k_ => some k_ ≠ (v241 : Value).ownBlock ∧ k_ ≠ q4)) (okp := (fun k_ => some k_ ≠ (v241 : Value).ownBlock ∧ k_ ≠ q4)) ?hr ?hp (fun _ hk => hk) ((show ∀ k_, w20.heap.size ≤ k_ → (fun k_ => some k_ ≠ (v241 : Value).ownBlock ∧ k_ ≠ q4) k_ from fun k_ hk => ⟨Kd.fresh' (Kd.R_lt (ra q5.out)) k_ hk, Kd.freshB (g := q4) (o := .cells #[.int .i64 a0_0, .int .i64 a0_1] 30 (0, 0)) (ba q1.out) k_ hk⟩) _ (Nat.le_refl _)) (Below.refl _ _) (Nat.le_refl _) (by simp) ?_; (case hd => rfl); (case hg => rfl); (case hr => first | (go_simp; done) | (go_simp; rfl)); (case hp => exact (Reps.one (show Kd.FK (Kd.slice 3 (Kd.int .i64)) _ _ y243 [.slice qt y243.length qu] from (Kd.FK_slice_mk (Kd.R_reads' (Kd.R_mono (ok' := (fun k_ => some k_ ≠ (v241 : Value).ownBlock ∧ k_ ≠ q4)) (Kd.R_types (q7.out) q1.out (by decide)) (fun k_ hk => ⟨hk.1.1.1.1.1.2, hk.2⟩))).2.1 (Kd.R_F (Kd.R_mono (ok' := (fun k_ => some k_ ≠ (v241 : Value).ownBlock ∧ k_ ≠ q4)) (Kd.R_types (q7.out) q1.out (by decide)) (fun k_ hk => ⟨hk.1.1.1.1.1.2, hk.2⟩))))) (Reps.one (show Kd.FK (Kd.slice 3 (Kd.int .i64)) _ _ y246 [.slice qv y246.length qw] from (Kd.FK_slice_mk (Kd.R_reads' (Kd.R_mono (ok' := (fun k_ => some k_ ≠ (v241 : Value).ownBlock ∧ k_ ≠ q4)) (Kd.R_types (q8.out) q1.out (by decide)) (fun k_ hk => ⟨hk.1.1.1.1.1.2, hk.2⟩))).2.1 (Kd.R_F (Kd.R_mono (ok' := (fun k_ => some k_ ≠ (v241 : Value).ownBlock ∧ k_ ≠ q4)) (Kd.R_types (q8.out) q1.out (by decide)) (fun k_ hk => ⟨hk.1.1.1.1.1.2, hk.2⟩))))) (Reps.one (show Kd.FK (Kd.slice 3 (Kd.int .i64)) _ _ y249 [.slice qx y249.length qy] from (Kd.FK_slice_mk (Kd.R_reads' (Kd.R_mono (ok' := (fun k_ => some k_ ≠ (v241 : Value).ownBlock ∧ k_ ≠ q4)) (Kd.R_types (qb.out) q1.out (by decide)) (fun k_ hk => ⟨hk.1.1.1.1.1.2, hk.2⟩))).2.1 (Kd.R_F (Kd.R_mono (ok' := (fun k_ => some k_ ≠ (v241 : Value).ownBlock ∧ k_ ≠ q4)) (Kd.R_types (qb.out) q1.out (by decide)) (fun k_ hk => ⟨hk.1.1.1.1.1.2, hk.2⟩))))) (Reps.one (show Kd.FK (Kd.slice 3 (Kd.int .i64)) _ _ y252 [.slice qz y252.length z00] from (Kd.FK_slice_mk (Kd.R_reads' (Kd.R_mono (ok' := (fun k_ => some k_ ≠ (v241 : Value).ownBlock ∧ k_ ≠ q4)) (Kd.R_types (qg.out) q1.out (by decide)) (fun k_ hk => ⟨hk.1.1.1.1.1.2, hk.2⟩))).2.1 (Kd.R_F (Kd.R_mono (ok' := (fun k_ => some k_ ≠ (v241 : Value).ownBlock ∧ k_ ≠ q4)) (Kd.R_types (qg.out) q1.out (by decide)) (fun k_ hk => ⟨hk.1.1.1.1.1.2, hk.2⟩))))) (Reps.one (show Kd.FK (Kd.slice 3 (Kd.int .i64)) _ _ y255 [.slice z01 y255.length z02] from (Kd.FK_slice_mk (Kd.R_reads' (Kd.R_mono (ok' := (fun k_ => some k_ ≠ (v241 : Value).ownBlock ∧ k_ ≠ q4)) (Kd.R_types (qi.out) q1.out (by decide)) (fun k_ hk => ⟨hk.1.1.1.1.1.2, hk.2⟩))).2.1 (Kd.R_F (Kd.R_mono (ok' := (fun k_ => some k_ ≠ (v241 : Value).ownBlock ∧ k_ ≠ q4)) (Kd.R_types (qi.out) q1.out (by decide)) (fun k_ hk => ⟨hk.1.1.1.1.1.2, hk.2⟩))))) (Reps.none _ _))))))); intro v259 w27 ho28 hb hg_ hnew_; clear hg_ hnew_; (first | rw [← Ny258.out] at ho28 | (simp only [Int.reduceToNat] at ho28; rw [← Ny258.out] at ho28)); have n0_ := q0_4 (Kd.R_below (ra q5.out) hb); have n1_ := q0_4 (Kd.N_lower ho28 (below_size (q3_4))); have n2_ := q0_4 (bb q1.out hb); have n3_ := q0_4 (below_step (q3_4) hb); clear q5; clear q1; clear HB; clear q7; clear q8; clear qb; clear qg; clear qi; have q5 := n0_; have qj := n1_; have q1 := n2_; have HB := n3_; clear n0_ n1_ n2_ n3_; clear hb ho28; have hcz29_0 : w27.cell? ⟨q4, 0, none⟩ = some (.int .i64 a0_0) := (blk_cell q1.out 0).trans rfl; have hcz29_1 : w27.cell? ⟨q4, 1, none⟩ = some (.int .i64 a0_1) := (blk_cell q1.out 1).trans rfl; have hfz29_0 := blk_frozen q1.out 0; have hfz29_1 := blk_frozen q1.out 1; obtain ⟨z0i, z0j, eo30⟩ := Kd.N_slice qj.out; subst eo30; have p261 : 0 ≤ ((ji4) : Int) := of_decide_eq_true (by first | (with_reducible assumption) | assumption); have q261 : (ji4) < (y258.length : Int) := of_decide_eq_true (by first | (with_reducible assumption) | assumption); obtain ⟨ad261, A261_0, c261_0, e261, hx261_0, hl261_0, hi261_0⟩ := at_L1 (Kd.N_reads' qj.out).2.2 (ji4) p261 q261; cases e261; obtain ⟨ce261, hce261, hMe261, hcc261⟩ := Kd.N_get qj.out [] (ji4) p261 (by first | exact q261 | exact of_decide_eq_true (by first | (with_reducible assumption) | assumption) | (have e_ := (Kd.N_reads' qj.out).1; omega)); obtain ⟨ua261_0, uc261_0, rfl, ul261_0, ge261_0⟩ := Kd.FK_slice_open hMe261; have hv261_0 := hcc261 0 _ rfl; rw [Nat.add_zero, show ((Kd.slice 3 (Kd.int .i64))).sz = 1 from rfl, Nat.mul_one] at hv261_0; replace hv261_0 := Option.some.inj (hv261_0.symm.trans hx261_0); injection hv261_0 with hva_ hvn_ hvc_; rw [hva_] at ge261_0; rw [hvc_] at ul261_0; have HL261_0 := q0_4 (show Kd.V (Kd.int .i64) 3 _ w.heap.size _ _ (rd_L1 y258 (ji4)) from Kd.V_mk ul261_0 ge261_0); clear hva_ hvn_ hvc_ ge261_0 ul261_0; clear hcc261 hce261; have HR261_0 := q0_4 hi261_0; have HC261_0 := q0_4 hl261_0; clear hi261_0 hl261_0; replace p261 := eq_true p261; replace q261 := eq_true q261)))
       (go_loopg [3, 23] k (fun kq v3 v23 w' => ∃ (x3_1 : List Int) (x23_1 : Int), v23 = .int .i64 x23_1 ∧ Aside0 (impl_TonesOf.l0 kq x3_1 (rd_L1 y258 (ji4)) ((rd_L1 y258 (ji4)).length : Int) x23_1 a0_0 a0_1 = some r) ∧ Aside0 (kq ≤ k) ∧ Aside0 (Kd.V (Kd.int .i64) 3 w' w.heap.size (fun k_ => True ∧ some k_ ≠ (v3 : Value).ownBlock) (.slice A261_0 (rd_L1 y258 (ji4)).length c261_0) (rd_L1 y258 (ji4))) ∧ Aside0 (Kd.R (Kd.int .i64) 3 w' w.heap.size (fun _ => True) v3 x3_1) ∧ Aside0 (w'.heap[q4]? = some (.cells #[.int .i64 a0_0, .int .i64 a0_1] 30 (0, 0))) ∧ Aside0 (Below w.heap.size w w')))
       case atStart => exact ⟨(y240), (0), (by first | rfl | (simp; done) | (simp [*]; done)), H', ⟨Nat.le_refl _⟩, ⟨by (repeat (first | exact (Kd.V_mono HL261_0.out (by intro k_ h_; (try dsimp only at h_); (try dsimp only); (repeat' (apply And.intro)) <;> simp only [h_, ne_eq, not_false_eq_true, and_self])) | refine Kd.V_drewN ?_ _ | refine Kd.V_drew ?_ | refine Kd.V_alloc ?_ _))⟩, ⟨by refine ra ?_; exact Kd.R_mono q5.out (fun _ hk => trivial)⟩, ⟨by refine ba ?_; exact q1.out⟩, ⟨by exact (q3_4)⟩⟩
       case round =>
        clear H'; (try clear c1); (try clear c2); (try clear p2); (try clear q2); (try clear hx2); (try clear c3); (try clear c4); (try clear c5); (try clear c5b0); (try clear c6); (try clear c6b0); (try clear p6); (try clear c17); (try clear c26); (try clear p26); (try clear q26); (try clear hx26); (try clear hcz29_0); (try clear hcz29_1); (try clear hcz8_0); (try clear hcz8_1); (try clear hfz29_0); (try clear hfz29_1); (try clear hfz8_0); (try clear hfz8_1); (try clear hx261_0); (try clear p261); (try clear q261); obtain ⟨x3_1, x23_1, rfl, HA, HK1, HVX, qa, q1, HB⟩ := hrel
        cases gk with
        | zero => exact absurd HA.out (by simp [impl_TonesOf.l0])
        | succ k1 =>
         have H := HA.out; clear HA; (simp only [impl_TonesOf.l0] at H)
         by_cases c31 : x23_1 < ((rd_L1 y258 (ji4)).length : Int)
         · rw [if_pos c31] at H
           (have c31b0 : decide (x23_1 < ((rd_L1 y258 (ji4)).length : Int)) = true := decide_eq_true c31); clear c31
           by_cases c32 : 0 ≤ x23_1
           · rw [if_pos c32] at H
             (have c32b0 : decide (0 ≤ x23_1) = true := decide_eq_true c32); clear c32
             by_cases c33 : x23_1 < ((rd_L1 y258 (ji4)).length : Int)
             · rw [if_pos c33] at H
               (have c33b0 : decide (x23_1 < ((rd_L1 y258 (ji4)).length : Int)) = true := decide_eq_true c33); clear c33
               by_cases c34 : x3_1.length < 17592186044416
               · rw [if_pos c34] at H
                 have LMc34 := q0_4 c34; clear c34; obtain ⟨y263, hy263⟩ : ∃ y_ : List Int, y_ = (x3_1 ++ [wrap64 (a0_0 + (rd (rd_L1 y258 (ji4)) x23_1))]) := ⟨_, rfl⟩; (replace H : (impl_TonesOf.l0 k1 y263 (rd_L1 y258 (ji4)) ((rd_L1 y258 (ji4)).length : Int) (wrap64 (x23_1 + 1)) a0_0 a0_1) = some r := by first | (rw [hy263]; with_reducible exact H) | (have H2_ := (Option.bind_some _ _).symm.trans H; rw [hy263]; with_reducible exact H2_) | (have H2_ := (Option.bind_some _ _).symm.trans H; with_reducible exact H2_) | with_reducible exact H | (rw [hy263]; exact H) | exact H); have Ny263 := q0_4 hy263; clear hy263; (have H' := q0_4 H); clear H; (have p262 : 0 ≤ (x23_1 : Int) := of_decide_eq_true (by first | (with_reducible assumption) | assumption)); (have q262 : x23_1 < ((rd_L1 y258 (ji4)).length : Int) := of_decide_eq_true (by first | (with_reducible assumption) | assumption)); obtain ⟨ad262, e262, hx262_0⟩ := Kd.at_int (Kd.V_reads' HVX.out).2.2 x23_1 p262 q262
                 cases e262
                 replace p262 := eq_true p262; replace q262 := eq_true q262; (have hcz35_0 : wr.cell? ⟨q4, 0, none⟩ = some (.int .i64 a0_0) := (blk_cell q1.out 0).trans rfl); (have hcz35_1 : wr.cell? ⟨q4, 1, none⟩ = some (.int .i64 a0_1) := (blk_cell q1.out 1).trans rfl); have hfz35_0 := blk_frozen q1.out 0; have hfz35_1 := blk_frozen q1.out 1; (go_wp2_with (first | ((with_reducible refine gate_builtin (b := .append) (xs := #[.tmp 27, .tmp 32]) rfl ?_); at_builtin; refine Kd.R_append (Kd.int .i64) (w0 := w) w.heap.size rfl (.tmp 27) (.tmp 32) 22 3 (.int .i64 0) 8 rfl Try.underlying22 info3 rfl (by decide) (by omega) u3 x3_1 (wrap64 (a0_0 + (rd (rd_L1 y258 (ji4)) x23_1))) [.int .i64 (wrap64 (a0_0 + (rd (rd_L1 y258 (ji4)) x23_1)))] (fun _ => True) (fun _ => False) rfl rfl ?aP (fun _ hk => hk.elim) ?aF ?aO ?aB ?aS ?aL ?_; (case aP => exact rfl); (case aB => exact (q3_4)); (case aF => exact (fun _ _ => trivial)); (case aO => exact (ra qa.out)); (case aS => exact (below_size (q3_4))); (case aL => have := LMc34.out; omega); intro v264 w36 ho hb hg hat; have HVY := q0_4 (Kd.V_after HVX.out hg hat); rw [← Ny263.out] at ho; have n0_ := q0_4 (blk_grown (g := q4) (o := .cells #[.int .i64 a0_0, .int .i64 a0_1] 30 (0, 0)) (ba q1.out) hg (Kd.R_ne qa.out q1.out (by decide))); have n1_ := q0_4 (hb); have n2_ := q0_4 (ho); clear q1; clear HB; clear qa; have q1 := n0_; have HB := n1_; have z03 := n2_; clear n0_ n1_ n2_; clear ho hb hg hat))); (go_roundg k1)
                 case measure => have := HK1.out; omega
                 case rel => exact ⟨(y263), (wrap64 (x23_1 + 1)), (by first | rfl | (simp; done) | (simp [*]; done)), (by first | exact H' | (have H2_ := H'; (try simp only [← hji4] at H2_); (try simp only [← hji4]); exact H2_)), ⟨by have := HK1.out; omega⟩, ⟨by (repeat (first | exact HVY.out | refine Kd.V_drewN ?_ _ | refine Kd.V_drew ?_ | refine Kd.V_alloc ?_ _))⟩, ⟨by refine ra ?_; exact z03.out⟩, ⟨by refine ba ?_; exact q1.out⟩, ⟨by exact (q3_4)⟩⟩
               · rw [if_neg c34] at H
                 exact absurd H (by simp)
             · rw [if_neg c33] at H
               exact absurd H (by simp)
           · rw [if_neg c32] at H
             exact absurd H (by simp)
         · rw [if_neg c31] at H
           (have c31b0 : decide (x23_1 < ((rd_L1 y258 (ji4)).length : Int)) = false := decide_eq_false c31); clear c31; replace H := Option.bind_eq_some_iff.mp H; obtain ⟨t266, A370, H⟩ := H; replace H : (some t266) = some r := H; have A37 := q0_4 A370; clear A370; obtain rfl := Option.some.inj H; obtain ⟨z07, z08, eo38⟩ := Kd.R_slice qa.out; subst eo38; (go_wp2_with (first | ((with_reducible refine gate_callee (f := 11) rfl ?_); refine goesL_ (some 36) rfl rfl Try.func11 (by kernel_rfl) rfl #[.slice z07 x3_1.length z08] rfl ma ?_; (with_reducible refine (impl_ClassesOf.calls k1 _ _ x3_1 t266 _ ?side1 ?side2 A37.out).mono ?_); (case side1 => exact ca (Kd.R_reads' qa.out).2.2); (case side2 => exact (Kd.R_reads' qa.out).2.1); rintro e w39 ⟨v267, rfl, ho0, hb⟩; refine ⟨_, rfl, ?_⟩; have n0_ := q0_4 (Kd.R_elder' (ra qa.out) (Kd.R_base ho0) hb); have n1_ := q0_4 (Kd.R_lower (Kd.R_new' ho0 (Kd.R_lt (ra qa.out))) (below_size (q3_4))); have n2_ := q0_4 (bb q1.out hb); have n3_ := q0_4 (below_step (q3_4) hb); clear qa; clear q1; clear HB; have qa := n0_; have z04 := n1_; have q1 := n2_; have HB := n3_; clear n0_ n1_ n2_ n3_; (try clear hb); (try clear hb2); (try clear hk); (try clear hi); (try clear ho0)))); go_ret; (exact ⟨_, by first | rfl | (simp [errW_none, errW_some] <;> rfl) | (simp only [← hji4]; first | rfl | (simp [errW_none, errW_some] <;> rfl)) | (simp [*, errW_none, errW_some] <;> rfl), by refine ra ?_; exact Kd.R_mono z04.out (fun _ hk => trivial), by exact (q3_4)⟩)
     · rw [if_neg c6] at H
       exact absurd H (by simp)
   · rw [if_neg c5] at H
     exact absurd H (by simp)
 · replace c3 := Bool.eq_false_iff.mpr c3
   subst c3; (have H1 : (some (([] : List Int))) = some r := by rw [if_neg (show ¬ (false = true) by decide)] at H; exact H); clear H; have H := H1; clear H1; obtain ⟨y237, hy237⟩ : ∃ y_ : List Int, y_ = (([] : List Int)) := ⟨_, rfl⟩; (replace H : (some y237) = some r := by first | (rw [hy237]; with_reducible exact H) | (have H2_ := (Option.bind_some _ _).symm.trans H; rw [hy237]; with_reducible exact H2_) | (have H2_ := (Option.bind_some _ _).symm.trans H; with_reducible exact H2_) | with_reducible exact H | (rw [hy237]; exact H) | exact H); have Ny237 := q0_4 hy237; clear hy237; obtain rfl := Option.some.inj H; go_enter Try.func17, Try.ntmps17; (go_wp2_with (first | ((with_reducible refine gate_dst (N := 1) rfl ?_); refine box_event ?hg (N := 1) ?hd (cs := #[.int .i64 a0_0, .int .i64 a0_1]) (t := 30) ?hr ?_; (case hd => rfl); (case hg => rfl); (case hr => first | (go_simp; done) | (go_simp; rfl)); intro q4 hg w40 hbox hb; have n0_ := q0_4 (below_step (qf_4) hb); have n1_ := q0_4 (hbox); have n2_ := q0_4 ((by rw [hg]; exact (below_size (qf_4)) : w.heap.size ≤ q4)); have n3_ := q0_4 ((by rw [hg]; exact (below_size (qf_4)) : w.heap.size ≤ q4)); clear HB; have HB := n0_; have q1 := n1_; have GW235 := n2_; have qs := n3_; clear n0_ n1_ n2_ n3_; clear hb hbox hg; have hcz41_0 : w40.cell? ⟨q4, 0, none⟩ = some (.int .i64 a0_0) := (blk_cell q1.out 0).trans rfl; have hcz41_1 : w40.cell? ⟨q4, 1, none⟩ = some (.int .i64 a0_1) := (blk_cell q1.out 1).trans rfl; have hfz41_0 := blk_frozen q1.out 0; have hfz41_1 := blk_frozen q1.out 1) | ((with_reducible refine gate_callee (f := 41) rfl ?_); refine goesL_ (some 7) rfl rfl Try.func41 (by kernel_rfl) rfl #[.agg #[.int .i64 a0_0, .int .i64 a0_1]] rfl ma ?_; (with_reducible refine (impl_IsChord.calls a0_0 a0_1 false _ A2.out).mono ?_); rintro e w42 ⟨rfl, hb⟩; refine ⟨_, rfl, ?_⟩; have n0_ := q0_4 (bb q1.out hb); have n1_ := q0_4 (below_step (q3_4) hb); clear q1; clear HB; have q1 := n0_; have HB := n1_; clear n0_ n1_; (try clear hb); (try clear hb2); (try clear hk); (try clear hi)) | ((with_reducible refine gate_dst (N := 9) rfl ?_); refine Kd.R_lit (Kd.int .i64) _ 3 ?hg (N := 9) ?hd (xs := ([] : List Int)) (inner := []) (ok := fun _ => True) (okp := fun _ => True) ?hr ?hp (fun _ hk => hk) trivial (Below.refl _ _) (Nat.le_refl _) (by simp) ?_; (case hd => rfl); (case hg => rfl); (case hr => first | (go_simp; done) | (go_simp; rfl)); (case hp => exact (Reps.none _ _)); intro v238 w43 ho44 hb hg_ hnew_; clear hg_ hnew_; (first | rw [← Ny237.out] at ho44 | (simp only [Int.reduceToNat] at ho44; rw [← Ny237.out] at ho44)); have n0_ := q0_4 (Kd.R_lower ho44 (below_size (q3_4))); have n1_ := q0_4 (bb q1.out hb); have n2_ := q0_4 (below_step (q3_4) hb); clear q1; clear HB; have z05 := n0_; have q1 := n1_; have HB := n2_; clear n0_ n1_ n2_; clear hb ho44))); go_ret
   (exact ⟨_, by first | rfl | (simp [errW_none, errW_some] <;> rfl) | (simp [*, errW_none, errW_some] <;> rfl), by refine ra ?_; exact z05.out, by exact (q3_4)⟩)
/-! ### impl_scale: function 50 -/
def impl_scale.f  : Option (List Int) := some (([0, 2, 4, 5, 7, 9, 11] : List Int))
set_option maxHeartbeats 8000000 in
set_option maxRecDepth 100000 in
theorem impl_scale.calls  (r : List Int) (w : World) (h : impl_scale.f  = some r) :
 Calls Try.prog 50 #[] w fun e w' => ∃ v0_ : Value, e = .returned (v0_) ∧ Kd.R (Kd.int .i64) 3 w' w.heap.size (fun _ => True) v0_ r ∧ Below w.heap.size w w' := by
 have HB := q0_4 (Below.refl w.heap.size w); (have H : (some (([0, 2, 4, 5, 7, 9, 11] : List Int))) = some r := h); clear h; obtain ⟨y269, hy269⟩ : ∃ y_ : List Int, y_ = (([0, 2, 4, 5, 7, 9, 11] : List Int)) := ⟨_, rfl⟩; (replace H : (some y269) = some r := by first | (rw [hy269]; with_reducible exact H) | (have H2_ := (Option.bind_some _ _).symm.trans H; rw [hy269]; with_reducible exact H2_) | (have H2_ := (Option.bind_some _ _).symm.trans H; with_reducible exact H2_) | with_reducible exact H | (rw [hy269]; exact H) | exact H); have Ny269 := q0_4 hy269; clear hy269; obtain rfl := Option.some.inj H; go_enter Try.func50, Try.ntmps50; (go_wp2_with (first | ((with_reducible refine gate_dst (N := 1) rfl ?_); refine Kd.R_lit (Kd.int .i64) _ 3 ?hg (N := 1) ?hd (xs := ([0, 2, 4, 5, 7, 9, 11] : List Int)) (inner := [.int .i64 0, .int .i64 2, .int .i64 4, .int .i64 5, .int .i64 7, .int .i64 9, .int .i64 11]) (ok := fun _ => True) (okp := fun _ => True) ?hr ?hp (fun _ hk => hk) trivial (Below.refl _ _) (Nat.le_refl _) (by simp) ?_; (case hd => rfl); (case hg => rfl); (case hr => first | (go_simp; done) | (go_simp; rfl)); (case hp => exact (Reps.one (show Kd.M (Kd.int .i64) _ _ _ 0 [.int .i64 0] from rfl) (Reps.one (show Kd.M (Kd.int .i64) _ _ _ 2 [.int .i64 2] from rfl) (Reps.one (show Kd.M (Kd.int .i64) _ _ _ 4 [.int .i64 4] from rfl) (Reps.one (show Kd.M (Kd.int .i64) _ _ _ 5 [.int .i64 5] from rfl) (Reps.one (show Kd.M (Kd.int .i64) _ _ _ 7 [.int .i64 7] from rfl) (Reps.one (show Kd.M (Kd.int .i64) _ _ _ 9 [.int .i64 9] from rfl) (Reps.one (show Kd.M (Kd.int .i64) _ _ _ 11 [.int .i64 11] from rfl) (Reps.none _ _))))))))); intro v270 w1 ho2 hb hg_ hnew_; clear hg_ hnew_; (first | rw [← Ny269.out] at ho2 | (simp only [Int.reduceToNat] at ho2; rw [← Ny269.out] at ho2)); have n0_ := q0_4 (Kd.R_lower ho2 (below_size (qf_4))); have n1_ := q0_4 (below_step (qf_4) hb); clear HB; have z06 := n0_; have HB := n1_; clear n0_ n1_; clear hb ho2))); go_ret; (exact ⟨_, by first | rfl | (simp [errW_none, errW_some] <;> rfl) | (simp [*, errW_none, errW_some] <;> rfl), by refine ra ?_; exact z06.out, by exact (qf_4)⟩)
/-! ### impl_TonicOf: function 51 -/
def impl_TonicOf.f (a0 : Int) : Option (Int) := (impl_IsKey.f a0).bind fun t272 => (if t272 = true then ((impl_Mod.f (wrap64 (7 * a0)) 12).bind fun t273 => (some t273)) else (some (-1)))
set_option maxHeartbeats 8000000 in
set_option maxRecDepth 100000 in
theorem impl_TonicOf.calls (a0 : Int) (r : Int) (w : World) (h : impl_TonicOf.f a0 = some r) :
 Calls Try.prog 51 #[.int .i64 a0] w fun e w' => e = .returned (.int .i64 r) ∧ Drawn0 w w' := by
 (have H : ((impl_IsKey.f a0).bind fun t272 => (if t272 = true then ((impl_Mod.f (wrap64 (7 * a0)) 12).bind fun t273 => (some t273)) else (some (-1)))) = some r := h); clear h; replace H := Option.bind_eq_some_iff.mp H; obtain ⟨t272, A20, H⟩ := H; replace H : (if t272 = true then ((impl_Mod.f (wrap64 (7 * a0)) 12).bind fun t273 => (some t273)) else (some (-1))) = some r := H; have A2 := q0_4 A20; clear A20
 by_cases c3 : t272 = true
 · subst c3
   have H1 : ((impl_Mod.f (wrap64 (7 * a0)) 12).bind fun t273 => (some t273)) = some r := by rw [if_pos rfl] at H; exact H
   clear H; have H := H1; clear H1; replace H := Option.bind_eq_some_iff.mp H; obtain ⟨t273, A40, H⟩ := H; replace H : (some t273) = some r := H; have A4 := q0_4 A40; clear A40; obtain rfl := Option.some.inj H; go_enter Try.func51, Try.ntmps51; (go_wp2_with (first | ((with_reducible refine gate_callee (f := 46) rfl ?_); refine goesL_ (some 4) rfl rfl Try.func46 (by kernel_rfl) rfl #[.int .i64 a0] rfl ma ?_; (with_reducible refine (impl_IsKey.calls a0 true _ A2.out).mono ?_); rintro e w' ⟨rfl, ⟨nd, rfl⟩⟩; refine ⟨_, rfl, ?_⟩) | ((with_reducible refine gate_callee (f := 36) rfl ?_); refine goesL_ (some 8) rfl rfl Try.func36 (by kernel_rfl) rfl #[.int .i64 (wrap64 (7 * a0)), .int .i64 12] rfl ma ?_; (with_reducible refine (impl_Mod.calls (wrap64 (7 * a0)) 12 t273 _ A4.out).mono ?_); rintro e w' ⟨rfl, ⟨nd, rfl⟩⟩; refine ⟨_, rfl, ?_⟩))); go_ret; exact ⟨by first | rfl | (simp; done) | (simp [*]; done), by repeat (first | exact Drawn0.refl _ | apply Drawn0.step)⟩
 · replace c3 := Bool.eq_false_iff.mpr c3
   subst c3; (have H1 : (some (-1)) = some r := by rw [if_neg (show ¬ (false = true) by decide)] at H; exact H); clear H; have H := H1; clear H1; obtain rfl := Option.some.inj H; go_enter Try.func51, Try.ntmps51; (go_wp2_with (first | ((with_reducible refine gate_callee (f := 46) rfl ?_); refine goesL_ (some 4) rfl rfl Try.func46 (by kernel_rfl) rfl #[.int .i64 a0] rfl ma ?_; (with_reducible refine (impl_IsKey.calls a0 false _ A2.out).mono ?_); rintro e w' ⟨rfl, ⟨nd, rfl⟩⟩; refine ⟨_, rfl, ?_⟩))); go_ret; exact ⟨by first | rfl | (simp; done) | (simp [*]; done), by repeat (first | exact Drawn0.refl _ | apply Drawn0.step)⟩
/-! ### slices_Index_int_int: function 64 -/
def slices_Index_int_int.l0 : Nat → List Int → Int → Int → Int → Option (Int)
 | 0, _, _, _, _ => none
 | k + 1, x0, x1, x7, x8 => if x8 < x7 then (if 0 ≤ x8 then (if x8 < (x0.length : Int) then (if x1 = (rd x0 x8) then (some x8) else (slices_Index_int_int.l0 k x0 x1 x7 (wrap64 (x8 + 1)))) else (none)) else (none)) else (some (-1))
def slices_Index_int_int.f (k : Nat) (l0 : List Int) (a1 : Int) : Option (Int) := slices_Index_int_int.l0 k l0 a1 (l0.length : Int) 0
theorem slices_Index_int_int.mono_l : ∀ k, (∀ y0 y1 y2 y3, LeO (slices_Index_int_int.l0 k y0 y1 y2 y3) (slices_Index_int_int.l0 (k + 1) y0 y1 y2 y3))
 | 0 => fun _ _ _ _ r h => by simp [slices_Index_int_int.l0] at h
 | k + 1 => by
  have ih0 := slices_Index_int_int.mono_l k
  · intro y0 y1 y2 y3
    unfold slices_Index_int_int.l0
    repeat' first
    | (with_reducible exact ih0 _ _ _ _)
    | (with_reducible exact LeO.refl _)
    | (with_reducible exact LeO.none _)
    | (with_reducible refine LeO.ite ?_ ?_)
    | (with_reducible refine LeO.bind ?_ (fun _ => ?_))
    | exact ih0 _ _ _ _
    | exact LeO.none _
    | refine LeO.ite ?_ ?_
    | refine LeO.bind ?_ (fun _ => ?_)
theorem slices_Index_int_int.mono : ∀ a0 a1 k, LeO (slices_Index_int_int.f k a0 a1) (slices_Index_int_int.f (k + 1) a0 a1) := by
 intro a0 a1 k; have ih0 := slices_Index_int_int.mono_l k; unfold slices_Index_int_int.f
 repeat' first
  | (with_reducible exact ih0 _ _ _ _)
  | (with_reducible exact LeO.refl _)
  | (with_reducible exact LeO.none _)
  | (with_reducible refine LeO.ite ?_ ?_)
  | (with_reducible refine LeO.bind ?_ (fun _ => ?_))
  | exact ih0 _ _ _ _
  | exact LeO.none _
  | refine LeO.ite ?_ ?_
  | refine LeO.bind ?_ (fun _ => ?_)
set_option maxHeartbeats 8000000 in
set_option maxRecDepth 100000 in
theorem slices_Index_int_int.calls (k : Nat) (A0 : Option Addr) (c0 : Nat) (l0 : List Int) (a1 : Int) (r : Int) (w : World) (hr0 : Kd.C (Kd.int .i64) w A0 l0.length l0) (hc0 : l0.length ≤ c0) (h : slices_Index_int_int.f k l0 a1 = some r) :
 Calls Try.prog 64 #[.slice A0 l0.length c0, .int .i64 a1] w fun e w' => e = .returned (.int .i64 r) ∧ Drawn0 w w' := by
 have HR0 := q0_4 hr0; have HC0 := q0_4 hc0; clear hr0 hc0; (have H : (slices_Index_int_int.l0 k l0 a1 (l0.length : Int) 0) = some r := h); clear h; (have H' := q0_4 H); clear H; go_enter Try.func64, Try.ntmps64; (go_wp2); (go_loopg [8] k (fun kq v8 w' => ∃ (x8_1 : Int), v8 = .int .i64 x8_1 ∧ Aside0 (slices_Index_int_int.l0 kq l0 a1 (l0.length : Int) x8_1 = some r) ∧ Aside0 (kq ≤ k) ∧ Drawn0 w w'))
 case atStart => exact ⟨(0), (by first | rfl | (simp; done) | (simp [*]; done)), H', ⟨Nat.le_refl _⟩, by repeat (first | exact Drawn0.refl _ | apply Drawn0.step)⟩
 case round =>
  clear H'; (try clear p2); obtain ⟨x8_1, rfl, HA, HK1, ⟨m1, rfl⟩⟩ := hrel
  cases gk with
  | zero => exact absurd HA.out (by simp [slices_Index_int_int.l0])
  | succ k1 =>
   have H := HA.out; clear HA; (simp only [slices_Index_int_int.l0] at H)
   by_cases c3 : x8_1 < (l0.length : Int)
   · rw [if_pos c3] at H
     (have c3b0 : decide (x8_1 < (l0.length : Int)) = true := decide_eq_true c3); clear c3
     by_cases c4 : 0 ≤ x8_1
     · rw [if_pos c4] at H
       (have c4b0 : decide (0 ≤ x8_1) = true := decide_eq_true c4); clear c4
       by_cases c5 : x8_1 < (l0.length : Int)
       · rw [if_pos c5] at H
         (have c5b0 : decide (x8_1 < (l0.length : Int)) = true := decide_eq_true c5); clear c5
         by_cases c6 : a1 = (rd l0 x8_1)
         · rw [if_pos c6] at H
           (have c6b0 : (a1 == (rd l0 x8_1)) = true := beq_iff_eq.mpr c6); (have c6b1 : (a1 != (rd l0 x8_1)) = false := bne_eq_false_iff_eq.mpr c6); clear c6; obtain rfl := Option.some.inj H; (have p274 : 0 ≤ (x8_1 : Int) := of_decide_eq_true (by first | (with_reducible assumption) | assumption)); (have q274 : x8_1 < (l0.length : Int) := of_decide_eq_true (by first | (with_reducible assumption) | assumption)); obtain ⟨ad274, e274, hx274_0⟩ := Kd.at_int HR0.out x8_1 p274 q274
           cases e274
           replace p274 := eq_true p274; replace q274 := eq_true q274; (go_wp2); go_ret; exact ⟨by first | rfl | (simp; done) | (simp [*]; done), by repeat (first | exact Drawn0.refl _ | apply Drawn0.step)⟩
         · rw [if_neg c6] at H
           (have c6b0 : (a1 == (rd l0 x8_1)) = false := beq_eq_false_iff_ne.mpr c6); (have c6b1 : (a1 != (rd l0 x8_1)) = true := bne_iff_ne.mpr c6); (have H' := q0_4 H); clear H; (have p274 : 0 ≤ (x8_1 : Int) := of_decide_eq_true (by first | (with_reducible assumption) | assumption)); (have q274 : x8_1 < (l0.length : Int) := of_decide_eq_true (by first | (with_reducible assumption) | assumption)); obtain ⟨ad274, e274, hx274_0⟩ := Kd.at_int HR0.out x8_1 p274 q274
           cases e274
           replace p274 := eq_true p274; replace q274 := eq_true q274; (go_wp2); (go_roundg k1)
           case measure => have := HK1.out; omega
           case rel => exact ⟨(wrap64 (x8_1 + 1)), (by first | rfl | (simp; done) | (simp [*]; done)), H', ⟨by have := HK1.out; omega⟩, by repeat (first | exact Drawn0.refl _ | apply Drawn0.step)⟩
       · rw [if_neg c5] at H
         exact absurd H (by simp)
     · rw [if_neg c4] at H
       exact absurd H (by simp)
   · rw [if_neg c3] at H
     (have c3b0 : decide (x8_1 < (l0.length : Int)) = false := decide_eq_false c3); clear c3; obtain rfl := Option.some.inj H; (go_wp2); go_ret; exact ⟨by first | rfl | (simp; done) | (simp [*]; done), by repeat (first | exact Drawn0.refl _ | apply Drawn0.step)⟩
/-! ### slices_Contains_int_int: function 49 -/
def slices_Contains_int_int.f (k : Nat) (l0 : List Int) (a1 : Int) : Option (Bool) := (slices_Index_int_int.f k l0 a1).bind fun t275 => (some (decide (t275 ≥ 0)))
theorem slices_Contains_int_int.mono : ∀ a0 a1 k, LeO (slices_Contains_int_int.f k a0 a1) (slices_Contains_int_int.f (k + 1) a0 a1) := by
 intro a0 a1 k; unfold slices_Contains_int_int.f
 repeat' first
  | (with_reducible exact slices_Index_int_int.mono _ _ _)
  | (with_reducible exact LeO.refl _)
  | (with_reducible exact LeO.none _)
  | (with_reducible refine LeO.ite ?_ ?_)
  | (with_reducible refine LeO.bind ?_ (fun _ => ?_))
  | exact slices_Index_int_int.mono _ _ _
  | exact LeO.none _
  | refine LeO.ite ?_ ?_
  | refine LeO.bind ?_ (fun _ => ?_)
set_option maxHeartbeats 8000000 in
set_option maxRecDepth 100000 in
theorem slices_Contains_int_int.calls (k : Nat) (A0 : Option Addr) (c0 : Nat) (l0 : List Int) (a1 : Int) (r : Bool) (w : World) (hr0 : Kd.C (Kd.int .i64) w A0 l0.length l0) (hc0 : l0.length ≤ c0) (h : slices_Contains_int_int.f k l0 a1 = some r) :
 Calls Try.prog 49 #[.slice A0 l0.length c0, .int .i64 a1] w fun e w' => e = .returned (.bool r) ∧ Drawn0 w w' := by
 have HR0 := q0_4 hr0; have HC0 := q0_4 hc0; clear hr0 hc0; (have H : ((slices_Index_int_int.f k l0 a1).bind fun t275 => (some (decide (t275 ≥ 0)))) = some r := h); clear h; replace H := Option.bind_eq_some_iff.mp H; obtain ⟨t275, A30, H⟩ := H; replace H : (some (decide (t275 ≥ 0))) = some r := H; have A3 := q0_4 A30; clear A30; obtain rfl := Option.some.inj H; go_enter Try.func49, Try.ntmps49; (go_wp2_with (first | ((with_reducible refine gate_callee (f := 64) rfl ?_); refine goesL_ (some 7) rfl rfl Try.func64 (by kernel_rfl) rfl #[.slice A0 l0.length c0, .int .i64 a1] rfl ma ?_; (with_reducible refine (slices_Index_int_int.calls k _ _ l0 a1 t275 _ ?side1 ?side2 A3.out).mono ?_); (case side1 => repeat (first | exact HR0.out | (with_reducible refine Kd.C_alloc ?_ _) | (with_reducible refine Kd.C_drewN ?_ _) | (with_reducible refine Kd.C_drew ?_))); (case side2 => exact HC0.out); rintro e w' ⟨rfl, ⟨nd, rfl⟩⟩; refine ⟨_, rfl, ?_⟩))); go_ret; exact ⟨by first | rfl | (simp; done) | (simp [*]; done), by repeat (first | exact Drawn0.refl _ | apply Drawn0.step)⟩
end Go.Proofs.Ytpdhhpgdjbeaeaa.PFnExactIsOfKey
