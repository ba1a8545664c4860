-- Written for this claim by a program of this repository (wip/tools/print2.py), out of the translation; Lean checks it.
import Derived.Test.YtpdhhpgdjbeaeaaPFnExactKeysForx0
import Derived.Test.YtpdhhpgdjbeaeaaPFnExactKeysForx3
namespace Go.Proofs.Ytpdhhpgdjbeaeaa.PFnExactKeysFor
open Go.RowKit Go.Proofs.YtpdhhpgdjbeaeaaW.PrintWords Go.Proofs.YtpdhhpgdjbeaeaaW.PrintLast Go.Proofs.YtpdhhpgdjbeaeaaW.PrintMore
attribute [local go_sem] max2_int min2_int max_two min_two max_three min_three max_four min_four   -- for this text's walks alone
set_option linter.unusedVariables false
set_option linter.unusedSimpArgs false
-- SHORT
theorem q5_4 {p : Prop} (f : p := by repeat (first | (with_reducible first | exact HB.out | apply below_alloc | apply pw_below_drewN | apply below_drew1) | exact HB.out)) : p := f
theorem q3_4 {p : Prop} (f : p := by repeat (first | (with_reducible first | exact HB.out | apply below_alloc | apply pw_below_drewN | apply below_drew1 | refine below_set ?_ z01.out) | exact HB.out)) : p := f
theorem qg_4 {p : Prop} (f : p := by repeat (first | (with_reducible first | exact HB.out | apply below_alloc | apply pw_below_drewN | apply below_drew1 | refine below_set ?_ z02.out) | exact HB.out)) : p := f
theorem qe_4 {p : Prop} (f : p := by repeat (first | (with_reducible first | exact HB.out | apply below_alloc | apply pw_below_drewN | apply below_drew1 | refine below_set ?_ z02.out | refine below_set ?_ z03.out) | exact HB.out)) : p := f
theorem qp_4 {p : Prop} (f : p := by repeat (first | (with_reducible first | exact HB.out | apply below_alloc | apply pw_below_drewN | apply below_drew1 | refine below_set ?_ z02.out | refine below_set ?_ z03.out | refine below_set ?_ z04.out) | exact HB.out)) : p := f
theorem qq_4 {p : Prop} (f : p := by repeat (first | (with_reducible first | exact HB.out | apply below_alloc | apply pw_below_drewN | apply below_drew1 | refine below_set ?_ qx.out) | exact HB.out)) : p := f
theorem q0_4 {p : Prop} (h : p) : Aside0 p := ⟨h⟩
/-! ### spec_IsOfKey: function 21 -/
def spec_IsOfKey.l0 : Nat → Int → List Int → Int → Int → Int → Option (Bool)
 | 0, _, _, _, _, _ => none
 | k + 1, x0, x5, x6, x195000, x195001 => if x6 < (x5.length : Int) then (if 0 ≤ x6 then ((spec_DegreeOf.f k x0 (rd x5 x6) 1).bind fun t199 => (if t199 = 0 then (some false) else (spec_IsOfKey.l0 k x0 x5 (wrap64 (x6 + 1)) x195000 x195001))) else (none)) else ((spec_IsKey.f x0).bind fun t200 => (if t200 = true then ((spec_IsChord.f x195000 x195001).bind fun t201 => (some t201)) else (some false)))
def spec_IsOfKey.f (k : Nat) (a0 : Int) (a1_0 : Int) (a1_1 : Int) : Option (Bool) := (spec_TonesOf.f k a1_0 a1_1).bind fun t195 => (spec_IsOfKey.l0 k a0 t195 0 a1_0 a1_1)
theorem spec_IsOfKey.mono_l : ∀ k, (∀ y0 y1 y2 y3 y4, LeO (spec_IsOfKey.l0 k y0 y1 y2 y3 y4) (spec_IsOfKey.l0 (k + 1) y0 y1 y2 y3 y4))
 | 0 => fun _ _ _ _ _ r h => by simp [spec_IsOfKey.l0] at h
 | k + 1 => by
  have ih0 := spec_IsOfKey.mono_l k
  · intro y0 y1 y2 y3 y4
    unfold spec_IsOfKey.l0
    repeat' first
    | (with_reducible exact ih0 _ _ _ _ _)
    | (with_reducible exact spec_DegreeOf.mono _ _ _ _)
    | (with_reducible exact spec_TonesOf.mono _ _ _)
    | (with_reducible exact LeO.refl _)
    | (with_reducible exact LeO.none _)
    | (with_reducible refine LeO.ite ?_ ?_)
    | (with_reducible refine LeO.bind ?_ (fun _ => ?_))
    | exact ih0 _ _ _ _ _
    | exact spec_DegreeOf.mono _ _ _ _
    | exact spec_TonesOf.mono _ _ _
    | exact LeO.none _
    | refine LeO.ite ?_ ?_
    | refine LeO.bind ?_ (fun _ => ?_)
theorem spec_IsOfKey.mono : ∀ a0 a1 a2 k, LeO (spec_IsOfKey.f k a0 a1 a2) (spec_IsOfKey.f (k + 1) a0 a1 a2) := by
 intro a0 a1 a2 k; have ih0 := spec_IsOfKey.mono_l k; unfold spec_IsOfKey.f
 repeat' first
  | (with_reducible exact ih0 _ _ _ _ _)
  | (with_reducible exact spec_DegreeOf.mono _ _ _ _)
  | (with_reducible exact spec_TonesOf.mono _ _ _)
  | (with_reducible exact LeO.refl _)
  | (with_reducible exact LeO.none _)
  | (with_reducible refine LeO.ite ?_ ?_)
  | (with_reducible refine LeO.bind ?_ (fun _ => ?_))
  | exact ih0 _ _ _ _ _
  | exact spec_DegreeOf.mono _ _ _ _
  | exact spec_TonesOf.mono _ _ _
  | exact LeO.none _
  | refine LeO.ite ?_ ?_
  | refine LeO.bind ?_ (fun _ => ?_)
set_option maxHeartbeats 8000000 in
set_option maxRecDepth 100000 in
theorem spec_IsOfKey.calls (k : Nat) (a0 : Int) (a1_0 : Int) (a1_1 : Int) (r : Bool) (w : World) (h : spec_IsOfKey.f k a0 a1_0 a1_1 = some r) :
 Calls Try.prog 21 #[.int .i64 a0, .agg #[.int .i64 a1_0, .int .i64 a1_1]] w fun e w' => e = .returned (.bool r) ∧ Below w.heap.size w w' := by
 have hu30 := Try.underlying30; have HB := q0_4 (Below.refl w.heap.size w); (have H : ((spec_TonesOf.f k a1_0 a1_1).bind fun t195 => (spec_IsOfKey.l0 k a0 t195 0 a1_0 a1_1)) = some r := h); clear h; replace H := Option.bind_eq_some_iff.mp H; obtain ⟨t195, A30, H⟩ := H; replace H : (spec_IsOfKey.l0 k a0 t195 0 a1_0 a1_1) = some r := H; have A3 := q0_4 A30; clear A30; (have H' := q0_4 H); clear H; go_enter Try.func21, Try.ntmps21; (go_wp2_with (first | ((with_reducible refine gate_dst (N := 3) rfl ?_); refine box_event ?hg (N := 3) ?hd (cs := #[.int .i64 a1_0, .int .i64 a1_1]) (t := 30) ?hr ?_; (case hd => rfl); (case hg => rfl); (case hr => first | (go_simp; done) | (go_simp; rfl)); intro qf hg w4 hbox hb; have n0_ := q0_4 (below_step (q5_4) hb); have n1_ := q0_4 (hbox); have n2_ := q0_4 ((by rw [hg]; exact (below_size (q5_4)) : w.heap.size ≤ qf)); have n3_ := q0_4 ((by rw [hg]; exact (below_size (q5_4)) : w.heap.size ≤ qf)); clear HB; have HB := n0_; have q1 := n1_; have GW194 := n2_; have z01 := n3_; clear n0_ n1_ n2_ n3_; clear hb hbox hg; have hcz5_0 : w4.cell? ⟨qf, 0, none⟩ = some (.int .i64 a1_0) := (blk_cell q1.out 0).trans rfl; have hcz5_1 : w4.cell? ⟨qf, 1, none⟩ = some (.int .i64 a1_1) := (blk_cell q1.out 1).trans rfl; have hfz5_0 := blk_frozen q1.out 0; have hfz5_1 := blk_frozen q1.out 1) | ((with_reducible refine gate_callee (f := 15) rfl ?_); refine goesL_ (some 8) rfl rfl Try.func15 (by kernel_rfl) rfl #[.agg #[.int .i64 a1_0, .int .i64 a1_1]] rfl ma ?_; (with_reducible refine (spec_TonesOf.calls k a1_0 a1_1 t195 _ A3.out).mono ?_); rintro e w6 ⟨v196, rfl, ho0, hb⟩; refine ⟨_, rfl, ?_⟩; have n0_ := q0_4 (Kd.R_lower ho0 (below_size (q3_4))); have n1_ := q0_4 (bb q1.out hb); have n2_ := q0_4 (below_step (q3_4) hb); clear q1; clear HB; have qr := n0_; have q1 := n1_; have HB := n2_; clear n0_ n1_ n2_; (try clear hb); (try clear hb2); (try clear hk); (try clear hi); (try clear ho0)))); (go_loopg [6] k (fun kq v6 w' => ∃ (x6_1 : Int), v6 = .int .i64 x6_1 ∧ Aside0 (spec_IsOfKey.l0 kq a0 t195 x6_1 a1_0 a1_1 = some r) ∧ Aside0 (kq ≤ k) ∧ Aside0 (Kd.R (Kd.int .i64) 3 w' w.heap.size (fun _ => True) v196 t195) ∧ Aside0 (w'.heap[qf]? = some (.cells #[.int .i64 a1_0, .int .i64 a1_1] 30 (0, 0))) ∧ Aside0 (Below w.heap.size w w')))
 case atStart => exact ⟨(0), (by first | rfl | (simp; done) | (simp [*]; done)), H', ⟨Nat.le_refl _⟩, ⟨by refine ra ?_; exact qr.out⟩, ⟨by refine ba ?_; exact q1.out⟩, ⟨by exact (q3_4)⟩⟩
 case round =>
  clear H'; (try clear c1); (try clear c2); (try clear p2); (try clear hcz5_0); (try clear hcz5_1); (try clear hfz5_0); (try clear hfz5_1); obtain ⟨x6_1, rfl, HA, HK1, q6, q1, HB⟩ := hrel
  cases gk with
  | zero => exact absurd HA.out (by simp [spec_IsOfKey.l0])
  | succ k1 =>
   have H := HA.out; clear HA; (simp only [spec_IsOfKey.l0] at H)
   by_cases c7 : x6_1 < (t195.length : Int)
   · rw [if_pos c7] at H
     (have c7b0 : decide (x6_1 < (t195.length : Int)) = true := decide_eq_true c7); clear c7
     by_cases c8 : 0 ≤ x6_1
     · rw [if_pos c8] at H
       (have c8b0 : decide (0 ≤ x6_1) = true := decide_eq_true c8); clear c8; replace H := Option.bind_eq_some_iff.mp H; obtain ⟨t199, A90, H⟩ := H; replace H : (if t199 = 0 then (some false) else (spec_IsOfKey.l0 k1 a0 t195 (wrap64 (x6_1 + 1)) a1_0 a1_1)) = some r := H; have A9 := q0_4 A90; clear A90
       by_cases c10 : t199 = 0
       · rw [if_pos c10] at H
         (have c10b0 : (t199 == 0) = true := beq_iff_eq.mpr c10); (have c10b1 : (t199 != 0) = false := bne_eq_false_iff_eq.mpr c10); clear c10; obtain rfl := Option.some.inj H; obtain ⟨z05, z06, eo11⟩ := Kd.R_slice q6.out; subst eo11; (have p198 : 0 ≤ (x6_1 : Int) := of_decide_eq_true (by first | (with_reducible assumption) | assumption)); (have q198 : x6_1 < (t195.length : Int) := of_decide_eq_true (by first | (with_reducible assumption) | assumption)); obtain ⟨ad198, e198, hx198_0⟩ := Kd.at_int (Kd.R_reads' q6.out).2.2 x6_1 p198 q198
         cases e198
         replace p198 := eq_true p198; replace q198 := eq_true q198; (go_wp2_with (first | ((with_reducible refine gate_callee (f := 44) rfl ?_); refine goesL_ (some 21) rfl rfl Try.func44 (by kernel_rfl) rfl #[.int .i64 a0, .agg #[.int .i64 (rd t195 x6_1), .int .i64 1]] rfl ma ?_; (with_reducible refine (spec_DegreeOf.calls k1 a0 (rd t195 x6_1) 1 t199 _ A9.out).mono ?_); rintro e w12 ⟨rfl, hb⟩; refine ⟨_, rfl, ?_⟩; have n0_ := q0_4 (Kd.R_below (ra q6.out) hb); have n1_ := q0_4 (bb q1.out hb); have n2_ := q0_4 (below_step (q3_4) hb); clear q6; clear q1; clear HB; have q6 := n0_; have q1 := n1_; have HB := n2_; clear n0_ n1_ n2_; (try clear hb); (try clear hb2); (try clear hk); (try clear hi)))); go_ret; (exact ⟨by first | rfl | (simp [errW_none, errW_some] <;> rfl) | (simp [*, errW_none, errW_some] <;> rfl), by exact (q3_4)⟩)
       · rw [if_neg c10] at H
         (have c10b0 : (t199 == 0) = false := beq_eq_false_iff_ne.mpr c10); (have c10b1 : (t199 != 0) = true := bne_iff_ne.mpr c10); (have H' := q0_4 H); clear H; obtain ⟨z07, z08, eo13⟩ := Kd.R_slice q6.out; subst eo13; (have p198 : 0 ≤ (x6_1 : Int) := of_decide_eq_true (by first | (with_reducible assumption) | assumption)); (have q198 : x6_1 < (t195.length : Int) := of_decide_eq_true (by first | (with_reducible assumption) | assumption)); obtain ⟨ad198, e198, hx198_0⟩ := Kd.at_int (Kd.R_reads' q6.out).2.2 x6_1 p198 q198
         cases e198
         replace p198 := eq_true p198; replace q198 := eq_true q198; (go_wp2_with (first | ((with_reducible refine gate_callee (f := 44) rfl ?_); refine goesL_ (some 21) rfl rfl Try.func44 (by kernel_rfl) rfl #[.int .i64 a0, .agg #[.int .i64 (rd t195 x6_1), .int .i64 1]] rfl ma ?_; (with_reducible refine (spec_DegreeOf.calls k1 a0 (rd t195 x6_1) 1 t199 _ A9.out).mono ?_); rintro e w14 ⟨rfl, hb⟩; refine ⟨_, rfl, ?_⟩; have n0_ := q0_4 (Kd.R_below (ra q6.out) hb); have n1_ := q0_4 (bb q1.out hb); have n2_ := q0_4 (below_step (q3_4) hb); clear q6; clear q1; clear HB; have q6 := n0_; have q1 := n1_; have HB := n2_; clear n0_ n1_ n2_; (try clear hb); (try clear hb2); (try clear hk); (try clear hi)))); (go_roundg k1)
         case measure => have := HK1.out; omega
         case rel => exact ⟨(wrap64 (x6_1 + 1)), (by first | rfl | (simp; done) | (simp [*]; done)), H', ⟨by have := HK1.out; omega⟩, ⟨by refine ra ?_; exact q6.out⟩, ⟨by refine ba ?_; exact q1.out⟩, ⟨by exact (q3_4)⟩⟩
     · rw [if_neg c8] at H
       exact absurd H (by simp)
   · rw [if_neg c7] at H
     (have c7b0 : decide (x6_1 < (t195.length : Int)) = false := decide_eq_false c7); clear c7; replace H := Option.bind_eq_some_iff.mp H; obtain ⟨t200, A150, H⟩ := H; replace H : (if t200 = true then ((spec_IsChord.f a1_0 a1_1).bind fun t201 => (some t201)) else (some false)) = some r := H; have A15 := q0_4 A150; clear A150
     by_cases c16 : t200 = true
     · subst c16
       have H1 : ((spec_IsChord.f a1_0 a1_1).bind fun t201 => (some t201)) = some r := by rw [if_pos rfl] at H; exact H
       clear H; have H := H1; clear H1; replace H := Option.bind_eq_some_iff.mp H; obtain ⟨t201, A170, H⟩ := H; replace H : (some t201) = some r := H; have A17 := q0_4 A170; clear A170; obtain rfl := Option.some.inj H; obtain ⟨z09, z0a, eo18⟩ := Kd.R_slice q6.out; subst eo18; (go_wp2_with (first | ((with_reducible refine gate_callee (f := 45) rfl ?_); refine goesL_ (some 24) rfl rfl Try.func45 (by kernel_rfl) rfl #[.int .i64 a0] rfl ma ?_; (with_reducible refine (spec_IsKey.calls a0 true _ A15.out).mono ?_); rintro e w' ⟨rfl, ⟨nd, rfl⟩⟩; refine ⟨_, rfl, ?_⟩; have hcz19_0 : wr.cell? ⟨qf, 0, none⟩ = some (.int .i64 a1_0) := (blk_cell q1.out 0).trans rfl; have hcz19_1 : wr.cell? ⟨qf, 1, none⟩ = some (.int .i64 a1_1) := (blk_cell q1.out 1).trans rfl; have hfz19_0 := blk_frozen q1.out 0; have hfz19_1 := blk_frozen q1.out 1) | (go_at_call 39; (with_reducible refine (spec_IsChord.calls a1_0 a1_1 t201 _ A17.out).mono ?_); rintro e w20 ⟨rfl, hb⟩; have n0_ := q0_4 (Kd.R_below (ra q6.out) hb); have n1_ := q0_4 (bb q1.out hb); have n2_ := q0_4 (below_step (q3_4) hb); clear q6; clear q1; clear HB; have q6 := n0_; have q1 := n1_; have HB := n2_; clear n0_ n1_ n2_; (try clear hb); (try clear hb2); (try clear hk); (try clear hi)))); go_ret; (exact ⟨by first | rfl | (simp [errW_none, errW_some] <;> rfl) | (simp [*, errW_none, errW_some] <;> rfl), by exact (q3_4)⟩)
     · replace c16 := Bool.eq_false_iff.mpr c16
       subst c16; (have H1 : (some false) = some r := by rw [if_neg (show ¬ (false = true) by decide)] at H; exact H); clear H; have H := H1; clear H1; obtain rfl := Option.some.inj H; obtain ⟨z0b, z0c, eo21⟩ := Kd.R_slice q6.out; subst eo21; (go_wp2_with (first | ((with_reducible refine gate_callee (f := 45) rfl ?_); refine goesL_ (some 24) rfl rfl Try.func45 (by kernel_rfl) rfl #[.int .i64 a0] rfl ma ?_; (with_reducible refine (spec_IsKey.calls a0 false _ A15.out).mono ?_); rintro e w' ⟨rfl, ⟨nd, rfl⟩⟩; refine ⟨_, rfl, ?_⟩))); go_ret; (exact ⟨by first | rfl | (simp [errW_none, errW_some] <;> rfl) | (simp [*, errW_none, errW_some] <;> rfl), by exact (q3_4)⟩)
/-! ### spec_KeysFor: function 24 -/
mutual
def spec_KeysFor.l0 : Nat → List (S30) → List Int → Int → Option (List Int)
 | 0, _, _, _ => none
 | k + 1, x0, x3, x4 => if x4 ≤ 7 then (spec_KeysFor.l1 k x0 x3 x4 true 0) else (some x3)
def spec_KeysFor.l1 : Nat → List (S30) → List Int → Int → Bool → Int → Option (List Int)
 | 0, _, _, _, _, _ => none
 | k + 1, x0, x3, x4, x5, x6 => if x6 < (x0.length : Int) then (if x5 = true then (if 0 ≤ x6 then ((spec_IsOfKey.f k x4 ((rd_T30 x0 x6).f0) ((rd_T30 x0 x6).f1)).bind fun t206 => (spec_KeysFor.l1 k x0 x3 x4 t206 (wrap64 (x6 + 1)))) else (none)) else (spec_KeysFor.l1 k x0 x3 x4 false (wrap64 (x6 + 1)))) else (if x5 = true then (if x3.length < 17592186044416 then (spec_KeysFor.l0 k x0 (x3 ++ [x4]) (wrap64 (x4 + 1))) else (none)) else (spec_KeysFor.l0 k x0 x3 (wrap64 (x4 + 1))))
end
def spec_KeysFor.f (k : Nat) (l0 : List (S30)) : Option (List Int) := spec_KeysFor.l0 k l0 (([] : List Int)) (-7)
theorem spec_KeysFor.mono_l : ∀ k, (∀ y0 y1 y2, LeO (spec_KeysFor.l0 k y0 y1 y2) (spec_KeysFor.l0 (k + 1) y0 y1 y2)) ∧ (∀ y0 y1 y2 y3 y4, LeO (spec_KeysFor.l1 k y0 y1 y2 y3 y4) (spec_KeysFor.l1 (k + 1) y0 y1 y2 y3 y4))
 | 0 => ⟨fun _ _ _ r h => by simp [spec_KeysFor.l0] at h, fun _ _ _ _ _ r h => by simp [spec_KeysFor.l1] at h⟩
 | k + 1 => by
  obtain ⟨ih0, ih1⟩ := spec_KeysFor.mono_l k; refine ⟨?_, ?_⟩
  · intro y0 y1 y2
    unfold spec_KeysFor.l0
    repeat' first
    | (with_reducible exact ih0 _ _ _)
    | (with_reducible exact ih1 _ _ _ _ _)
    | (with_reducible exact spec_IsOfKey.mono _ _ _ _)
    | (with_reducible exact LeO.refl _)
    | (with_reducible exact LeO.none _)
    | (with_reducible refine LeO.ite ?_ ?_)
    | (with_reducible refine LeO.bind ?_ (fun _ => ?_))
    | exact ih0 _ _ _
    | exact ih1 _ _ _ _ _
    | exact spec_IsOfKey.mono _ _ _ _
    | exact LeO.none _
    | refine LeO.ite ?_ ?_
    | refine LeO.bind ?_ (fun _ => ?_)
  · intro y0 y1 y2 y3 y4
    unfold spec_KeysFor.l1
    repeat' first
    | (with_reducible exact ih0 _ _ _)
    | (with_reducible exact ih1 _ _ _ _ _)
    | (with_reducible exact spec_IsOfKey.mono _ _ _ _)
    | (with_reducible exact LeO.refl _)
    | (with_reducible exact LeO.none _)
    | (with_reducible refine LeO.ite ?_ ?_)
    | (with_reducible refine LeO.bind ?_ (fun _ => ?_))
    | exact ih0 _ _ _
    | exact ih1 _ _ _ _ _
    | exact spec_IsOfKey.mono _ _ _ _
    | exact LeO.none _
    | refine LeO.ite ?_ ?_
    | refine LeO.bind ?_ (fun _ => ?_)
theorem spec_KeysFor.mono : ∀ a0 k, LeO (spec_KeysFor.f k a0) (spec_KeysFor.f (k + 1) a0) := by
 intro a0 k; obtain ⟨ih0, ih1⟩ := spec_KeysFor.mono_l k; unfold spec_KeysFor.f
 repeat' first
  | (with_reducible exact ih0 _ _ _)
  | (with_reducible exact ih1 _ _ _ _ _)
  | (with_reducible exact spec_IsOfKey.mono _ _ _ _)
  | (with_reducible exact LeO.refl _)
  | (with_reducible exact LeO.none _)
  | (with_reducible refine LeO.ite ?_ ?_)
  | (with_reducible refine LeO.bind ?_ (fun _ => ?_))
  | exact ih0 _ _ _
  | exact ih1 _ _ _ _ _
  | exact spec_IsOfKey.mono _ _ _ _
  | exact LeO.none _
  | refine LeO.ite ?_ ?_
  | refine LeO.bind ?_ (fun _ => ?_)
set_option maxHeartbeats 8000000 in
set_option maxRecDepth 100000 in
theorem spec_KeysFor.calls (k : Nat) (A0 : Option Addr) (c0 : Nat) (l0 : List (S30)) (r : List Int) (w : World) (hr0 : Kd.C k30 w A0 l0.length l0) (hc0 : l0.length ≤ c0) (h : spec_KeysFor.f k l0 = some r) :
 Calls Try.prog 24 #[.slice A0 l0.length c0] w fun e w' => ∃ v0_ : Value, e = .returned (v0_) ∧ Kd.R (Kd.int .i64) 3 w' w.heap.size (fun _ => True) v0_ r ∧ Below w.heap.size w w' := by
 have hu30 := Try.underlying30; have HR0 := q0_4 hr0; have HC0 := q0_4 hc0; clear hr0 hc0; have HB := q0_4 (Below.refl w.heap.size w); (have H : (spec_KeysFor.l0 k l0 (([] : List Int)) (-7)) = some r := h); clear h; obtain ⟨y202, hy202⟩ : ∃ y_ : List Int, y_ = (([] : List Int)) := ⟨_, rfl⟩; (replace H : (spec_KeysFor.l0 k l0 y202 (-7)) = some r := by first | (rw [hy202]; with_reducible exact H) | (have H2_ := (Option.bind_some _ _).symm.trans H; rw [hy202]; with_reducible exact H2_) | (have H2_ := (Option.bind_some _ _).symm.trans H; with_reducible exact H2_) | with_reducible exact H | (rw [hy202]; exact H) | exact H); have Ny202 := q0_4 hy202; clear hy202; (have H' := q0_4 H); clear H; go_enter Try.func24, Try.ntmps24; (go_wp2_with (first | ((with_reducible refine gate_dst (N := 7) rfl ?_); refine Kd.R_lit (Kd.int .i64) _ 3 ?hg (N := 7) ?hd (xs := ([] : List Int)) (inner := []) (ok := fun _ => True) (okp := fun _ => True) ?hr ?hp (fun _ hk => hk) trivial (Below.refl _ _) (Nat.le_refl _) (by simp) ?_; (case hd => rfl); (case hg => rfl); (case hr => first | (go_simp; done) | (go_simp; rfl)); (case hp => exact (Reps.none _ _)); intro v203 w2 ho3 hb hg_ hnew_; clear hg_ hnew_; (first | rw [← Ny202.out] at ho3 | (simp only [Int.reduceToNat] at ho3; rw [← Ny202.out] at ho3)); have n0_ := q0_4 (Kd.R_lower ho3 (below_size (q5_4))); have n1_ := q0_4 (below_step (q5_4) hb); clear HB; have qs := n0_; have HB := n1_; clear n0_ n1_; clear hb ho3))); (go_loopg [3, 4] k (fun kq v3 v4 w' => ∃ (x3_1 : List Int) (x4_1 : Int), v4 = .int .i64 x4_1 ∧ Aside0 (spec_KeysFor.l0 kq l0 x3_1 x4_1 = some r) ∧ Aside0 (kq ≤ k) ∧ Aside0 (Kd.R (Kd.int .i64) 3 w' w.heap.size (fun _ => True) v3 x3_1) ∧ Aside0 (Below w.heap.size w w')))
 case atStart => exact ⟨(y202), ((-7)), (by first | rfl | (simp; done) | (simp [*]; done)), H', ⟨Nat.le_refl _⟩, ⟨by refine ra ?_; exact qs.out⟩, ⟨by exact (q5_4)⟩⟩
 case round =>
  clear H'; (try clear c2); (try clear p2); obtain ⟨x3_1, x4_1, rfl, HA, HK1, q2, HB⟩ := hrel
  cases gk with
  | zero => exact absurd HA.out (by simp [spec_KeysFor.l0])
  | succ k1 =>
   have H := HA.out; clear HA; (simp only [spec_KeysFor.l0] at H)
   by_cases c4 : x4_1 ≤ 7
   · rw [if_pos c4] at H
     (have c4b0 : decide (x4_1 ≤ 7) = true := decide_eq_true c4); clear c4; (have H' := q0_4 H); clear H; (go_wp2); (go_loopg [5, 6] k1 (fun kq v5 v6 w' => ∃ (x5_2 : Bool) (x6_2 : Int), v5 = .bool x5_2 ∧ v6 = .int .i64 x6_2 ∧ Aside0 (spec_KeysFor.l1 kq l0 x3_1 x4_1 x5_2 x6_2 = some r) ∧ Aside0 (kq ≤ k1) ∧ Aside0 (Kd.R (Kd.int .i64) 3 w' w.heap.size (fun _ => True) u3 x3_1) ∧ Aside0 (Below w.heap.size w w')))
     case atStart => exact ⟨(true), (0), (by first | rfl | (simp; done) | (simp [*]; done)), (by first | rfl | (simp; done) | (simp [*]; done)), H', ⟨Nat.le_refl _⟩, ⟨by refine ra ?_; exact q2.out⟩, ⟨by exact (q5_4)⟩⟩
     case round =>
      clear H'; (try clear c2); (try clear p2); (try clear c4); (try clear c4b0); (try clear p2); obtain ⟨x5_2, x6_2, rfl, rfl, HA, HK2, q2, HB⟩ := hrel
      cases gk with
      | zero => exact absurd HA.out (by simp [spec_KeysFor.l1])
      | succ k2 =>
       have H := HA.out; clear HA; (simp only [spec_KeysFor.l1] at H)
       by_cases c5 : x6_2 < (l0.length : Int)
       · rw [if_pos c5] at H
         (have c5b0 : decide (x6_2 < (l0.length : Int)) = true := decide_eq_true c5); clear c5
         by_cases c6 : x5_2 = true
         · subst c6
           have H1 : (if 0 ≤ x6_2 then ((spec_IsOfKey.f k2 x4_1 ((rd_T30 l0 x6_2).f0) ((rd_T30 l0 x6_2).f1)).bind fun t206 => (spec_KeysFor.l1 k2 l0 x3_1 x4_1 t206 (wrap64 (x6_2 + 1)))) else (none)) = some r := by rw [if_pos rfl] at H; exact H
           clear H; have H := H1; clear H1
           by_cases c7 : 0 ≤ x6_2
           · rw [if_pos c7] at H
             (have c7b0 : decide (0 ≤ x6_2) = true := decide_eq_true c7); clear c7; replace H := Option.bind_eq_some_iff.mp H; obtain ⟨t206, A80, H⟩ := H; replace H : (spec_KeysFor.l1 k2 l0 x3_1 x4_1 t206 (wrap64 (x6_2 + 1))) = some r := H; have A8 := q0_4 A80; clear A80; (have H' := q0_4 H); clear H; (have p205 : 0 ≤ (x6_2 : Int) := of_decide_eq_true (by first | (with_reducible assumption) | assumption)); (have q205 : x6_2 < (l0.length : Int) := of_decide_eq_true (by first | (with_reducible assumption) | assumption)); obtain ⟨ad205, e205, hx205_0, hx205_1⟩ := at_T30 HR0.out x6_2 p205 q205
             cases e205
             replace hx205_0 := (HB.out.cell (World.block_lt_of_cell? w _ hx205_0)).trans hx205_0; replace hx205_1 := (HB.out.cell (World.block_lt_of_cell? w _ hx205_1)).trans hx205_1; replace p205 := eq_true p205; replace q205 := eq_true q205; (go_wp2_with (first | (go_at_call 21; (with_reducible refine (spec_IsOfKey.calls k2 x4_1 ((rd_T30 l0 x6_2).f0) ((rd_T30 l0 x6_2).f1) t206 _ A8.out).mono ?_); rintro e w9 ⟨rfl, hb⟩; have n0_ := q0_4 (Kd.R_below (ra q2.out) hb); have n1_ := q0_4 (below_step (q5_4) hb); clear q2; clear HB; have q2 := n0_; have HB := n1_; clear n0_ n1_; (try clear hb); (try clear hb2); (try clear hk); (try clear hi)))); (go_roundg k2)
             case measure => have := HK1.out; have := HK2.out; omega
             case rel => exact ⟨(t206), (wrap64 (x6_2 + 1)), (by first | rfl | (simp; done) | (simp [*]; done)), (by first | rfl | (simp; done) | (simp [*]; done)), H', ⟨by have := HK1.out; have := HK2.out; omega⟩, ⟨by refine ra ?_; exact q2.out⟩, ⟨by exact (q5_4)⟩⟩
           · rw [if_neg c7] at H
             exact absurd H (by simp)
         · replace c6 := Bool.eq_false_iff.mpr c6
           subst c6; (have H1 : (spec_KeysFor.l1 k2 l0 x3_1 x4_1 false (wrap64 (x6_2 + 1))) = some r := by rw [if_neg (show ¬ (false = true) by decide)] at H; exact H); clear H; have H := H1; clear H1; (have H' := q0_4 H); clear H; (go_wp2); (go_roundg k2)
           case measure => have := HK1.out; have := HK2.out; omega
           case rel => exact ⟨(false), (wrap64 (x6_2 + 1)), (by first | rfl | (simp; done) | (simp [*]; done)), (by first | rfl | (simp; done) | (simp [*]; done)), H', ⟨by have := HK1.out; have := HK2.out; omega⟩, ⟨by refine ra ?_; exact q2.out⟩, ⟨by exact (q5_4)⟩⟩
       · rw [if_neg c5] at H
         (have c5b0 : decide (x6_2 < (l0.length : Int)) = false := decide_eq_false c5); clear c5
         by_cases c10 : x5_2 = true
         · subst c10
           have H1 : (if x3_1.length < 17592186044416 then (spec_KeysFor.l0 k2 l0 (x3_1 ++ [x4_1]) (wrap64 (x4_1 + 1))) else (none)) = some r := by rw [if_pos rfl] at H; exact H
           clear H; have H := H1; clear H1
           by_cases c11 : x3_1.length < 17592186044416
           · rw [if_pos c11] at H
             have LMc11 := q0_4 c11; clear c11; obtain ⟨y207, hy207⟩ : ∃ y_ : List Int, y_ = (x3_1 ++ [x4_1]) := ⟨_, rfl⟩; (replace H : (spec_KeysFor.l0 k2 l0 y207 (wrap64 (x4_1 + 1))) = some r := by first | (rw [hy207]; with_reducible exact H) | (have H2_ := (Option.bind_some _ _).symm.trans H; rw [hy207]; with_reducible exact H2_) | (have H2_ := (Option.bind_some _ _).symm.trans H; with_reducible exact H2_) | with_reducible exact H | (rw [hy207]; exact H) | exact H); have Ny207 := q0_4 hy207; clear hy207; (have H' := q0_4 H); clear H; (go_wp2_with (first | ((with_reducible refine gate_builtin (b := .append) (xs := #[.tmp 28, .tmp 30]) rfl ?_); at_builtin; refine Kd.R_append (Kd.int .i64) (w0 := w) w.heap.size rfl (.tmp 28) (.tmp 30) 22 3 (.int .i64 0) 8 rfl Try.underlying22 info3 rfl (by decide) (by omega) u3 x3_1 x4_1 [.int .i64 x4_1] (fun _ => True) (fun _ => False) rfl rfl ?aP (fun _ hk => hk.elim) ?aF ?aO ?aB ?aS ?aL ?_; (case aP => exact rfl); (case aB => exact (q5_4)); (case aF => exact (fun _ _ => trivial)); (case aO => exact (ra q2.out)); (case aS => exact (below_size (q5_4))); (case aL => have := LMc11.out; omega); intro v208 w12 ho hb hg hat; rw [← Ny207.out] at ho; have n0_ := q0_4 (hb); have n1_ := q0_4 (ho); clear HB; clear q2; have HB := n0_; have qt := n1_; clear n0_ n1_; clear ho hb hg hat))); (go_roundg k2)
             case measure => have := HK1.out; have := HK2.out; omega
             case rel => exact ⟨(y207), (wrap64 (x4_1 + 1)), (by first | rfl | (simp; done) | (simp [*]; done)), H', ⟨by have := HK1.out; have := HK2.out; omega⟩, ⟨by refine ra ?_; exact qt.out⟩, ⟨by exact (q5_4)⟩⟩
           · rw [if_neg c11] at H
             exact absurd H (by simp)
         · replace c10 := Bool.eq_false_iff.mpr c10
           subst c10; (have H1 : (spec_KeysFor.l0 k2 l0 x3_1 (wrap64 (x4_1 + 1))) = some r := by rw [if_neg (show ¬ (false = true) by decide)] at H; exact H); clear H; have H := H1; clear H1; (have H' := q0_4 H); clear H; (go_wp2); (go_roundg k2)
           case measure => have := HK1.out; have := HK2.out; omega
           case rel => exact ⟨(x3_1), (wrap64 (x4_1 + 1)), (by first | rfl | (simp; done) | (simp [*]; done)), H', ⟨by have := HK1.out; have := HK2.out; omega⟩, ⟨by refine ra ?_; exact q2.out⟩, ⟨by exact (q5_4)⟩⟩
   · rw [if_neg c4] at H
     (have c4b0 : decide (x4_1 ≤ 7) = false := decide_eq_false c4); clear c4; obtain rfl := Option.some.inj H; (go_wp2); go_ret; (exact ⟨_, by first | rfl | (simp [errW_none, errW_some] <;> rfl) | (simp [*, errW_none, errW_some] <;> rfl), by refine ra ?_; exact q2.out, by exact (q5_4)⟩)
/-! ### laws_toChord: function 16 -/
def laws_toChord.f (a0_0 : Int) (a0_1 : Int) : Option (Int × Int) := some (a0_0, a0_1)
set_option maxHeartbeats 8000000 in
set_option maxRecDepth 100000 in
theorem laws_toChord.calls (a0_0 : Int) (a0_1 : Int) (r1 : Int) (r2 : Int) (w : World) (h : laws_toChord.f a0_0 a0_1 = some (r1, r2)) :
 Calls Try.prog 16 #[.agg #[.int .i64 a0_0, .int .i64 a0_1]] w fun e w' => e = .returned (.agg #[.int .i64 r1, .int .i64 r2]) ∧ Below w.heap.size w w' := by
 have hu28 := Try.underlying28; have hu30 := Try.underlying30; have HB := q0_4 (Below.refl w.heap.size w); (have H : (some (a0_0, a0_1)) = some (r1, r2) := h); clear h; (simp only [Option.some.injEq, Prod.mk.injEq] at H); obtain ⟨rfl, rfl⟩ := H; go_enter Try.func16, Try.ntmps16
 (go_wp2_with (first | ((with_reducible refine gate_dst (N := 1) rfl ?_); refine box_event ?hg (N := 1) ?hd (cs := #[.int .i64 a0_0, .int .i64 a0_1]) (t := 28) ?hr ?_; (case hd => rfl); (case hg => rfl); (case hr => first | (go_simp; done) | (go_simp; rfl)); intro qc hg w2 hbox hb; have n0_ := q0_4 (below_step (q5_4) hb); have n1_ := q0_4 (hbox); have n2_ := q0_4 ((by rw [hg]; exact (below_size (q5_4)) : w.heap.size ≤ qc)); have n3_ := q0_4 ((by rw [hg]; exact (below_size (q5_4)) : w.heap.size ≤ qc)); clear HB; have HB := n0_; have q4 := n1_; have GW210 := n2_; have z02 := n3_; clear n0_ n1_ n2_ n3_; clear hb hbox hg) | ((with_reducible refine gate_dst (N := 2) rfl ?_); refine box_event ?hg (N := 2) ?hd (cs := #[.int .i64 0, .int .i64 0]) (t := 30) ?hr ?_; (case hd => rfl); (case hg => rfl); (case hr => first | (go_simp; done) | (go_simp; rfl)); intro q8 hg w3 hbox hb; have n0_ := q0_4 (bb q4.out hb); have n1_ := q0_4 (below_step (qg_4) hb); have n2_ := q0_4 (hbox); have n3_ := q0_4 ((by rw [hg]; exact (below_size (qg_4)) : w.heap.size ≤ q8)); have n4_ := q0_4 ((by rw [hg]; exact (below_size (qg_4)) : w.heap.size ≤ q8)); have n5_ := q0_4 ((by rw [hg]; exact Nat.ne_of_lt (bl q4.out) : qc ≠ q8)); have n6_ := q0_4 ((by rw [hg]; exact Nat.ne_of_gt (bl q4.out) : q8 ≠ qc)); clear q4; clear HB; have q4 := n0_; have HB := n1_; have q7 := n2_; have GW211 := n3_; have z03 := n4_; have qi := n5_; have qj := n6_; clear n0_ n1_ n2_ n3_ n4_ n5_ n6_; clear hb hbox hg) | ((with_reducible refine gate_dst (N := 3) rfl ?_); refine box_event ?hg (N := 3) ?hd (cs := #[.int .i64 0, .int .i64 0]) (t := 30) ?hr ?_; (case hd => rfl); (case hg => rfl); (case hr => first | (go_simp; done) | (go_simp; rfl)); intro qd hg w4 hbox hb; have n0_ := q0_4 (bb q4.out hb); have n1_ := q0_4 (bb q7.out hb); have n2_ := q0_4 (below_step (qe_4) hb); have n3_ := q0_4 (hbox); have n4_ := q0_4 ((by rw [hg]; exact (below_size (qe_4)) : w.heap.size ≤ qd)); have n5_ := q0_4 ((by rw [hg]; exact (below_size (qe_4)) : w.heap.size ≤ qd)); have n6_ := q0_4 ((by rw [hg]; exact Nat.ne_of_lt (bl q4.out) : qc ≠ qd)); have n7_ := q0_4 ((by rw [hg]; exact Nat.ne_of_gt (bl q4.out) : qd ≠ qc)); have n8_ := q0_4 ((by rw [hg]; exact Nat.ne_of_lt (bl q7.out) : q8 ≠ qd)); have n9_ := q0_4 ((by rw [hg]; exact Nat.ne_of_gt (bl q7.out) : qd ≠ q8)); clear q4; clear q7; clear HB; have q4 := n0_; have q7 := n1_; have HB := n2_; have qh := n3_; have GW212 := n4_; have z04 := n5_; have qk := n6_; have ql := n7_; have qb := n8_; have qm := n9_; clear n0_ n1_ n2_ n3_ n4_ n5_ n6_ n7_ n8_ n9_; clear hb hbox hg; have hnb5 := qi.out; have hnc5 := qj.out; have hnb6 := qk.out; have hnc6 := ql.out; have hcz7_0 : w4.cell? ⟨qc, 0, none⟩ = some (.int .i64 a0_0) := (blk_cell q4.out 0).trans rfl; have hcz7_1 : w4.cell? ⟨qc, 1, none⟩ = some (.int .i64 a0_1) := (blk_cell q4.out 1).trans rfl; have hfz7_0 := blk_frozen q4.out 0; have hfz7_1 := blk_frozen q4.out 1; have hnb8 := qm.out; have hnc8 := qb.out; have hcz9_0 : w4.cell? ⟨qd, 0, none⟩ = some (.int .i64 0) := (blk_cell qh.out 0).trans rfl; have hcz9_1 : w4.cell? ⟨qd, 1, none⟩ = some (.int .i64 0) := (blk_cell qh.out 1).trans rfl; have hfz9_0 := blk_frozen qh.out 0; have hfz9_1 := blk_frozen qh.out 1; have hcz10_0 : w4.cell? ⟨q8, 0, none⟩ = some (.int .i64 0) := (blk_cell q7.out 0).trans rfl; have hcz10_1 : w4.cell? ⟨q8, 1, none⟩ = some (.int .i64 0) := (blk_cell q7.out 1).trans rfl; have hfz10_0 := blk_frozen q7.out 0; have hfz10_1 := blk_frozen q7.out 1)))
 refine bodyPost_ret (results_cell_row rfl _ _ q8 30 #[.int .i64 a0_0, .int .i64 a0_1] (0, 0) _ rfl (by refine ba ?_; refine blk_put (cs := #[.int .i64 a0_0, .int .i64 0]) ?_ 1 _ rfl; refine ba ?_; refine blk_put (cs := #[.int .i64 0, .int .i64 0]) ?_ 0 _ rfl; refine ba ?_; refine blk_far ?_ qb.out _; refine ba ?_; refine blk_far ?_ qb.out _; refine ba ?_; exact q7.out) Try.underlying30 rfl (by kernel_rfl)) rfl ?_; (exact ⟨by first | rfl | (simp [errW_none, errW_some] <;> rfl) | (simp [*, errW_none, errW_some] <;> rfl), by exact (qp_4)⟩)
/-! ### laws_toChordS: function 25 -/
def laws_toChordS.l0 : Nat → List (S28) → List (S30) → Int → Option ((List (S30)))
 | 0, _, _, _ => none
 | k + 1, x0, x3, x4 => if x4 < (x0.length : Int) then (if 0 ≤ x4 then ((laws_toChord.f ((rd_T28 x0 x4).f0) ((rd_T28 x0 x4).f1)).bind fun bt217 => (if x4 < (x3.length : Int) then (laws_toChordS.l0 k x0 (x3.set (x4 : Int).toNat (⟨bt217.1, bt217.2⟩ : S30)) (wrap64 (x4 + 1))) else (none))) else (none)) else (some x3)
def laws_toChordS.f (k : Nat) (l0 : List (S28)) : Option ((List (S30))) := if 0 ≤ (l0.length : Int) then (if ((l0.length : Int) : Int).toNat ≤ 17592186044416 then (laws_toChordS.l0 k l0 (List.replicate ((l0.length : Int) : Int).toNat z30) 0) else (none)) else (none)
theorem laws_toChordS.mono_l : ∀ k, (∀ y0 y1 y2, LeO (laws_toChordS.l0 k y0 y1 y2) (laws_toChordS.l0 (k + 1) y0 y1 y2))
 | 0 => fun _ _ _ r h => by simp [laws_toChordS.l0] at h
 | k + 1 => by
  have ih0 := laws_toChordS.mono_l k
  · intro y0 y1 y2
    unfold laws_toChordS.l0
    repeat' first
    | (with_reducible exact ih0 _ _ _)
    | (with_reducible exact LeO.refl _)
    | (with_reducible exact LeO.none _)
    | (with_reducible refine LeO.ite ?_ ?_)
    | (with_reducible refine LeO.bind ?_ (fun _ => ?_))
    | exact ih0 _ _ _
    | exact LeO.none _
    | refine LeO.ite ?_ ?_
    | refine LeO.bind ?_ (fun _ => ?_)
theorem laws_toChordS.mono : ∀ a0 k, LeO (laws_toChordS.f k a0) (laws_toChordS.f (k + 1) a0) := by
 intro a0 k; have ih0 := laws_toChordS.mono_l k; unfold laws_toChordS.f
 repeat' first
  | (with_reducible exact ih0 _ _ _)
  | (with_reducible exact LeO.refl _)
  | (with_reducible exact LeO.none _)
  | (with_reducible refine LeO.ite ?_ ?_)
  | (with_reducible refine LeO.bind ?_ (fun _ => ?_))
  | exact ih0 _ _ _
  | exact LeO.none _
  | refine LeO.ite ?_ ?_
  | refine LeO.bind ?_ (fun _ => ?_)
set_option maxHeartbeats 8000000 in
set_option maxRecDepth 100000 in
theorem laws_toChordS.calls (k : Nat) (A0 : Option Addr) (c0 : Nat) (l0 : List (S28)) (r : List (S30)) (w : World) (hr0 : Kd.C k28 w A0 l0.length l0) (hc0 : l0.length ≤ c0) (h : laws_toChordS.f k l0 = some r) :
 Calls Try.prog 25 #[.slice A0 l0.length c0] w fun e w' => ∃ v0_ : Value, e = .returned (v0_) ∧ Kd.R k30 30 w' w.heap.size (fun _ => True) v0_ r ∧ Below w.heap.size w w' := by
 have hu28 := Try.underlying28; have hu30 := Try.underlying30; have HR0 := q0_4 hr0; have HC0 := q0_4 hc0; clear hr0 hc0; have HB := q0_4 (Below.refl w.heap.size w); (have H : (if 0 ≤ (l0.length : Int) then (if ((l0.length : Int) : Int).toNat ≤ 17592186044416 then (laws_toChordS.l0 k l0 (List.replicate ((l0.length : Int) : Int).toNat z30) 0) else (none)) else (none)) = some r := h); clear h
 by_cases c2 : 0 ≤ (l0.length : Int)
 · rw [if_pos c2] at H
   have c2b0 := eq_true c2; (have c2b1 : decide (0 ≤ (l0.length : Int)) = true := decide_eq_true c2); clear c2
   by_cases c3 : ((l0.length : Int) : Int).toNat ≤ 17592186044416
   · rw [if_pos c3] at H
     have c3b0 := eq_true c3; (have c3b1 : decide (((l0.length : Int) : Int).toNat ≤ 17592186044416) = true := decide_eq_true c3); clear c3; obtain ⟨y213, hy213⟩ : ∃ y_ : List (S30), y_ = (List.replicate ((l0.length : Int) : Int).toNat z30) := ⟨_, rfl⟩; (replace H : (laws_toChordS.l0 k l0 y213 0) = some r := by first | (rw [hy213]; with_reducible exact H) | (have H2_ := (Option.bind_some _ _).symm.trans H; rw [hy213]; with_reducible exact H2_) | (have H2_ := (Option.bind_some _ _).symm.trans H; with_reducible exact H2_) | with_reducible exact H | (rw [hy213]; exact H) | exact H); have Ny213 := q0_4 hy213; clear hy213; (have H' := q0_4 H); clear H; go_enter Try.func25, Try.ntmps25; (go_wp2_with (first | ((with_reducible refine gate_dst (N := 7) rfl ?_); refine Kd.R_make k30 _ 30 rfl (N := 7) rfl 41 _ _ rfl (l0.length : Int) rfl rfl Try.underlying41 (.agg #[(.int .i64 0), (.int .i64 0)]) 16 info30 rfl (by decide) (by omega) z30 (ok := fun _ => True) (okp := fun _ => True) (k30_mkM _ _ _ z30 ) (fun _ hk => hk) trivial (of_decide_eq_true (by first | (with_reducible assumption) | assumption)) (Nat.le_trans (Nat.mul_le_mul_right _ (of_decide_eq_true (by first | (with_reducible assumption) | assumption) : (l0.length : Int).toNat ≤ 17592186044416)) (by omega)) (Below.refl _ _) (Nat.le_refl _) ?_; intro v214 w4 ho5 hb hg_ hnew_; clear hg_ hnew_; (first | rw [← Ny213.out] at ho5 | (simp only [Int.reduceToNat] at ho5; rw [← Ny213.out] at ho5)); have n0_ := q0_4 (Kd.R_lower ho5 (below_size (q5_4))); have n1_ := q0_4 (below_step (q5_4) hb); clear HB; have qu := n0_; have HB := n1_; clear n0_ n1_; clear hb ho5))); (go_loopg [4] k (fun kq v4 w' => ∃ (x3_1 : List (S30)) (x4_1 : Int), v4 = .int .i64 x4_1 ∧ Aside0 (laws_toChordS.l0 kq l0 x3_1 x4_1 = some r) ∧ Aside0 (kq ≤ k) ∧ Aside0 (Kd.R k30 30 w' w.heap.size (fun _ => True) v214 x3_1) ∧ Aside0 (Below w.heap.size w w')))
     case atStart => exact ⟨(y213), (0), (by first | rfl | (simp; done) | (simp [*]; done)), H', ⟨Nat.le_refl _⟩, ⟨by refine ra ?_; exact qu.out⟩, ⟨by exact (q5_4)⟩⟩
     case round =>
      clear H'; (try clear c2); (try clear c2b0); (try clear c2b1); (try clear p2); (try clear c3); (try clear c3b0); (try clear c3b1); obtain ⟨x3_1, x4_1, rfl, HA, HK1, q2, HB⟩ := hrel
      cases gk with
      | zero => exact absurd HA.out (by simp [laws_toChordS.l0])
      | succ k1 =>
       have H := HA.out; clear HA; (simp only [laws_toChordS.l0] at H)
       by_cases c6 : x4_1 < (l0.length : Int)
       · rw [if_pos c6] at H
         (have c6b0 : decide (x4_1 < (l0.length : Int)) = true := decide_eq_true c6); clear c6
         by_cases c7 : 0 ≤ x4_1
         · rw [if_pos c7] at H
           (have c7b0 : decide (0 ≤ x4_1) = true := decide_eq_true c7); clear c7; replace H := Option.bind_eq_some_iff.mp H; obtain ⟨⟨t217, t218⟩, A80, H⟩ := H; replace H : (if x4_1 < (x3_1.length : Int) then (laws_toChordS.l0 k1 l0 (x3_1.set (x4_1 : Int).toNat (⟨t217, t218⟩ : S30)) (wrap64 (x4_1 + 1))) else (none)) = some r := H; have A8 := q0_4 A80; clear A80
           by_cases c9 : x4_1 < (x3_1.length : Int)
           · rw [if_pos c9] at H
             (have c9b0 : decide (x4_1 < (x3_1.length : Int)) = true := decide_eq_true c9); clear c9; obtain ⟨y219, hy219⟩ : ∃ y_ : List (S30), y_ = (x3_1.set (x4_1 : Int).toNat (⟨t217, t218⟩ : S30)) := ⟨_, rfl⟩; (replace H : (laws_toChordS.l0 k1 l0 y219 (wrap64 (x4_1 + 1))) = some r := by first | (rw [hy219]; with_reducible exact H) | (have H2_ := (Option.bind_some _ _).symm.trans H; rw [hy219]; with_reducible exact H2_) | (have H2_ := (Option.bind_some _ _).symm.trans H; with_reducible exact H2_) | with_reducible exact H | (rw [hy219]; exact H) | exact H); have Ny219 := q0_4 hy219; clear hy219; (have H' := q0_4 H); clear H; (have p216 : 0 ≤ (x4_1 : Int) := of_decide_eq_true (by first | (with_reducible assumption) | assumption)); (have q216 : x4_1 < (l0.length : Int) := of_decide_eq_true (by first | (with_reducible assumption) | assumption)); obtain ⟨ad216, e216, hx216_0, hx216_1⟩ := at_T28 HR0.out x4_1 p216 q216
             cases e216
             replace hx216_0 := (HB.out.cell (World.block_lt_of_cell? w _ hx216_0)).trans hx216_0; replace hx216_1 := (HB.out.cell (World.block_lt_of_cell? w _ hx216_1)).trans hx216_1; replace p216 := eq_true p216; replace q216 := eq_true q216
             (go_wp2_with (first | ((with_reducible refine gate_callee (f := 16) rfl ?_); refine goesL_ (some 20) rfl rfl Try.func16 (by kernel_rfl) rfl #[.agg #[.int .i64 ((rd_T28 l0 x4_1).f0), .int .i64 ((rd_T28 l0 x4_1).f1)]] rfl ma ?_; (with_reducible refine (laws_toChord.calls ((rd_T28 l0 x4_1).f0) ((rd_T28 l0 x4_1).f1) t217 t218 _ A8.out).mono ?_); rintro e w11 ⟨rfl, hb⟩; refine ⟨_, rfl, ?_⟩; have n0_ := q0_4 (Kd.R_below (ra q2.out) hb); have n1_ := q0_4 (below_step (q5_4) hb); clear q2; clear HB; have q2 := n0_; have HB := n1_; clear n0_ n1_; (try clear hb); (try clear hb2); (try clear hk); (try clear hi); have p10 : 0 ≤ (x4_1 : Int) := of_decide_eq_true (by first | (with_reducible assumption) | assumption); have q10 : (x4_1 : Int) < ((x3_1.length : Int) : Int) := of_decide_eq_true (by first | (with_reducible assumption) | assumption); obtain ⟨go10, qv, eo10, qw, gl10, cl10, HG10⟩ := Kd.R_form q2.out (by omega); (first | cases eo10 | (injection eo10 with ea_ en_ ec_; (first | subst ea_ | (injection ea_ with ea_; subst ea_)); subst ec_; clear en_)); have GB10 := q0_4 qw; have GG10 := q0_4 HG10; clear qw gl10 HG10; obtain ⟨ce10, hcl10, hM10, hcc10, hfr10⟩ := Kd.R_elem q2.out z30 (x4_1 : Int) p10 q10; obtain rfl := k30_openM hM10; have hx10_0 : w11.cell? ⟨go10, (x4_1 : Int).toNat * 2, none⟩ = some (.int .i64 ((rd_T30 x3_1 x4_1).f0)) := hcc10 0 _ rfl; have hx10_1 : w11.cell? ⟨go10, (x4_1 : Int).toNat * 2 + 1, none⟩ = some (.int .i64 ((rd_T30 x3_1 x4_1).f1)) := hcc10 1 _ rfl; have hf10_0 : w11.frozen? ⟨go10, (x4_1 : Int).toNat * 2, none⟩ = false := hfr10 0; have hf10_1 : w11.frozen? ⟨go10, (x4_1 : Int).toNat * 2 + 1, none⟩ = false := hfr10 1; clear hcl10 hcc10 hfr10 hM10; replace p10 := eq_true p10; replace q10 := eq_true q10; have HX12 := q0_4 (show Kd.R k30 30 w11 w.heap.size (fun _ => True) (.slice (some ⟨go10, 0, none⟩) x3_1.length qv) x3_1 from (ra q2.out)); obtain ⟨ce12, hcl12, hM12, hcc12, hfr12⟩ := Kd.R_elem HX12.out z30 (x4_1 : Int) (of_decide_eq_true (by first | (with_reducible assumption) | assumption)) (by have h_ : (x4_1 : Int) < ((x3_1.length : Int) : Int) := of_decide_eq_true (by first | (with_reducible assumption) | assumption); first | exact h_ | (have e_ := (Kd.R_reads' q2.out).1; omega) | simpa using h_); obtain rfl := k30_openM hM12; have HP12 := Kd.R_seg HX12.out (x4_1 : Int) (of_decide_eq_true (by first | (with_reducible assumption) | assumption)) (by have h_ : (x4_1 : Int) < ((x3_1.length : Int) : Int) := of_decide_eq_true (by first | (with_reducible assumption) | assumption); first | exact h_ | (have e_ := (Kd.R_reads' q2.out).1; omega) | simpa using h_) (seg := [.int .i64 t217, .int .i64 t218]) (j := 0) hcl12 hcc12 (show 2 ≤ 2 from by decide) (x' := (⟨t217, t218⟩ : S30)) (k30_mkM _ _ _ (⟨t217, t218⟩ : S30) ) (fun _ hk => hk); have hx12_0 := hcc12 0 _ rfl; (try simp only [show (k30).sz = 2 from rfl, Nat.mul_one, Nat.add_zero] at hx12_0); have hf12_0 := hfr12 0; (try simp only [show (k30).sz = 2 from rfl, Nat.mul_one, Nat.add_zero] at hf12_0); have hx12_1 := hcc12 1 _ rfl; (try simp only [show (k30).sz = 2 from rfl, Nat.mul_one, Nat.add_zero] at hx12_1); have hf12_1 := hfr12 1; (try simp only [show (k30).sz = 2 from rfl, Nat.mul_one, Nat.add_zero] at hf12_1); clear hcl12 hcc12 hfr12 hM12) | ((with_reducible refine gate_store (t := 30) (p := 21) rfl ?_); refine store_event (t := 30) (p := 21) (v := ?vo_w13) (w1 := ((w11.setCell ⟨go10, (x4_1 : Int).toNat * 2, none⟩ (.int .i64 t217)).setCell ⟨go10, (x4_1 : Int).toNat * 2 + 1, none⟩ (.int .i64 t218))) ?hg ?ho ?hn ?hr ?_; (case ho => rfl); (case hg => rfl); (case hn => rfl); (case hr => first | (go_simp; done) | (go_simp; rfl)); intro w13 hw; have hg : w11.grownBy w13 (some go10) := (by rw [hw]; exact HP12.2); have hp_ : Kd.R k30 30 w13 w.heap.size (fun _ => True) (.slice (some ⟨go10, 0, none⟩) x3_1.length qv) y219 := (by rw [hw, Ny219.out]; exact HP12.1); clear HP12; have n0_ := q0_4 (hp_); have n1_ := q0_4 ((by rw [hw]; exact below_set (below_set (HB.out) GB10.out) GB10.out : Below w.heap.size w w13)); clear q2; clear HB; have q2 := n0_; have HB := n1_; clear n0_ n1_; clear hg hw hp_)))
             (go_roundg k1)
             case measure => have := HK1.out; omega
             case rel => exact ⟨(y219), (wrap64 (x4_1 + 1)), (by first | rfl | (simp; done) | (simp [*]; done)), H', ⟨by have := HK1.out; omega⟩, ⟨by refine ra ?_; exact q2.out⟩, ⟨by exact (q5_4)⟩⟩
           · rw [if_neg c9] at H
             exact absurd H (by simp)
         · rw [if_neg c7] at H
           exact absurd H (by simp)
       · rw [if_neg c6] at H
         (have c6b0 : decide (x4_1 < (l0.length : Int)) = false := decide_eq_false c6); clear c6; obtain rfl := Option.some.inj H; (go_wp2); go_ret; (exact ⟨_, by first | rfl | (simp [errW_none, errW_some] <;> rfl) | (simp [*, errW_none, errW_some] <;> rfl), by refine ra ?_; exact q2.out, by exact (q5_4)⟩)
   · rw [if_neg c3] at H
     exact absurd H (by simp)
 · rw [if_neg c2] at H
   exact absurd H (by simp)
/-! ### impl_InRange: function 59 -/
def impl_InRange.f (a0 : Int) (a1 : Int) (a2 : Int) : Option (Bool) := if a1 ≤ a0 then (some (decide (a0 ≤ a2))) else (some false)
set_option maxHeartbeats 8000000 in
set_option maxRecDepth 100000 in
theorem impl_InRange.calls (a0 : Int) (a1 : Int) (a2 : Int) (r : Bool) (w : World) (h : impl_InRange.f a0 a1 a2 = some r) :
 Calls Try.prog 59 #[.int .i64 a0, .int .i64 a1, .int .i64 a2] w fun e w' => e = .returned (.bool r) ∧ Drawn0 w w' := by
 (have H : (if a1 ≤ a0 then (some (decide (a0 ≤ a2))) else (some false)) = some r := h); clear h
 by_cases c4 : a1 ≤ a0
 · rw [if_pos c4] at H
   (have c4b0 : decide (a1 ≤ a0) = true := decide_eq_true c4); clear c4; obtain rfl := Option.some.inj H; go_enter Try.func59, Try.ntmps59; (go_wp2); go_ret; exact ⟨by first | rfl | (simp; done) | (simp [*]; done), by repeat (first | exact Drawn0.refl _ | apply Drawn0.step)⟩
 · rw [if_neg c4] at H
   (have c4b0 : decide (a1 ≤ a0) = false := decide_eq_false c4); clear c4; obtain rfl := Option.some.inj H; go_enter Try.func59, Try.ntmps59; (go_wp2); go_ret; exact ⟨by first | rfl | (simp; done) | (simp [*]; done), by repeat (first | exact Drawn0.refl _ | apply Drawn0.step)⟩
/-! ### impl_IsKey: function 46 -/
def impl_IsKey.f (a0 : Int) : Option (Bool) := (impl_InRange.f a0 (-7) 7).bind fun t220 => (some t220)
set_option maxHeartbeats 8000000 in
set_option maxRecDepth 100000 in
theorem impl_IsKey.calls (a0 : Int) (r : Bool) (w : World) (h : impl_IsKey.f a0 = some r) :
 Calls Try.prog 46 #[.int .i64 a0] w fun e w' => e = .returned (.bool r) ∧ Drawn0 w w' := by
 (have H : ((impl_InRange.f a0 (-7) 7).bind fun t220 => (some t220)) = some r := h); clear h; replace H := Option.bind_eq_some_iff.mp H; obtain ⟨t220, A20, H⟩ := H; replace H : (some t220) = some r := H; have A2 := q0_4 A20; clear A20; obtain rfl := Option.some.inj H; go_enter Try.func46, Try.ntmps46; (go_wp2_with (first | ((with_reducible refine gate_callee (f := 59) rfl ?_); refine goesL_ (some 4) rfl rfl Try.func59 (by kernel_rfl) rfl #[.int .i64 a0, .int .i64 (-7), .int .i64 7] rfl ma ?_; (with_reducible refine (impl_InRange.calls a0 (-7) 7 t220 _ A2.out).mono ?_); rintro e w' ⟨rfl, ⟨nd, rfl⟩⟩; refine ⟨_, rfl, ?_⟩))); go_ret; exact ⟨by first | rfl | (simp; done) | (simp [*]; done), by repeat (first | exact Drawn0.refl _ | apply Drawn0.step)⟩
/-! ### impl_IsChord: function 41 -/
def impl_IsChord.f (a0_0 : Int) (a0_1 : Int) : Option (Bool) := (impl_InRange.f a0_0 0 11).bind fun t222 => (if t222 = true then ((impl_InRange.f a0_1 1 5).bind fun t223 => (some t223)) else (some false))
set_option maxHeartbeats 8000000 in
set_option maxRecDepth 100000 in
theorem impl_IsChord.calls (a0_0 : Int) (a0_1 : Int) (r : Bool) (w : World) (h : impl_IsChord.f a0_0 a0_1 = some r) :
 Calls Try.prog 41 #[.agg #[.int .i64 a0_0, .int .i64 a0_1]] w fun e w' => e = .returned (.bool r) ∧ Below w.heap.size w w' := by
 have hu30 := Try.underlying30; have HB := q0_4 (Below.refl w.heap.size w); (have H : ((impl_InRange.f a0_0 0 11).bind fun t222 => (if t222 = true then ((impl_InRange.f a0_1 1 5).bind fun t223 => (some t223)) else (some false))) = some r := h); clear h; replace H := Option.bind_eq_some_iff.mp H; obtain ⟨t222, A20, H⟩ := H; replace H : (if t222 = true then ((impl_InRange.f a0_1 1 5).bind fun t223 => (some t223)) else (some false)) = some r := H; have A2 := q0_4 A20; clear A20
 by_cases c3 : t222 = true
 · subst c3
   have H1 : ((impl_InRange.f a0_1 1 5).bind fun t223 => (some t223)) = some r := by rw [if_pos rfl] at H; exact H
   clear H; have H := H1; clear H1; replace H := Option.bind_eq_some_iff.mp H; obtain ⟨t223, A40, H⟩ := H; replace H : (some t223) = some r := H; have A4 := q0_4 A40; clear A40; obtain rfl := Option.some.inj H; go_enter Try.func41, Try.ntmps41; (go_wp2_with (first | ((with_reducible refine gate_dst (N := 1) rfl ?_); refine box_event ?hg (N := 1) ?hd (cs := #[.int .i64 a0_0, .int .i64 a0_1]) (t := 30) ?hr ?_; (case hd => rfl); (case hg => rfl); (case hr => first | (go_simp; done) | (go_simp; rfl)); intro q9 hg w5 hbox hb; have n0_ := q0_4 (below_step (q5_4) hb); have n1_ := q0_4 (hbox); have n2_ := q0_4 ((by rw [hg]; exact (below_size (q5_4)) : w.heap.size ≤ q9)); have n3_ := q0_4 ((by rw [hg]; exact (below_size (q5_4)) : w.heap.size ≤ q9)); clear HB; have HB := n0_; have qa := n1_; have GW221 := n2_; have qx := n3_; clear n0_ n1_ n2_ n3_; clear hb hbox hg; have hcz6_0 : w5.cell? ⟨q9, 0, none⟩ = some (.int .i64 a0_0) := (blk_cell qa.out 0).trans rfl; have hcz6_1 : w5.cell? ⟨q9, 1, none⟩ = some (.int .i64 a0_1) := (blk_cell qa.out 1).trans rfl; have hfz6_0 := blk_frozen qa.out 0; have hfz6_1 := blk_frozen qa.out 1) | ((with_reducible refine gate_callee (f := 59) rfl ?_); refine goesL_ (some 5) rfl rfl Try.func59 (by kernel_rfl) rfl #[.int .i64 a0_0, .int .i64 0, .int .i64 11] rfl ma ?_; (with_reducible refine (impl_InRange.calls a0_0 0 11 true _ A2.out).mono ?_); rintro e w' ⟨rfl, ⟨nd, rfl⟩⟩; refine ⟨_, rfl, ?_⟩) | (go_at_call 59; (with_reducible refine (impl_InRange.calls a0_1 1 5 t223 _ A4.out).mono ?_); rintro e w' ⟨rfl, ⟨nd, rfl⟩⟩))); go_ret; (exact ⟨by first | rfl | (simp [errW_none, errW_some] <;> rfl) | (simp [*, errW_none, errW_some] <;> rfl), by exact (qq_4)⟩)
 · replace c3 := Bool.eq_false_iff.mpr c3
   subst c3; (have H1 : (some false) = some r := by rw [if_neg (show ¬ (false = true) by decide)] at H; exact H); clear H; have H := H1; clear H1; obtain rfl := Option.some.inj H; go_enter Try.func41, Try.ntmps41; (go_wp2_with (first | ((with_reducible refine gate_dst (N := 1) rfl ?_); refine box_event ?hg (N := 1) ?hd (cs := #[.int .i64 a0_0, .int .i64 a0_1]) (t := 30) ?hr ?_; (case hd => rfl); (case hg => rfl); (case hr => first | (go_simp; done) | (go_simp; rfl)); intro q9 hg w7 hbox hb; have n0_ := q0_4 (below_step (q5_4) hb); have n1_ := q0_4 (hbox); have n2_ := q0_4 ((by rw [hg]; exact (below_size (q5_4)) : w.heap.size ≤ q9)); have n3_ := q0_4 ((by rw [hg]; exact (below_size (q5_4)) : w.heap.size ≤ q9)); clear HB; have HB := n0_; have qa := n1_; have GW221 := n2_; have qx := n3_; clear n0_ n1_ n2_ n3_; clear hb hbox hg; have hcz8_0 : w7.cell? ⟨q9, 0, none⟩ = some (.int .i64 a0_0) := (blk_cell qa.out 0).trans rfl; have hcz8_1 : w7.cell? ⟨q9, 1, none⟩ = some (.int .i64 a0_1) := (blk_cell qa.out 1).trans rfl; have hfz8_0 := blk_frozen qa.out 0; have hfz8_1 := blk_frozen qa.out 1) | ((with_reducible refine gate_callee (f := 59) rfl ?_); refine goesL_ (some 5) rfl rfl Try.func59 (by kernel_rfl) rfl #[.int .i64 a0_0, .int .i64 0, .int .i64 11] rfl ma ?_; (with_reducible refine (impl_InRange.calls a0_0 0 11 false _ A2.out).mono ?_); rintro e w' ⟨rfl, ⟨nd, rfl⟩⟩; refine ⟨_, rfl, ?_⟩))); go_ret; (exact ⟨by first | rfl | (simp [errW_none, errW_some] <;> rfl) | (simp [*, errW_none, errW_some] <;> rfl), by exact (qq_4)⟩)
/-! ### impl_Mod: function 36 -/
def impl_Mod.f (a0 : Int) (a1 : Int) : Option (Int) := (impl_InRange.f a1 1 1000000000000).bind fun t224 => (if t224 = true then (if a1 = 0 then (none) else (some (Int.tmod (wrap64 ((Int.tmod a0 a1) + a1)) a1))) else (some 0))
set_option maxHeartbeats 8000000 in
set_option maxRecDepth 100000 in
theorem impl_Mod.calls (a0 : Int) (a1 : Int) (r : Int) (w : World) (h : impl_Mod.f a0 a1 = some r) :
 Calls Try.prog 36 #[.int .i64 a0, .int .i64 a1] w fun e w' => e = .returned (.int .i64 r) ∧ Drawn0 w w' := by
 (have H : ((impl_InRange.f a1 1 1000000000000).bind fun t224 => (if t224 = true then (if a1 = 0 then (none) else (some (Int.tmod (wrap64 ((Int.tmod a0 a1) + a1)) a1))) else (some 0))) = some r := h); clear h; replace H := Option.bind_eq_some_iff.mp H; obtain ⟨t224, A30, H⟩ := H; replace H : (if t224 = true then (if a1 = 0 then (none) else (some (Int.tmod (wrap64 ((Int.tmod a0 a1) + a1)) a1))) else (some 0)) = some r := H; have A3 := q0_4 A30; clear A30
 by_cases c4 : t224 = true
 · subst c4
   have H1 : (if a1 = 0 then (none) else (some (Int.tmod (wrap64 ((Int.tmod a0 a1) + a1)) a1))) = some r := by rw [if_pos rfl] at H; exact H
   clear H; have H := H1; clear H1
   by_cases c5 : a1 = 0
   · rw [if_pos c5] at H
     exact absurd H (by simp)
   · rw [if_neg c5] at H
     (have c5b0 : (a1 == 0) = false := beq_eq_false_iff_ne.mpr c5); (have c5b1 : (a1 != 0) = true := bne_iff_ne.mpr c5); obtain rfl := Option.some.inj H; go_enter Try.func36, Try.ntmps36; (go_wp2_with (first | ((with_reducible refine gate_callee (f := 59) rfl ?_); refine goesL_ (some 6) rfl rfl Try.func59 (by kernel_rfl) rfl #[.int .i64 a1, .int .i64 1, .int .i64 1000000000000] rfl ma ?_; (with_reducible refine (impl_InRange.calls a1 1 1000000000000 true _ A3.out).mono ?_); rintro e w' ⟨rfl, ⟨nd, rfl⟩⟩; refine ⟨_, rfl, ?_⟩))); go_ret; exact ⟨by first | rfl | (simp; done) | (simp [*]; done), by repeat (first | exact Drawn0.refl _ | apply Drawn0.step)⟩
 · replace c4 := Bool.eq_false_iff.mpr c4
   subst c4; (have H1 : (some 0) = some r := by rw [if_neg (show ¬ (false = true) by decide)] at H; exact H); clear H; have H := H1; clear H1; obtain rfl := Option.some.inj H; go_enter Try.func36, Try.ntmps36; (go_wp2_with (first | ((with_reducible refine gate_callee (f := 59) rfl ?_); refine goesL_ (some 6) rfl rfl Try.func59 (by kernel_rfl) rfl #[.int .i64 a1, .int .i64 1, .int .i64 1000000000000] rfl ma ?_; (with_reducible refine (impl_InRange.calls a1 1 1000000000000 false _ A3.out).mono ?_); rintro e w' ⟨rfl, ⟨nd, rfl⟩⟩; refine ⟨_, rfl, ?_⟩))); go_ret; exact ⟨by first | rfl | (simp; done) | (simp [*]; done), by repeat (first | exact Drawn0.refl _ | apply Drawn0.step)⟩
/-! ### slices_Sort_int_int: function 37 -/
def slices_Sort_int_int.f (l0 : List Int) : Option (List Int) := if l0.length < 4611686018427387904 then some (ShSort.sorted l0) else none
theorem slices_Sort_int_int.calls (P0_ : Nat → Prop) (u9000_ : Value) (l0 : List Int) (r : List Int) (w0 w : World) (hB : Below w0.heap.size w0 w) (ho0 : Kd.R (Kd.int .i64) 3 w w0.heap.size P0_ u9000_ l0) (h : slices_Sort_int_int.f l0 = some r) :
 Calls Try.prog 37 #[u9000_] w fun e w' => e = .returned (.tuple #[]) ∧ Kd.R (Kd.int .i64) 3 w' w0.heap.size (fun k_ => (P0_ k_ ∨ w.heap.size ≤ k_)) u9000_ r ∧ Below w0.heap.size w0 w' ∧ Kept w w' (fun k_ => P0_ k_) := by
 unfold slices_Sort_int_int.f at h
 by_cases c : l0.length < 4611686018427387904
 · rw [if_pos c] at h
   obtain rfl := Option.some.inj h; exact ShSort.sort_calls Lay.laySort 3 P0_ u9000_ l0 w0 w hB ho0 c
 · rw [if_neg c] at h; cases h
/-! ### slices_Compact_int_int: function 38 -/
def slices_Compact_int_int.f (k : Nat) (l0 : List Int) : Option (List Int) := some (Go.Lib.compact l0)
theorem slices_Compact_int_int.mono : ∀ a0 k, LeO (slices_Compact_int_int.f k a0) (slices_Compact_int_int.f (k + 1) a0) := fun _ _ => LeO.refl _
theorem slices_Compact_int_int.calls (k : Nat) (P0_ : Nat → Prop) (u9000_ : Value) (l0 : List Int) (r : List Int) (w0 w : World) (hB : Below w0.heap.size w0 w) (ho0 : Kd.R (Kd.int .i64) 3 w w0.heap.size P0_ u9000_ l0) (h : slices_Compact_int_int.f k l0 = some r) :
 Calls Try.prog 38 #[u9000_] w fun e w' => ∃ v0_ : Value, e = .returned (v0_) ∧ Kd.R (Kd.int .i64) 3 w' w0.heap.size (fun k_ => (P0_ k_ ∨ w.heap.size ≤ k_)) v0_ r ∧ Below w0.heap.size w0 w' ∧ Kept w w' (fun k_ => P0_ k_) := by
 obtain rfl := Option.some.inj h; exact ShCompact.compact_calls Lay.layCompact _ P0_ u9000_ l0 w0 w hB ho0
/-! ### impl_ClassesOf: function 11 -/
def impl_ClassesOf.l0 : Nat → List Int → List Int → Int → Int → Option (List Int)
 | 0, _, _, _, _ => none
 | k + 1, x3, x7, x8, x9 => if x9 < x8 then (if 0 ≤ x9 then (if x9 < (x7.length : Int) then ((impl_Mod.f (rd x7 x9) 12).bind fun t246 => (if x3.length < 17592186044416 then (impl_ClassesOf.l0 k (x3 ++ [t246]) x7 x8 (wrap64 (x9 + 1))) else (none))) else (none)) else (none)) else ((slices_Sort_int_int.f x3).bind fun t250 => ((slices_Compact_int_int.f k t250).bind fun t251 => (some t251)))
def impl_ClassesOf.f (k : Nat) (l0 : List Int) : Option (List Int) := impl_ClassesOf.l0 k (([] : List Int)) l0 (l0.length : Int) 0
theorem impl_ClassesOf.mono_l : ∀ k, (∀ y0 y1 y2 y3, LeO (impl_ClassesOf.l0 k y0 y1 y2 y3) (impl_ClassesOf.l0 (k + 1) y0 y1 y2 y3))
 | 0 => fun _ _ _ _ r h => by simp [impl_ClassesOf.l0] at h
 | k + 1 => by
  have ih0 := impl_ClassesOf.mono_l k
  · intro y0 y1 y2 y3
    unfold impl_ClassesOf.l0
    repeat' first
    | (with_reducible exact ih0 _ _ _ _)
    | (with_reducible exact slices_Compact_int_int.mono _ _)
    | (with_reducible exact LeO.refl _)
    | (with_reducible exact LeO.none _)
    | (with_reducible refine LeO.ite ?_ ?_)
    | (with_reducible refine LeO.bind ?_ (fun _ => ?_))
    | exact ih0 _ _ _ _
    | exact slices_Compact_int_int.mono _ _
    | exact LeO.none _
    | refine LeO.ite ?_ ?_
    | refine LeO.bind ?_ (fun _ => ?_)
theorem impl_ClassesOf.mono : ∀ a0 k, LeO (impl_ClassesOf.f k a0) (impl_ClassesOf.f (k + 1) a0) := by
 intro a0 k; have ih0 := impl_ClassesOf.mono_l k; unfold impl_ClassesOf.f
 repeat' first
  | (with_reducible exact ih0 _ _ _ _)
  | (with_reducible exact slices_Compact_int_int.mono _ _)
  | (with_reducible exact LeO.refl _)
  | (with_reducible exact LeO.none _)
  | (with_reducible refine LeO.ite ?_ ?_)
  | (with_reducible refine LeO.bind ?_ (fun _ => ?_))
  | exact ih0 _ _ _ _
  | exact slices_Compact_int_int.mono _ _
  | exact LeO.none _
  | refine LeO.ite ?_ ?_
  | refine LeO.bind ?_ (fun _ => ?_)
set_option maxHeartbeats 8000000 in
set_option maxRecDepth 100000 in
theorem impl_ClassesOf.calls (k : Nat) (A0 : Option Addr) (c0 : Nat) (l0 : List Int) (r : List Int) (w : World) (hr0 : Kd.C (Kd.int .i64) w A0 l0.length l0) (hc0 : l0.length ≤ c0) (h : impl_ClassesOf.f k l0 = some r) :
 Calls Try.prog 11 #[.slice A0 l0.length c0] w fun e w' => ∃ v0_ : Value, e = .returned (v0_) ∧ Kd.R (Kd.int .i64) 3 w' w.heap.size (fun _ => True) v0_ r ∧ Below w.heap.size w w' := by
 have HR0 := q0_4 hr0; have HC0 := q0_4 hc0; clear hr0 hc0; have HB := q0_4 (Below.refl w.heap.size w); (have H : (impl_ClassesOf.l0 k (([] : List Int)) l0 (l0.length : Int) 0) = some r := h); clear h; obtain ⟨y242, hy242⟩ : ∃ y_ : List Int, y_ = (([] : List Int)) := ⟨_, rfl⟩; (replace H : (impl_ClassesOf.l0 k y242 l0 (l0.length : Int) 0) = some r := by first | (rw [hy242]; with_reducible exact H) | (have H2_ := (Option.bind_some _ _).symm.trans H; rw [hy242]; with_reducible exact H2_) | (have H2_ := (Option.bind_some _ _).symm.trans H; with_reducible exact H2_) | with_reducible exact H | (rw [hy242]; exact H) | exact H); have Ny242 := q0_4 hy242; clear hy242; (have H' := q0_4 H); clear H; go_enter Try.func11, Try.ntmps11; (go_wp2_with (first | ((with_reducible refine gate_dst (N := 6) rfl ?_); refine Kd.R_lit (Kd.int .i64) _ 3 ?hg (N := 6) ?hd (xs := ([] : List Int)) (inner := []) (ok := fun _ => True) (okp := fun _ => True) ?hr ?hp (fun _ hk => hk) trivial (Below.refl _ _) (Nat.le_refl _) (by simp) ?_; (case hd => rfl); (case hg => rfl); (case hr => first | (go_simp; done) | (go_simp; rfl)); (case hp => exact (Reps.none _ _)); intro v243 w2 ho3 hb hg_ hnew_; clear hg_ hnew_; (first | rw [← Ny242.out] at ho3 | (simp only [Int.reduceToNat] at ho3; rw [← Ny242.out] at ho3)); have n0_ := q0_4 (Kd.R_lower ho3 (below_size (q5_4))); have n1_ := q0_4 (below_step (q5_4) hb); clear HB; have qy := n0_; have HB := n1_; clear n0_ n1_; clear hb ho3))); (go_loopg [3, 9] k (fun kq v3 v9 w' => ∃ (x3_1 : List Int) (x9_1 : Int), v9 = .int .i64 x9_1 ∧ Aside0 (impl_ClassesOf.l0 kq x3_1 l0 (l0.length : Int) x9_1 = some r) ∧ Aside0 (kq ≤ k) ∧ Aside0 (Kd.R (Kd.int .i64) 3 w' w.heap.size (fun _ => True) v3 x3_1) ∧ Aside0 (Below w.heap.size w w')))
 case atStart => exact ⟨(y242), (0), (by first | rfl | (simp; done) | (simp [*]; done)), H', ⟨Nat.le_refl _⟩, ⟨by refine ra ?_; exact qy.out⟩, ⟨by exact (q5_4)⟩⟩
 case round =>
  clear H'; (try clear c1); (try clear p2); obtain ⟨x3_1, x9_1, rfl, HA, HK1, q2, HB⟩ := hrel
  cases gk with
  | zero => exact absurd HA.out (by simp [impl_ClassesOf.l0])
  | succ k1 =>
   have H := HA.out; clear HA; (simp only [impl_ClassesOf.l0] at H)
   by_cases c4 : x9_1 < (l0.length : Int)
   · rw [if_pos c4] at H
     (have c4b0 : decide (x9_1 < (l0.length : Int)) = true := decide_eq_true c4); clear c4
     by_cases c5 : 0 ≤ x9_1
     · rw [if_pos c5] at H
       (have c5b0 : decide (0 ≤ x9_1) = true := decide_eq_true c5); clear c5
       by_cases c6 : x9_1 < (l0.length : Int)
       · rw [if_pos c6] at H
         (have c6b0 : decide (x9_1 < (l0.length : Int)) = true := decide_eq_true c6); clear c6; replace H := Option.bind_eq_some_iff.mp H; obtain ⟨t246, A70, H⟩ := H; replace H : (if x3_1.length < 17592186044416 then (impl_ClassesOf.l0 k1 (x3_1 ++ [t246]) l0 (l0.length : Int) (wrap64 (x9_1 + 1))) else (none)) = some r := H; have A7 := q0_4 A70; clear A70
         by_cases c8 : x3_1.length < 17592186044416
         · rw [if_pos c8] at H
           have LMc8 := q0_4 c8; clear c8; obtain ⟨y247, hy247⟩ : ∃ y_ : List Int, y_ = (x3_1 ++ [t246]) := ⟨_, rfl⟩; (replace H : (impl_ClassesOf.l0 k1 y247 l0 (l0.length : Int) (wrap64 (x9_1 + 1))) = some r := by first | (rw [hy247]; with_reducible exact H) | (have H2_ := (Option.bind_some _ _).symm.trans H; rw [hy247]; with_reducible exact H2_) | (have H2_ := (Option.bind_some _ _).symm.trans H; with_reducible exact H2_) | with_reducible exact H | (rw [hy247]; exact H) | exact H); have Ny247 := q0_4 hy247; clear hy247; (have H' := q0_4 H); clear H; (have p245 : 0 ≤ (x9_1 : Int) := of_decide_eq_true (by first | (with_reducible assumption) | assumption)); (have q245 : x9_1 < (l0.length : Int) := of_decide_eq_true (by first | (with_reducible assumption) | assumption)); obtain ⟨ad245, e245, hx245_0⟩ := Kd.at_int HR0.out x9_1 p245 q245
           cases e245
           replace hx245_0 := (HB.out.cell (World.block_lt_of_cell? w _ hx245_0)).trans hx245_0; replace p245 := eq_true p245; replace q245 := eq_true q245; (go_wp2_with (first | ((with_reducible refine gate_callee (f := 36) rfl ?_); refine goesL_ (some 15) rfl rfl Try.func36 (by kernel_rfl) rfl #[.int .i64 (rd l0 x9_1), .int .i64 12] rfl ma ?_; (with_reducible refine (impl_Mod.calls (rd l0 x9_1) 12 t246 _ A7.out).mono ?_); rintro e w' ⟨rfl, ⟨nd, rfl⟩⟩; refine ⟨_, rfl, ?_⟩) | ((with_reducible refine gate_builtin (b := .append) (xs := #[.tmp 13, .tmp 16]) rfl ?_); at_builtin; refine Kd.R_append (Kd.int .i64) (w0 := w) w.heap.size rfl (.tmp 13) (.tmp 16) 22 3 (.int .i64 0) 8 rfl Try.underlying22 info3 rfl (by decide) (by omega) u3 x3_1 t246 [.int .i64 t246] (fun _ => True) (fun _ => False) rfl rfl ?aP (fun _ hk => hk.elim) ?aF ?aO ?aB ?aS ?aL ?_; (case aP => exact rfl); (case aB => exact (q5_4)); (case aF => exact (fun _ _ => trivial)); (case aO => exact (ra q2.out)); (case aS => exact (below_size (q5_4))); (case aL => have := LMc8.out; omega); intro v248 w9 ho hb hg hat; rw [← Ny247.out] at ho; have n0_ := q0_4 (hb); have n1_ := q0_4 (ho); clear HB; clear q2; have HB := n0_; have qz := n1_; clear n0_ n1_; clear ho hb hg hat))); (go_roundg k1)
           case measure => have := HK1.out; omega
           case rel => exact ⟨(y247), (wrap64 (x9_1 + 1)), (by first | rfl | (simp; done) | (simp [*]; done)), H', ⟨by have := HK1.out; omega⟩, ⟨by refine ra ?_; exact qz.out⟩, ⟨by exact (q5_4)⟩⟩
         · rw [if_neg c8] at H
           exact absurd H (by simp)
       · rw [if_neg c6] at H
         exact absurd H (by simp)
     · rw [if_neg c5] at H
       exact absurd H (by simp)
   · rw [if_neg c4] at H
     (have c4b0 : decide (x9_1 < (l0.length : Int)) = false := decide_eq_false c4); clear c4; replace H := Option.bind_eq_some_iff.mp H; obtain ⟨t250, A100, H⟩ := H; replace H : ((slices_Compact_int_int.f k1 t250).bind fun t251 => (some t251)) = some r := H; have A10 := q0_4 A100; clear A100; replace H := Option.bind_eq_some_iff.mp H; obtain ⟨t251, A110, H⟩ := H; replace H : (some t251) = some r := H; have A11 := q0_4 A110; clear A110; obtain rfl := Option.some.inj H; obtain ⟨qn, qo, eo12⟩ := Kd.R_slice q2.out; subst eo12; (go_wp2_with (first | ((with_reducible refine gate_callee (f := 37) rfl ?_); refine goesL_ (some 20) rfl rfl Try.func37 (by kernel_rfl) rfl #[.slice qn x3_1.length qo] rfl ma ?_; (with_reducible refine (slices_Sort_int_int.calls (fun k_ => some k_ = (.slice qn x3_1.length qo : Value).ownBlock) (.slice qn x3_1.length qo) x3_1 t250 w _ ?side1 ?side2 A10.out).mono ?_); (case side1 => exact (q5_4)); (case side2 => exact Kd.R_tight rfl q2.out); rintro e w13 ⟨rfl, hy0, hb, hkp⟩; refine ⟨_, rfl, ?_⟩; have n0_ := q0_4 (Kd.R_reok rfl hy0 (fun k_ e_ => q2.out.1 k_ e_)); have n1_ := q0_4 (hb); clear q2; clear HB; have q2 := n0_; have HB := n1_; clear n0_ n1_; (try clear hb); (try clear hkp); (try clear hy0)) | ((with_reducible refine gate_callee (f := 38) rfl ?_); refine goesL_ (some 22) rfl rfl Try.func38 (by kernel_rfl) rfl #[.slice qn x3_1.length qo] rfl ma ?_; (with_reducible refine (slices_Compact_int_int.calls k1 (fun k_ => some k_ = (.slice qn x3_1.length qo : Value).ownBlock) (.slice qn x3_1.length qo) t250 t251 w _ ?side1 ?side2 A11.out).mono ?_); (case side1 => exact (q5_4)); (case side2 => exact Kd.R_tight rfl q2.out); rintro e w14 ⟨v252, rfl, ho0, hb, hkp⟩; refine ⟨_, rfl, ?_⟩; have n0_ := q0_4 (Kd.R_mono (ok' := fun k_ => True) ho0 (fun k_ hk_ => trivial)); have n1_ := q0_4 (hb); clear HB; clear q2; have z00 := n0_; have HB := n1_; clear n0_ n1_; (try clear hb); (try clear hkp); (try clear ho0)))); go_ret; (exact ⟨_, by first | rfl | (simp [errW_none, errW_some] <;> rfl) | (simp [*, errW_none, errW_some] <;> rfl), by refine ra ?_; exact z00.out, by exact (q5_4)⟩)
end Go.Proofs.Ytpdhhpgdjbeaeaa.PFnExactKeysFor
