-- Written for this claim by a program of this repository (wip/tools/print2.py), out of the translation; Lean checks it.
import Derived.Test.YtlkfhddckgjlnaaPFnBoundedx0
namespace Go.Proofs.Ytlkfhddckgjlnaa.PFnBounded
open Go.RowKit Go.Proofs.YtlkfhddckgjlnaaW.PrintWords Go.Proofs.YtlkfhddckgjlnaaW.PrintLast Go.Proofs.YtlkfhddckgjlnaaW.PrintMore
attribute [local go_sem] max2_int min2_int max_two min_two max_three min_three max_four min_four   -- for this text's walks alone
set_option linter.unusedVariables false
set_option linter.unusedSimpArgs false
-- SHORT
theorem q7_5 {p : Prop} (f : p := by repeat (first | (with_reducible first | exact HB.out | apply below_alloc | apply pw_below_drewN | apply below_drew1) | exact HB.out)) : p := f
theorem q9_5 {p : Prop} (f : p := by repeat (first | (with_reducible first | exact HB.out | apply below_alloc | apply pw_below_drewN | apply below_drew1 | refine below_set ?_ qb.out) | exact HB.out)) : p := f
theorem q5_5 {p : Prop} (f : p := by repeat (first | (with_reducible first | exact HB.out | apply below_alloc | apply pw_below_drewN | apply below_drew1 | refine below_set ?_ q8.out) | exact HB.out)) : p := f
theorem q0_5 {p : Prop} (h : p) : Aside0 p := ⟨h⟩
/-! ### slices_Index_int_int: function 82 -/
def slices_Index_int_int.l0 : Nat → List Int → Int → Int → Int → Option (Int)
 | 0, _, _, _, _ => none
 | k + 1, x0, x1, x7, x8 => if x8 < x7 then (if 0 ≤ x8 then (if x8 < (x0.length : Int) then (if x1 = (rd x0 x8) then (some x8) else (slices_Index_int_int.l0 k x0 x1 x7 (wrap64 (x8 + 1)))) else (none)) else (none)) else (some (-1))
def slices_Index_int_int.f (k : Nat) (l0 : List Int) (a1 : Int) : Option (Int) := slices_Index_int_int.l0 k l0 a1 (l0.length : Int) 0
theorem slices_Index_int_int.mono_l : ∀ k, (∀ y0 y1 y2 y3, LeO (slices_Index_int_int.l0 k y0 y1 y2 y3) (slices_Index_int_int.l0 (k + 1) y0 y1 y2 y3))
 | 0 => fun _ _ _ _ r h => by simp [slices_Index_int_int.l0] at h
 | k + 1 => by
  have ih0 := slices_Index_int_int.mono_l k
  · intro y0 y1 y2 y3
    unfold slices_Index_int_int.l0
    repeat' first
    | (with_reducible exact ih0 _ _ _ _)
    | (with_reducible exact LeO.refl _)
    | (with_reducible exact LeO.none _)
    | (with_reducible refine LeO.ite ?_ ?_)
    | (with_reducible refine LeO.bind ?_ (fun _ => ?_))
    | exact ih0 _ _ _ _
    | exact LeO.none _
    | refine LeO.ite ?_ ?_
    | refine LeO.bind ?_ (fun _ => ?_)
theorem slices_Index_int_int.mono : ∀ a0 a1 k, LeO (slices_Index_int_int.f k a0 a1) (slices_Index_int_int.f (k + 1) a0 a1) := by
 intro a0 a1 k; have ih0 := slices_Index_int_int.mono_l k; unfold slices_Index_int_int.f
 repeat' first
  | (with_reducible exact ih0 _ _ _ _)
  | (with_reducible exact LeO.refl _)
  | (with_reducible exact LeO.none _)
  | (with_reducible refine LeO.ite ?_ ?_)
  | (with_reducible refine LeO.bind ?_ (fun _ => ?_))
  | exact ih0 _ _ _ _
  | exact LeO.none _
  | refine LeO.ite ?_ ?_
  | refine LeO.bind ?_ (fun _ => ?_)
set_option maxHeartbeats 8000000 in
set_option maxRecDepth 100000 in
theorem slices_Index_int_int.calls (k : Nat) (A0 : Option Addr) (c0 : Nat) (l0 : List Int) (a1 : Int) (r : Int) (w : World) (hr0 : Kd.C (Kd.int .i64) w A0 l0.length l0) (hc0 : l0.length ≤ c0) (h : slices_Index_int_int.f k l0 a1 = some r) :
 Calls Try.prog 82 #[.slice A0 l0.length c0, .int .i64 a1] w fun e w' => e = .returned (.int .i64 r) ∧ Drawn0 w w' := by
 have HR0 := q0_5 hr0; have HC0 := q0_5 hc0; clear hr0 hc0; (have H : (slices_Index_int_int.l0 k l0 a1 (l0.length : Int) 0) = some r := h); clear h; (have H' := q0_5 H); clear H; go_enter Try.func82, Try.ntmps82; (go_wp2); (go_loopg [8] k (fun kq v8 w' => ∃ (x8_1 : Int), v8 = .int .i64 x8_1 ∧ Aside0 (slices_Index_int_int.l0 kq l0 a1 (l0.length : Int) x8_1 = some r) ∧ Aside0 (kq ≤ k) ∧ Drawn0 w w'))
 case atStart => exact ⟨(0), (by first | rfl | (simp; done) | (simp [*]; done)), H', ⟨Nat.le_refl _⟩, by repeat (first | exact Drawn0.refl _ | apply Drawn0.step)⟩
 case round =>
  clear H'; (try clear p2); obtain ⟨x8_1, rfl, HA, HK1, ⟨m1, rfl⟩⟩ := hrel
  cases gk with
  | zero => exact absurd HA.out (by simp [slices_Index_int_int.l0])
  | succ k1 =>
   have H := HA.out; clear HA; (simp only [slices_Index_int_int.l0] at H)
   by_cases c3 : x8_1 < (l0.length : Int)
   · rw [if_pos c3] at H
     (have c3b0 : decide (x8_1 < (l0.length : Int)) = true := decide_eq_true c3); clear c3
     by_cases c4 : 0 ≤ x8_1
     · rw [if_pos c4] at H
       (have c4b0 : decide (0 ≤ x8_1) = true := decide_eq_true c4); clear c4
       by_cases c5 : x8_1 < (l0.length : Int)
       · rw [if_pos c5] at H
         (have c5b0 : decide (x8_1 < (l0.length : Int)) = true := decide_eq_true c5); clear c5
         by_cases c6 : a1 = (rd l0 x8_1)
         · rw [if_pos c6] at H
           (have c6b0 : (a1 == (rd l0 x8_1)) = true := beq_iff_eq.mpr c6); (have c6b1 : (a1 != (rd l0 x8_1)) = false := bne_eq_false_iff_eq.mpr c6); clear c6; obtain rfl := Option.some.inj H; (have p241 : 0 ≤ (x8_1 : Int) := of_decide_eq_true (by first | (with_reducible assumption) | assumption)); (have q241 : x8_1 < (l0.length : Int) := of_decide_eq_true (by first | (with_reducible assumption) | assumption)); obtain ⟨ad241, e241, hx241_0⟩ := Kd.at_int HR0.out x8_1 p241 q241
           cases e241
           replace p241 := eq_true p241; replace q241 := eq_true q241; (go_wp2); go_ret; exact ⟨by first | rfl | (simp; done) | (simp [*]; done), by repeat (first | exact Drawn0.refl _ | apply Drawn0.step)⟩
         · rw [if_neg c6] at H
           (have c6b0 : (a1 == (rd l0 x8_1)) = false := beq_eq_false_iff_ne.mpr c6); (have c6b1 : (a1 != (rd l0 x8_1)) = true := bne_iff_ne.mpr c6); (have H' := q0_5 H); clear H; (have p241 : 0 ≤ (x8_1 : Int) := of_decide_eq_true (by first | (with_reducible assumption) | assumption)); (have q241 : x8_1 < (l0.length : Int) := of_decide_eq_true (by first | (with_reducible assumption) | assumption)); obtain ⟨ad241, e241, hx241_0⟩ := Kd.at_int HR0.out x8_1 p241 q241
           cases e241
           replace p241 := eq_true p241; replace q241 := eq_true q241; (go_wp2); (go_roundg k1)
           case measure => have := HK1.out; omega
           case rel => exact ⟨(wrap64 (x8_1 + 1)), (by first | rfl | (simp; done) | (simp [*]; done)), H', ⟨by have := HK1.out; omega⟩, by repeat (first | exact Drawn0.refl _ | apply Drawn0.step)⟩
       · rw [if_neg c5] at H
         exact absurd H (by simp)
     · rw [if_neg c4] at H
       exact absurd H (by simp)
   · rw [if_neg c3] at H
     (have c3b0 : decide (x8_1 < (l0.length : Int)) = false := decide_eq_false c3); clear c3; obtain rfl := Option.some.inj H; (go_wp2); go_ret; exact ⟨by first | rfl | (simp; done) | (simp [*]; done), by repeat (first | exact Drawn0.refl _ | apply Drawn0.step)⟩
/-! ### slices_Min_int_int: function 83 -/
def slices_Min_int_int.l0 : Nat → List Int → Int → Int → Option (Int)
 | 0, _, _, _ => none
 | k + 1, x0, x3, x4 => if x4 < (x0.length : Int) then (if 0 ≤ x4 then (slices_Min_int_int.l0 k x0 (mn x3 (rd x0 x4)) (wrap64 (x4 + 1))) else (none)) else (some x3)
def slices_Min_int_int.f (k : Nat) (l0 : List Int) : Option (Int) := if (l0.length : Int) < 1 then (none) else (if 0 < (l0.length : Int) then (slices_Min_int_int.l0 k l0 (rd l0 0) 1) else (none))
theorem slices_Min_int_int.mono_l : ∀ k, (∀ y0 y1 y2, LeO (slices_Min_int_int.l0 k y0 y1 y2) (slices_Min_int_int.l0 (k + 1) y0 y1 y2))
 | 0 => fun _ _ _ r h => by simp [slices_Min_int_int.l0] at h
 | k + 1 => by
  have ih0 := slices_Min_int_int.mono_l k
  · intro y0 y1 y2
    unfold slices_Min_int_int.l0
    repeat' first
    | (with_reducible exact ih0 _ _ _)
    | (with_reducible exact LeO.refl _)
    | (with_reducible exact LeO.none _)
    | (with_reducible refine LeO.ite ?_ ?_)
    | (with_reducible refine LeO.bind ?_ (fun _ => ?_))
    | exact ih0 _ _ _
    | exact LeO.none _
    | refine LeO.ite ?_ ?_
    | refine LeO.bind ?_ (fun _ => ?_)
theorem slices_Min_int_int.mono : ∀ a0 k, LeO (slices_Min_int_int.f k a0) (slices_Min_int_int.f (k + 1) a0) := by
 intro a0 k; have ih0 := slices_Min_int_int.mono_l k; unfold slices_Min_int_int.f
 repeat' first
  | (with_reducible exact ih0 _ _ _)
  | (with_reducible exact LeO.refl _)
  | (with_reducible exact LeO.none _)
  | (with_reducible refine LeO.ite ?_ ?_)
  | (with_reducible refine LeO.bind ?_ (fun _ => ?_))
  | exact ih0 _ _ _
  | exact LeO.none _
  | refine LeO.ite ?_ ?_
  | refine LeO.bind ?_ (fun _ => ?_)
set_option maxHeartbeats 8000000 in
set_option maxRecDepth 100000 in
theorem slices_Min_int_int.calls (k : Nat) (A0 : Option Addr) (c0 : Nat) (l0 : List Int) (r : Int) (w : World) (hr0 : Kd.C (Kd.int .i64) w A0 l0.length l0) (hc0 : l0.length ≤ c0) (h : slices_Min_int_int.f k l0 = some r) :
 Calls Try.prog 83 #[.slice A0 l0.length c0] w fun e w' => e = .returned (.int .i64 r) ∧ Below w.heap.size w w' := by
 have HR0 := q0_5 hr0; have HC0 := q0_5 hc0; clear hr0 hc0; have HB := q0_5 (Below.refl w.heap.size w); (have H : (if (l0.length : Int) < 1 then (none) else (if 0 < (l0.length : Int) then (slices_Min_int_int.l0 k l0 (rd l0 0) 1) else (none))) = some r := h); clear h
 by_cases c2 : (l0.length : Int) < 1
 · rw [if_pos c2] at H
   exact absurd H (by simp)
 · rw [if_neg c2] at H
   (have c2b0 : decide ((l0.length : Int) < 1) = false := decide_eq_false c2); (have c2b1 : decide (l0.length < 1) = false := decide_eq_false (by omega)); clear c2
   by_cases c3 : 0 < (l0.length : Int)
   · rw [if_pos c3] at H
     (have c3b0 : decide (0 < (l0.length : Int)) = true := decide_eq_true c3); (have c3b1 : decide (0 < l0.length) = true := decide_eq_true (by omega)); clear c3; (have H' := q0_5 H); clear H; (have p242 : 0 ≤ (0 : Int) := (by omega)); (have q242 : 0 < (l0.length : Int) := of_decide_eq_true (by first | (with_reducible assumption) | assumption)); obtain ⟨ad242, e242, hx242_0⟩ := Kd.at_int HR0.out 0 p242 q242
     cases e242
     (have qi242 : (0 < l0.length) = True := eq_true (by omega)); ((try rw [show ((0 : Int)).toNat = 0 from rfl] at hx242_0)); ((try rw [Addr.add_zero'] at hx242_0)); replace p242 := eq_true p242; replace q242 := eq_true q242; go_enter Try.func83, Try.ntmps83; (go_wp2); (go_loopg [3, 4] k (fun kq v3 v4 w' => ∃ (x3_1 : Int) (x4_1 : Int), v3 = .int .i64 x3_1 ∧ v4 = .int .i64 x4_1 ∧ Aside0 (slices_Min_int_int.l0 kq l0 x3_1 x4_1 = some r) ∧ Aside0 (kq ≤ k) ∧ Aside0 (Below w.heap.size w w')))
     case atStart => exact ⟨(rd l0 0), (1), (by first | rfl | (simp; done) | (simp [*]; done)), (by first | rfl | (simp; done) | (simp [*]; done)), H', ⟨Nat.le_refl _⟩, ⟨by exact (q7_5)⟩⟩
     case round =>
      clear H'; (try clear c2); (try clear c2b0); (try clear c2b1); (try clear p2); (try clear q2); (try clear hx2); (try clear qi2); (try clear c3); (try clear c3b0); (try clear c3b1); (try clear hx242_0); (try clear p242); (try clear q242); obtain ⟨x3_1, x4_1, rfl, rfl, HA, HK1, HB⟩ := hrel
      cases gk with
      | zero => exact absurd HA.out (by simp [slices_Min_int_int.l0])
      | succ k1 =>
       have H := HA.out; clear HA; (simp only [slices_Min_int_int.l0] at H)
       by_cases c4 : x4_1 < (l0.length : Int)
       · rw [if_pos c4] at H
         (have c4b0 : decide (x4_1 < (l0.length : Int)) = true := decide_eq_true c4); clear c4
         by_cases c5 : 0 ≤ x4_1
         · rw [if_pos c5] at H
           (have c5b0 : decide (0 ≤ x4_1) = true := decide_eq_true c5); clear c5; obtain ⟨ji6, hji6⟩ : ∃ j_ : Int, (mn x3_1 (rd l0 x4_1)) = j_ := ⟨_, rfl⟩; (replace H : (slices_Min_int_int.l0 k1 l0 ji6 (wrap64 (x4_1 + 1))) = some r := by first | (rw [hji6] at H; exact H) | (simp only [hji6] at H ⊢; exact H)); (have hji6_ : (if (rd l0 x4_1) < x3_1 then (rd l0 x4_1) else x3_1) = ji6 := hji6); (have H' := q0_5 H); clear H; (have p243 : 0 ≤ (x4_1 : Int) := of_decide_eq_true (by first | (with_reducible assumption) | assumption)); (have q243 : x4_1 < (l0.length : Int) := of_decide_eq_true (by first | (with_reducible assumption) | assumption)); obtain ⟨ad243, e243, hx243_0⟩ := Kd.at_int HR0.out x4_1 p243 q243; obtain rfl : ad242 = ad243 := (by injection e243); replace hx243_0 := (HB.out.cell (World.block_lt_of_cell? w _ hx243_0)).trans hx243_0; replace p243 := eq_true p243; replace q243 := eq_true q243; (go_wp2); (go_roundg k1)
           case measure => have := HK1.out; omega
           case rel => exact ⟨(ji6), (wrap64 (x4_1 + 1)), (by first | rfl | (simp; done) | (simp only [← hji6] <;> (first | rfl | simp)) | (simp [*]; done)), (by first | rfl | (simp; done) | (simp [*]; done)), (by first | exact H' | (have H2_ := H'; (try simp only [← hji6] at H2_); (try simp only [← hji6]); exact H2_)), ⟨by have := HK1.out; omega⟩, ⟨by exact (q7_5)⟩⟩
         · rw [if_neg c5] at H
           exact absurd H (by simp)
       · rw [if_neg c4] at H
         (have c4b0 : decide (x4_1 < (l0.length : Int)) = false := decide_eq_false c4); clear c4; obtain rfl := Option.some.inj H; (go_wp2); go_ret; (exact ⟨by first | rfl | (simp [errW_none, errW_some] <;> rfl) | (simp [*, errW_none, errW_some] <;> rfl), by exact (q7_5)⟩)
   · rw [if_neg c3] at H
     exact absurd H (by simp)
/-! ### impl_PositionOf: function 51 -/
def impl_PositionOf.f (k : Nat) (l0_0 : List Int) (a0_1 : Int) : Option (Int) := if (l0_0.length : Int) = 0 then (some 0) else ((slices_Min_int_int.f k l0_0).bind fun t245 => ((slices_Index_int_int.f k l0_0 t245).bind fun t246 => (some t246)))
theorem impl_PositionOf.mono : ∀ a0 a1 k, LeO (impl_PositionOf.f k a0 a1) (impl_PositionOf.f (k + 1) a0 a1) := by
 intro a0 a1 k; unfold impl_PositionOf.f
 repeat' first
  | (with_reducible exact slices_Index_int_int.mono _ _ _)
  | (with_reducible exact slices_Min_int_int.mono _ _)
  | (with_reducible exact LeO.refl _)
  | (with_reducible exact LeO.none _)
  | (with_reducible refine LeO.ite ?_ ?_)
  | (with_reducible refine LeO.bind ?_ (fun _ => ?_))
  | exact slices_Index_int_int.mono _ _ _
  | exact slices_Min_int_int.mono _ _
  | exact LeO.none _
  | refine LeO.ite ?_ ?_
  | refine LeO.bind ?_ (fun _ => ?_)
set_option maxHeartbeats 8000000 in
set_option maxRecDepth 100000 in
theorem impl_PositionOf.calls (k : Nat) (A0_0 : Option Addr) (c0_0 : Nat) (l0_0 : List Int) (a0_1 : Int) (r : Int) (w : World) (hr0_0 : Kd.C (Kd.int .i64) w A0_0 l0_0.length l0_0) (hc0_0 : l0_0.length ≤ c0_0) (h : impl_PositionOf.f k l0_0 a0_1 = some r) :
 Calls Try.prog 51 #[.agg #[.slice A0_0 l0_0.length c0_0, .int .i64 a0_1]] w fun e w' => e = .returned (.int .i64 r) ∧ Below w.heap.size w w' := by
 have hu46 := Try.underlying46; have HR0_0 := q0_5 hr0_0; have HC0_0 := q0_5 hc0_0; clear hr0_0 hc0_0; have HB := q0_5 (Below.refl w.heap.size w); (have H : (if (l0_0.length : Int) = 0 then (some 0) else ((slices_Min_int_int.f k l0_0).bind fun t245 => ((slices_Index_int_int.f k l0_0 t245).bind fun t246 => (some t246)))) = some r := h); clear h
 by_cases c2 : (l0_0.length : Int) = 0
 · rw [if_pos c2] at H
   (have c2b0 : ((l0_0.length : Int) == 0) = true := beq_iff_eq.mpr c2); (have c2b1 : ((l0_0.length : Int) != 0) = false := bne_eq_false_iff_eq.mpr c2); clear c2; obtain rfl := Option.some.inj H; go_enter Try.func51, Try.ntmps51; (go_wp2_with (first | ((with_reducible refine gate_dst (N := 1) rfl ?_); refine box_event ?hg (N := 1) ?hd (cs := #[.slice A0_0 l0_0.length c0_0, .int .i64 a0_1]) (t := 46) ?hr ?_; (case hd => rfl); (case hg => rfl); (case hr => first | (go_simp; done) | (go_simp; rfl)); intro q6 hg w3 hbox hb; have n0_ := q0_5 (below_step (q7_5) hb); have n1_ := q0_5 (hbox); have n2_ := q0_5 ((by rw [hg]; exact (below_size (q7_5)) : w.heap.size ≤ q6)); have n3_ := q0_5 ((by rw [hg]; exact (below_size (q7_5)) : w.heap.size ≤ q6)); clear HB; have HB := n0_; have q4 := n1_; have GW244 := n2_; have qb := n3_; clear n0_ n1_ n2_ n3_; clear hb hbox hg; have hcz4_0 : w3.cell? ⟨q6, 0, none⟩ = some (.slice A0_0 l0_0.length c0_0) := (blk_cell q4.out 0).trans rfl; have hcz4_1 : w3.cell? ⟨q6, 1, none⟩ = some (.int .i64 a0_1) := (blk_cell q4.out 1).trans rfl; have hfz4_0 := blk_frozen q4.out 0; have hfz4_1 := blk_frozen q4.out 1))); go_ret; (exact ⟨by first | rfl | (simp [errW_none, errW_some] <;> rfl) | (simp [*, errW_none, errW_some] <;> rfl), by exact (q9_5)⟩)
 · rw [if_neg c2] at H
   (have c2b0 : ((l0_0.length : Int) == 0) = false := beq_eq_false_iff_ne.mpr c2); (have c2b1 : ((l0_0.length : Int) != 0) = true := bne_iff_ne.mpr c2); (have c2b2 : ¬ (l0_0 = []) := fun h_ => c2 (by rw [h_]; rfl)); replace H := Option.bind_eq_some_iff.mp H; obtain ⟨t245, A50, H⟩ := H; replace H : ((slices_Index_int_int.f k l0_0 t245).bind fun t246 => (some t246)) = some r := H; have A5 := q0_5 A50; clear A50; replace H := Option.bind_eq_some_iff.mp H; obtain ⟨t246, A60, H⟩ := H; replace H : (some t246) = some r := H; have A6 := q0_5 A60; clear A60; obtain rfl := Option.some.inj H; go_enter Try.func51, Try.ntmps51; (try go_wp2_with (first | ((with_reducible refine gate_dst (N := 1) rfl ?_); refine box_event ?hg (N := 1) ?hd (cs := #[.slice A0_0 l0_0.length c0_0, .int .i64 a0_1]) (t := 46) ?hr ?_; (case hd => rfl); (case hg => rfl); (case hr => first | (go_simp; done) | (go_simp; rfl)); intro q6 hg w7 hbox hb; have n0_ := q0_5 (below_step (q7_5) hb); have n1_ := q0_5 (hbox); have n2_ := q0_5 ((by rw [hg]; exact (below_size (q7_5)) : w.heap.size ≤ q6)); have n3_ := q0_5 ((by rw [hg]; exact (below_size (q7_5)) : w.heap.size ≤ q6)); clear HB; have HB := n0_; have q4 := n1_; have GW244 := n2_; have qb := n3_; clear n0_ n1_ n2_ n3_; clear hb hbox hg; have hcz8_0 : w7.cell? ⟨q6, 0, none⟩ = some (.slice A0_0 l0_0.length c0_0) := (blk_cell q4.out 0).trans rfl; have hcz8_1 : w7.cell? ⟨q6, 1, none⟩ = some (.int .i64 a0_1) := (blk_cell q4.out 1).trans rfl; have hfz8_0 := blk_frozen q4.out 0; have hfz8_1 := blk_frozen q4.out 1))); have n0_ := q0_5 (blk_drew q4.out); have n1_ := q0_5 (below_drew1 HB.out); clear q4 HB; have q4 := n0_; have HB := n1_; clear n0_ n1_; refine start_ (n := 7) (S := fun w' => w'.cell? ⟨q6, 0, none⟩ = some (.slice A0_0 l0_0.length c0_0) ∧ w'.cell? ⟨q6, 1, none⟩ = some (.int .i64 a0_1)) (ds := []) (bq 0 7) (by kernel_rfl) rfl rfl ⟨(blk_cell q4.out 0).trans rfl, (blk_cell q4.out 1).trans rfl⟩ (fun hHeld => ?_); generalize w7.drew = w9 at q4 HB hHeld ⊢; refine pure_ (i := 0) (N := some 7) (v := ?_) (a' := ?_) (bq 1 7) rfl rfl (by kernel_rfl) (fun _ _ _ h => h) (Or.inl ⟨by rfl, ?_⟩) ?_ ?_; rotate_left; (intro w'; go_simp; with_reducible rfl); rotate_left; (exact pb); refine pure_ (i := 2) (N := some 9) (v := ?_) (a' := ?_) (bq 5 7) rfl rfl (by kernel_rfl) (fun _ _ _ h => h) (Or.inl ⟨by rfl, ?_⟩) ?_ ?_; rotate_left; (intro w'; go_simp; with_reducible rfl); rotate_left; (exact pb); refine take_ (i := 1) (N := some 8) (v := ?_) (a' := ?_) (bq 7 7) rfl rfl (by kernel_rfl) (fun _ _ _ h => h) (Or.inl ⟨by rfl, ?_⟩) hHeld ?_ ?_; rotate_left; (rintro w' ⟨s0, s1⟩; go_simp; with_reducible rfl); rotate_left; (exact pb); refine take_ (i := 3) (N := some 10) (v := ?_) (a' := ?_) (bq 15 7) rfl rfl (by kernel_rfl) (fun _ _ _ h => h) (Or.inl ⟨by rfl, ?_⟩) hHeld ?_ ?_; rotate_left; (rintro w' ⟨s0, s1⟩; go_simp; with_reducible rfl); rotate_left; (exact pb)
   refine one_ (i := 4) (N := some 11) (bq 31 7) rfl rfl (by kernel_rfl) (by decide) (fun K hK => ?_); refine goes_ Try.func83 (by kernel_rfl) rfl #[.slice A0_0 l0_0.length c0_0] (by rfl) rfl rfl ma ?_; (with_reducible refine (slices_Min_int_int.calls k _ _ l0_0 t245 _ ?side1 ?side2 A5.out).mono ?_); ((case side1 => exact ca (Kd.C_below HR0_0.out HB.out))); ((case side2 => exact HC0_0.out)); rintro e w10 ⟨rfl, hb⟩; refine ⟨_, rfl, ?_⟩; have n0_ := q0_5 (bb q4.out hb); have n1_ := q0_5 (below_step (q9_5) hb); clear q4 HB; have q4 := n0_; have HB := n1_; clear n0_ n1_; ((try clear hb)); ((try clear hb2)); ((try clear hk)); ((try clear hi)); refine hK.out _ _ ⟨(blk_cell q4.out 0).trans rfl, (blk_cell q4.out 1).trans rfl⟩ (fun hHeld => ?_); clear hK K; refine norm_ (a' := ?_) ?_ ?_; rotate_left; ((show Act.put _ (some 11) _ = _); simp only [Act.put, List.setIfInBounds_toArray, List.set_cons_zero, List.set_cons_succ, i64_w, i32_w]; rfl); refine one_ (i := 5) (N := some 12) (bq 63 7) rfl rfl (by kernel_rfl) (by decide) (fun K hK => ?_); refine goes_ Try.func82 (by kernel_rfl) rfl #[.slice A0_0 l0_0.length c0_0, .int .i64 t245] (by rfl) rfl rfl ma ?_; (with_reducible refine (slices_Index_int_int.calls k _ _ l0_0 t245 t246 _ ?side1 ?side2 A6.out).mono ?_); ((case side1 => exact ca (Kd.C_below HR0_0.out HB.out))); ((case side2 => exact HC0_0.out)); rintro e w' ⟨rfl, ⟨nd, rfl⟩⟩; refine ⟨_, rfl, ?_⟩; refine hK.out _ _ ⟨(blk_cell q4.out 0).trans rfl, (blk_cell q4.out 1).trans rfl⟩ (fun hHeld => ?_); clear hK K; refine norm_ (a' := ?_) ?_ ?_; rotate_left; ((show Act.put _ (some 12) _ = _); simp only [Act.put, List.setIfInBounds_toArray, List.set_cons_zero, List.set_cons_succ, i64_w, i32_w]; rfl); refine pure_ (i := 6) (N := some 2) (v := ?_) (a' := ?_) (bq 127 7) rfl rfl (by kernel_rfl) (fun _ _ _ h => h) (Or.inl ⟨by rfl, ?_⟩) ?_ ?_; rotate_left; (intro w'; go_simp; with_reducible rfl); rotate_left; (exact pb); refine done_ (by kernel_rfl) ?_; (try go_wp2); go_ret; (exact ⟨by first | rfl | (simp [errW_none, errW_some] <;> rfl) | (simp [*, errW_none, errW_some] <;> rfl), by exact (q9_5)⟩)
/-! ### impl_InRange: function 36 -/
def impl_InRange.f (a0 : Int) (a1 : Int) (a2 : Int) : Option (Bool) := if a1 ≤ a0 then (some (decide (a0 ≤ a2))) else (some false)
set_option maxHeartbeats 8000000 in
set_option maxRecDepth 100000 in
theorem impl_InRange.calls (a0 : Int) (a1 : Int) (a2 : Int) (r : Bool) (w : World) (h : impl_InRange.f a0 a1 a2 = some r) :
 Calls Try.prog 36 #[.int .i64 a0, .int .i64 a1, .int .i64 a2] w fun e w' => e = .returned (.bool r) ∧ Drawn0 w w' := by
 (have H : (if a1 ≤ a0 then (some (decide (a0 ≤ a2))) else (some false)) = some r := h); clear h
 by_cases c4 : a1 ≤ a0
 · rw [if_pos c4] at H
   (have c4b0 : decide (a1 ≤ a0) = true := decide_eq_true c4); clear c4; obtain rfl := Option.some.inj H; go_enter Try.func36, Try.ntmps36; (go_wp2); go_ret; exact ⟨by first | rfl | (simp; done) | (simp [*]; done), by repeat (first | exact Drawn0.refl _ | apply Drawn0.step)⟩
 · rw [if_neg c4] at H
   (have c4b0 : decide (a1 ≤ a0) = false := decide_eq_false c4); clear c4; obtain rfl := Option.some.inj H; go_enter Try.func36, Try.ntmps36; (go_wp2); go_ret; exact ⟨by first | rfl | (simp; done) | (simp [*]; done), by repeat (first | exact Drawn0.refl _ | apply Drawn0.step)⟩
/-! ### slices_ContainsFunc_int_int: function 86 -/
def inFar (c : Int) : Bool := decide (0 ≤ c ∧ c ≤ 500)
def slices_ContainsFunc_int_int.f (l0 : List Int) : Option Bool := some (l0.any fun c => !inFar c)
theorem inFar_eq (c : Int) : impl_InRange.f c 0 500 = some (inFar c) := by
 unfold impl_InRange.f inFar
 by_cases h1 : 0 ≤ c <;> by_cases h2 : c ≤ 500 <;> simp [h1, h2]
set_option maxHeartbeats 8000000 in
theorem window_1_gives (W : World) (x : Int) : FnGives Try.prog 87 #[] #[.int .i64 x] (.bool (!inFar x)) W := by
 show Calls Try.prog 87 #[.int .i64 x] W _
 have hc := fun w => impl_InRange.calls x 0 500 (inFar x) w (inFar_eq x)
 generalize inFar x = b at hc ⊢; go_enter Try.func87, Try.ntmps87
 cases b <;> (go_wp2_with (go_at_call 36; refine (hc _).mono ?_; rintro e w' ⟨rfl, q, rfl⟩); go_ret; exact ⟨rfl, q, rfl⟩)
theorem slices_ContainsFunc_int_int.calls (A0 : Option Addr) (c0 : Nat) (l0 : List Int) (r : Bool) (w : World) (hr0 : Kd.C (Kd.int .i64) w A0 l0.length l0) (hc0 : l0.length ≤ c0) (h : slices_ContainsFunc_int_int.f l0 = some r) :
 Calls Try.prog 86 #[.slice A0 l0.length c0, .func (.func 87) #[] #[]] w fun e w' => e = .returned (.bool r) ∧ Drawn0 w w' := by
 obtain rfl := Option.some.inj h; (have eg : ∀ args w, (callFunc 87 args).run Try.prog w = .ok (.enter 87 args) w := enters_of Try.func87 (by kernel_rfl) rfl)
 by_cases h0 : l0.length = 0
 · obtain rfl := List.length_eq_zero_iff.1 h0
   refine (AnyE.slices_ContainsFunc_empty Lay.layContainsFunc A0 c0 (.func (.func 87) #[] #[]) w).mono ?_; rintro e w' ⟨rfl, rfl⟩; exact ⟨rfl, Drawn0.refl _⟩
 · obtain ⟨ad, rfl, hcell⟩ := hr0.2.2 (by omega)
   have hs : ad.spot = none := by
    obtain ⟨c, hl, rfl, hu⟩ := hcell 0 l0[0] (List.getElem?_eq_getElem (by omega)); have h1 := hu 0 _ rfl; (simp only [Nat.zero_mul, Nat.zero_add, Addr.add, if_true] at h1); unfold World.cell? at h1; (split at h1)
    · cases hsp : ad.spot with
      | none => rfl
      | some x => rw [hsp] at h1; simp at h1
    · cases h1
   obtain ⟨b, off, g⟩ := ad; (dsimp only at hs); subst hs; refine (AnyE.slices_ContainsFunc Lay.layContainsFunc (Value.int .i64) (fun c => !inFar c) 87 #[] eg b off l0.length c0 l0 w (fun W x _ => window_1_gives W x) (Nat.le_refl _) hr0.2.1 (fun j hj => ?_)).mono ?_
   · obtain ⟨c, hl, rfl, hu⟩ := hcell j l0[j] (List.getElem?_eq_getElem hj)
     have h1 := hu 0 _ rfl; rw [show j * (Kd.int .i64).sz + 0 = j from by show j * 1 + 0 = j; omega] at h1; rw [getElem!_pos l0 j hj, ← h1]; (congr 1); unfold Addr.add
     by_cases hj0 : j = 0
     · subst hj0; simp
     · rw [if_neg hj0]
   · rintro e w' ⟨rfl, q, rfl⟩
     rw [List.take_length]; exact ⟨rfl, ⟨⟨q, rfl⟩⟩⟩
/-! ### impl_window: function 55 -/
def impl_window.f (k : Nat) (l0 : List Int) (l1_0 : List Int) (a1_1 : Int) (a2 : Int) : Option (Int × Int × Bool) := (slices_ContainsFunc_int_int.f l1_0).bind fun t248 => (if t248 = true then (some (0, 0, false)) else (if (l0.length : Int) > 40 then (some (0, 0, false)) else (if (l1_0.length : Int) = (wrap64 ((l0.length : Int) + 1)) then ((impl_InRange.f a1_1 0 500).bind fun t249 => (if t249 = true then ((impl_InRange.f a2 1 40).bind fun t250 => (if t250 = true then ((impl_PositionOf.f k l1_0 a1_1).bind fun t251 => (some (mx (wrap64 (t251 - a2)) 0, mn (wrap64 (t251 + a2)) (l0.length : Int), true))) else (some (0, 0, false)))) else (some (0, 0, false)))) else (some (0, 0, false)))))
theorem impl_window.mono : ∀ a0 a1 a2 a3 k, LeO (impl_window.f k a0 a1 a2 a3) (impl_window.f (k + 1) a0 a1 a2 a3) := by
 intro a0 a1 a2 a3 k; unfold impl_window.f
 repeat' first
  | (with_reducible exact impl_PositionOf.mono _ _ _)
  | (with_reducible exact LeO.refl _)
  | (with_reducible exact LeO.none _)
  | (with_reducible refine LeO.ite ?_ ?_)
  | (with_reducible refine LeO.bind ?_ (fun _ => ?_))
  | exact impl_PositionOf.mono _ _ _
  | exact LeO.none _
  | refine LeO.ite ?_ ?_
  | refine LeO.bind ?_ (fun _ => ?_)
set_option maxHeartbeats 8000000 in
set_option maxRecDepth 100000 in
theorem impl_window.calls (k : Nat) (A0 : Option Addr) (c0 : Nat) (l0 : List Int) (A1_0 : Option Addr) (c1_0 : Nat) (l1_0 : List Int) (a1_1 : Int) (a2 : Int) (r1 : Int) (r2 : Int) (r3 : Bool) (w : World) (hr0 : Kd.C (Kd.int .i64) w A0 l0.length l0) (hc0 : l0.length ≤ c0) (hr1_0 : Kd.C (Kd.int .i64) w A1_0 l1_0.length l1_0) (hc1_0 : l1_0.length ≤ c1_0) (h : impl_window.f k l0 l1_0 a1_1 a2 = some (r1, r2, r3)) :
 Calls Try.prog 55 #[.slice A0 l0.length c0, .agg #[.slice A1_0 l1_0.length c1_0, .int .i64 a1_1], .int .i64 a2] w fun e w' => e = .returned (.tuple #[.int .i64 r1, .int .i64 r2, .bool r3]) ∧ Below w.heap.size w w' := by
 have hu46 := Try.underlying46; have HR0 := q0_5 hr0; have HC0 := q0_5 hc0; clear hr0 hc0; have HR1_0 := q0_5 hr1_0; have HC1_0 := q0_5 hc1_0; clear hr1_0 hc1_0; have HB := q0_5 (Below.refl w.heap.size w); (have H : ((slices_ContainsFunc_int_int.f l1_0).bind fun t248 => (if t248 = true then (some (0, 0, false)) else (if (l0.length : Int) > 40 then (some (0, 0, false)) else (if (l1_0.length : Int) = (wrap64 ((l0.length : Int) + 1)) then ((impl_InRange.f a1_1 0 500).bind fun t249 => (if t249 = true then ((impl_InRange.f a2 1 40).bind fun t250 => (if t250 = true then ((impl_PositionOf.f k l1_0 a1_1).bind fun t251 => (some (mx (wrap64 (t251 - a2)) 0, mn (wrap64 (t251 + a2)) (l0.length : Int), true))) else (some (0, 0, false)))) else (some (0, 0, false)))) else (some (0, 0, false)))))) = some (r1, r2, r3) := h); clear h; replace H := Option.bind_eq_some_iff.mp H; obtain ⟨t248, A40, H⟩ := H; replace H : (if t248 = true then (some (0, 0, false)) else (if (l0.length : Int) > 40 then (some (0, 0, false)) else (if (l1_0.length : Int) = (wrap64 ((l0.length : Int) + 1)) then ((impl_InRange.f a1_1 0 500).bind fun t249 => (if t249 = true then ((impl_InRange.f a2 1 40).bind fun t250 => (if t250 = true then ((impl_PositionOf.f k l1_0 a1_1).bind fun t251 => (some (mx (wrap64 (t251 - a2)) 0, mn (wrap64 (t251 + a2)) (l0.length : Int), true))) else (some (0, 0, false)))) else (some (0, 0, false)))) else (some (0, 0, false))))) = some (r1, r2, r3) := H; have A4 := q0_5 A40; clear A40
 by_cases c5 : t248 = true
 · subst c5
   have H1 : (some (0, 0, false)) = some (r1, r2, r3) := by rw [if_pos rfl] at H; exact H
   clear H; have H := H1; clear H1; (simp only [Option.some.injEq, Prod.mk.injEq] at H); obtain ⟨rfl, rfl, rfl⟩ := H; go_enter Try.func55, Try.ntmps55; (go_wp2_with (first | ((with_reducible refine gate_dst (N := 4) rfl ?_); (try (refine gate_guard (by rfl) ?_; dsimp only)); refine box_event ?hg (N := 4) ?hd (cs := #[.slice A1_0 l1_0.length c1_0, .int .i64 a1_1]) (t := 46) ?hr ?_; (case hd => rfl); (case hg => rfl); (case hr => first | (go_simp; done) | (go_simp; rfl)); intro q3 hg w6 hbox hb; have n0_ := q0_5 (below_step (q7_5) hb); have n1_ := q0_5 (hbox); have n2_ := q0_5 ((by rw [hg]; exact (below_size (q7_5)) : w.heap.size ≤ q3)); have n3_ := q0_5 ((by rw [hg]; exact (below_size (q7_5)) : w.heap.size ≤ q3)); clear HB; have HB := n0_; have q1 := n1_; have GW247 := n2_; have q8 := n3_; clear n0_ n1_ n2_ n3_; clear hb hbox hg; have hcz7_0 : w6.cell? ⟨q3, 0, none⟩ = some (.slice A1_0 l1_0.length c1_0) := (blk_cell q1.out 0).trans rfl; have hcz7_1 : w6.cell? ⟨q3, 1, none⟩ = some (.int .i64 a1_1) := (blk_cell q1.out 1).trans rfl; have hfz7_0 := blk_frozen q1.out 0; have hfz7_1 := blk_frozen q1.out 1) | ((with_reducible refine gate_callee (f := 86) rfl ?_); refine goesL_ (some 13) rfl rfl Try.func86 (by kernel_rfl) rfl #[.slice A1_0 l1_0.length c1_0, .func (.func 87) #[] #[]] rfl ma ?_; (with_reducible refine (slices_ContainsFunc_int_int.calls _ _ l1_0 true _ ?side1 ?side2 A4.out).mono ?_); (case side1 => exact ca (Kd.C_below HR1_0.out HB.out)); (case side2 => exact HC1_0.out); rintro e w' ⟨rfl, ⟨nd, rfl⟩⟩; refine ⟨_, rfl, ?_⟩))); (go_ret3); (exact ⟨by first | rfl | (simp [errW_none, errW_some] <;> rfl) | (simp [*, errW_none, errW_some] <;> rfl), by exact (q5_5)⟩)
 · replace c5 := Bool.eq_false_iff.mpr c5
   subst c5; (have H1 : (if (l0.length : Int) > 40 then (some (0, 0, false)) else (if (l1_0.length : Int) = (wrap64 ((l0.length : Int) + 1)) then ((impl_InRange.f a1_1 0 500).bind fun t249 => (if t249 = true then ((impl_InRange.f a2 1 40).bind fun t250 => (if t250 = true then ((impl_PositionOf.f k l1_0 a1_1).bind fun t251 => (some (mx (wrap64 (t251 - a2)) 0, mn (wrap64 (t251 + a2)) (l0.length : Int), true))) else (some (0, 0, false)))) else (some (0, 0, false)))) else (some (0, 0, false)))) = some (r1, r2, r3) := by rw [if_neg (show ¬ (false = true) by decide)] at H; exact H); clear H; have H := H1; clear H1
   by_cases c8 : (l0.length : Int) > 40
   · rw [if_pos c8] at H
     (have c8b0 : decide (40 < (l0.length : Int)) = true := decide_eq_true c8); (have c8b1 : decide (40 < l0.length) = true := decide_eq_true (by omega)); clear c8; (simp only [Option.some.injEq, Prod.mk.injEq] at H); obtain ⟨rfl, rfl, rfl⟩ := H; go_enter Try.func55, Try.ntmps55; (go_wp2_with (first | ((with_reducible refine gate_dst (N := 4) rfl ?_); (try (refine gate_guard (by rfl) ?_; dsimp only)); refine box_event ?hg (N := 4) ?hd (cs := #[.slice A1_0 l1_0.length c1_0, .int .i64 a1_1]) (t := 46) ?hr ?_; (case hd => rfl); (case hg => rfl); (case hr => first | (go_simp; done) | (go_simp; rfl)); intro q3 hg w9 hbox hb; have n0_ := q0_5 (below_step (q7_5) hb); have n1_ := q0_5 (hbox); have n2_ := q0_5 ((by rw [hg]; exact (below_size (q7_5)) : w.heap.size ≤ q3)); have n3_ := q0_5 ((by rw [hg]; exact (below_size (q7_5)) : w.heap.size ≤ q3)); clear HB; have HB := n0_; have q1 := n1_; have GW247 := n2_; have q8 := n3_; clear n0_ n1_ n2_ n3_; clear hb hbox hg; have hcz10_0 : w9.cell? ⟨q3, 0, none⟩ = some (.slice A1_0 l1_0.length c1_0) := (blk_cell q1.out 0).trans rfl; have hcz10_1 : w9.cell? ⟨q3, 1, none⟩ = some (.int .i64 a1_1) := (blk_cell q1.out 1).trans rfl; have hfz10_0 := blk_frozen q1.out 0; have hfz10_1 := blk_frozen q1.out 1) | ((with_reducible refine gate_callee (f := 86) rfl ?_); refine goesL_ (some 13) rfl rfl Try.func86 (by kernel_rfl) rfl #[.slice A1_0 l1_0.length c1_0, .func (.func 87) #[] #[]] rfl ma ?_; (with_reducible refine (slices_ContainsFunc_int_int.calls _ _ l1_0 false _ ?side1 ?side2 A4.out).mono ?_); (case side1 => exact ca (Kd.C_below HR1_0.out HB.out)); (case side2 => exact HC1_0.out); rintro e w' ⟨rfl, ⟨nd, rfl⟩⟩; refine ⟨_, rfl, ?_⟩))); (go_ret3); (exact ⟨by first | rfl | (simp [errW_none, errW_some] <;> rfl) | (simp [*, errW_none, errW_some] <;> rfl), by exact (q5_5)⟩)
   · rw [if_neg c8] at H
     (have c8b0 : decide (40 < (l0.length : Int)) = false := decide_eq_false c8); (have c8b1 : decide (40 < l0.length) = false := decide_eq_false (by omega)); clear c8
     by_cases c11 : (l1_0.length : Int) = (wrap64 ((l0.length : Int) + 1))
     · rw [if_pos c11] at H
       (have c11b0 : ((l1_0.length : Int) == (wrap64 ((l0.length : Int) + 1))) = true := beq_iff_eq.mpr c11); (have c11b1 : ((l1_0.length : Int) != (wrap64 ((l0.length : Int) + 1))) = false := bne_eq_false_iff_eq.mpr c11); clear c11; replace H := Option.bind_eq_some_iff.mp H; obtain ⟨t249, A120, H⟩ := H; replace H : (if t249 = true then ((impl_InRange.f a2 1 40).bind fun t250 => (if t250 = true then ((impl_PositionOf.f k l1_0 a1_1).bind fun t251 => (some (mx (wrap64 (t251 - a2)) 0, mn (wrap64 (t251 + a2)) (l0.length : Int), true))) else (some (0, 0, false)))) else (some (0, 0, false))) = some (r1, r2, r3) := H; have A12 := q0_5 A120; clear A120
       by_cases c13 : t249 = true
       · subst c13
         have H1 : ((impl_InRange.f a2 1 40).bind fun t250 => (if t250 = true then ((impl_PositionOf.f k l1_0 a1_1).bind fun t251 => (some (mx (wrap64 (t251 - a2)) 0, mn (wrap64 (t251 + a2)) (l0.length : Int), true))) else (some (0, 0, false)))) = some (r1, r2, r3) := by rw [if_pos rfl] at H; exact H
         clear H; have H := H1; clear H1; replace H := Option.bind_eq_some_iff.mp H; obtain ⟨t250, A140, H⟩ := H; replace H : (if t250 = true then ((impl_PositionOf.f k l1_0 a1_1).bind fun t251 => (some (mx (wrap64 (t251 - a2)) 0, mn (wrap64 (t251 + a2)) (l0.length : Int), true))) else (some (0, 0, false))) = some (r1, r2, r3) := H; have A14 := q0_5 A140; clear A140
         by_cases c15 : t250 = true
         · subst c15
           have H1 : ((impl_PositionOf.f k l1_0 a1_1).bind fun t251 => (some (mx (wrap64 (t251 - a2)) 0, mn (wrap64 (t251 + a2)) (l0.length : Int), true))) = some (r1, r2, r3) := by rw [if_pos rfl] at H; exact H
           clear H; have H := H1; clear H1; replace H := Option.bind_eq_some_iff.mp H; obtain ⟨t251, A160, H⟩ := H; replace H : (some (mx (wrap64 (t251 - a2)) 0, mn (wrap64 (t251 + a2)) (l0.length : Int), true)) = some (r1, r2, r3) := H; have A16 := q0_5 A160; clear A160; obtain ⟨ji17, hji17⟩ : ∃ j_ : Int, (mx (wrap64 (t251 - a2)) 0) = j_ := ⟨_, rfl⟩; (replace H : (some (ji17, mn (wrap64 (t251 + a2)) (l0.length : Int), true)) = some (r1, r2, r3) := by first | (rw [hji17] at H; exact H) | (simp only [hji17] at H ⊢; exact H)); ((try rw [hji17] at A4)); ((try rw [hji17] at A12)); ((try rw [hji17] at A14)); ((try rw [hji17] at A16)); ((try (have hji17l : 0 ≤ ji17 := by (rw [← hji17]; unfold mx; (repeat' split) <;> omega)))); ((try (have hji17m : 0 ≤ ji17 := by omega))); (have hji17_ : (if (wrap64 (t251 - a2)) < 0 then 0 else (wrap64 (t251 - a2))) = ji17 := hji17); obtain ⟨ji18, hji18⟩ : ∃ j_ : Int, (mn (wrap64 (t251 + a2)) (l0.length : Int)) = j_ := ⟨_, rfl⟩; (replace H : (some (ji17, ji18, true)) = some (r1, r2, r3) := by first | (rw [hji18] at H; exact H) | (simp only [hji18] at H ⊢; exact H)); ((try rw [hji18] at A4)); ((try rw [hji18] at A12)); ((try rw [hji18] at A14)); ((try rw [hji18] at A16)); (have hji18_ : (if (l0.length : Int) < (wrap64 (t251 + a2)) then (l0.length : Int) else (wrap64 (t251 + a2))) = ji18 := hji18); (simp only [Option.some.injEq, Prod.mk.injEq] at H); obtain ⟨rfl, rfl, rfl⟩ := H; go_enter Try.func55, Try.ntmps55
           (go_wp2_with (first | ((with_reducible refine gate_dst (N := 4) rfl ?_); (try (refine gate_guard (by rfl) ?_; dsimp only)); refine box_event ?hg (N := 4) ?hd (cs := #[.slice A1_0 l1_0.length c1_0, .int .i64 a1_1]) (t := 46) ?hr ?_; (case hd => rfl); (case hg => rfl); (case hr => first | (go_simp; done) | (go_simp; rfl)); intro q3 hg w19 hbox hb; have n0_ := q0_5 (below_step (q7_5) hb); have n1_ := q0_5 (hbox); have n2_ := q0_5 ((by rw [hg]; exact (below_size (q7_5)) : w.heap.size ≤ q3)); have n3_ := q0_5 ((by rw [hg]; exact (below_size (q7_5)) : w.heap.size ≤ q3)); clear HB; have HB := n0_; have q1 := n1_; have GW247 := n2_; have q8 := n3_; clear n0_ n1_ n2_ n3_; clear hb hbox hg; have hcz20_0 : w19.cell? ⟨q3, 0, none⟩ = some (.slice A1_0 l1_0.length c1_0) := (blk_cell q1.out 0).trans rfl; have hcz20_1 : w19.cell? ⟨q3, 1, none⟩ = some (.int .i64 a1_1) := (blk_cell q1.out 1).trans rfl; have hfz20_0 := blk_frozen q1.out 0; have hfz20_1 := blk_frozen q1.out 1) | ((with_reducible refine gate_callee (f := 86) rfl ?_); refine goesL_ (some 13) rfl rfl Try.func86 (by kernel_rfl) rfl #[.slice A1_0 l1_0.length c1_0, .func (.func 87) #[] #[]] rfl ma ?_; (with_reducible refine (slices_ContainsFunc_int_int.calls _ _ l1_0 false _ ?side1 ?side2 A4.out).mono ?_); (case side1 => exact ca (Kd.C_below HR1_0.out HB.out)); (case side2 => exact HC1_0.out); rintro e w' ⟨rfl, ⟨nd, rfl⟩⟩; refine ⟨_, rfl, ?_⟩) | (go_at_call 36; (with_reducible refine (impl_InRange.calls a1_1 0 500 true _ A12.out).mono ?_); rintro e w' ⟨rfl, ⟨nd, rfl⟩⟩) | (go_at_call 36; (with_reducible refine (impl_InRange.calls a2 1 40 true _ A14.out).mono ?_); rintro e w' ⟨rfl, ⟨nd, rfl⟩⟩) | ((with_reducible refine gate_callee (f := 51) rfl ?_); refine goesL_ (some 41) rfl rfl Try.func51 (by kernel_rfl) rfl #[.agg #[.slice A1_0 l1_0.length c1_0, .int .i64 a1_1]] rfl ma ?_; (with_reducible refine (impl_PositionOf.calls k _ _ l1_0 a1_1 t251 _ ?side1 ?side2 A16.out).mono ?_); (case side1 => exact ca (Kd.C_below HR1_0.out (q5_5))); (case side2 => exact HC1_0.out); rintro e w21 ⟨rfl, hb⟩; refine ⟨_, rfl, ?_⟩; have n0_ := q0_5 (bb q1.out hb); have n1_ := q0_5 (below_step (q5_5) hb); clear q1; clear HB; have q1 := n0_; have HB := n1_; clear n0_ n1_; (try clear hb); (try clear hb2); (try clear hk); (try clear hi)))); (go_ret3); (exact ⟨by first | rfl | (simp [errW_none, errW_some] <;> rfl) | (simp only [← hji17, ← hji18]; first | rfl | (simp [errW_none, errW_some] <;> rfl)) | (simp [*, errW_none, errW_some] <;> rfl), by exact (q5_5)⟩)
         · replace c15 := Bool.eq_false_iff.mpr c15
           subst c15; (have H1 : (some (0, 0, false)) = some (r1, r2, r3) := by rw [if_neg (show ¬ (false = true) by decide)] at H; exact H); clear H; have H := H1; clear H1; (simp only [Option.some.injEq, Prod.mk.injEq] at H); obtain ⟨rfl, rfl, rfl⟩ := H; go_enter Try.func55, Try.ntmps55; (go_wp2_with (first | ((with_reducible refine gate_dst (N := 4) rfl ?_); (try (refine gate_guard (by rfl) ?_; dsimp only)); refine box_event ?hg (N := 4) ?hd (cs := #[.slice A1_0 l1_0.length c1_0, .int .i64 a1_1]) (t := 46) ?hr ?_; (case hd => rfl); (case hg => rfl); (case hr => first | (go_simp; done) | (go_simp; rfl)); intro q3 hg w22 hbox hb; have n0_ := q0_5 (below_step (q7_5) hb); have n1_ := q0_5 (hbox); have n2_ := q0_5 ((by rw [hg]; exact (below_size (q7_5)) : w.heap.size ≤ q3)); have n3_ := q0_5 ((by rw [hg]; exact (below_size (q7_5)) : w.heap.size ≤ q3)); clear HB; have HB := n0_; have q1 := n1_; have GW247 := n2_; have q8 := n3_; clear n0_ n1_ n2_ n3_; clear hb hbox hg; have hcz23_0 : w22.cell? ⟨q3, 0, none⟩ = some (.slice A1_0 l1_0.length c1_0) := (blk_cell q1.out 0).trans rfl; have hcz23_1 : w22.cell? ⟨q3, 1, none⟩ = some (.int .i64 a1_1) := (blk_cell q1.out 1).trans rfl; have hfz23_0 := blk_frozen q1.out 0; have hfz23_1 := blk_frozen q1.out 1) | ((with_reducible refine gate_callee (f := 86) rfl ?_); refine goesL_ (some 13) rfl rfl Try.func86 (by kernel_rfl) rfl #[.slice A1_0 l1_0.length c1_0, .func (.func 87) #[] #[]] rfl ma ?_; (with_reducible refine (slices_ContainsFunc_int_int.calls _ _ l1_0 false _ ?side1 ?side2 A4.out).mono ?_); (case side1 => exact ca (Kd.C_below HR1_0.out HB.out)); (case side2 => exact HC1_0.out); rintro e w' ⟨rfl, ⟨nd, rfl⟩⟩; refine ⟨_, rfl, ?_⟩) | (go_at_call 36; (with_reducible refine (impl_InRange.calls a1_1 0 500 true _ A12.out).mono ?_); rintro e w' ⟨rfl, ⟨nd, rfl⟩⟩) | (go_at_call 36; (with_reducible refine (impl_InRange.calls a2 1 40 false _ A14.out).mono ?_); rintro e w' ⟨rfl, ⟨nd, rfl⟩⟩))); (go_ret3); (exact ⟨by first | rfl | (simp [errW_none, errW_some] <;> rfl) | (simp [*, errW_none, errW_some] <;> rfl), by exact (q5_5)⟩)
       · replace c13 := Bool.eq_false_iff.mpr c13
         subst c13; (have H1 : (some (0, 0, false)) = some (r1, r2, r3) := by rw [if_neg (show ¬ (false = true) by decide)] at H; exact H); clear H; have H := H1; clear H1; (simp only [Option.some.injEq, Prod.mk.injEq] at H); obtain ⟨rfl, rfl, rfl⟩ := H; go_enter Try.func55, Try.ntmps55; (go_wp2_with (first | ((with_reducible refine gate_dst (N := 4) rfl ?_); (try (refine gate_guard (by rfl) ?_; dsimp only)); refine box_event ?hg (N := 4) ?hd (cs := #[.slice A1_0 l1_0.length c1_0, .int .i64 a1_1]) (t := 46) ?hr ?_; (case hd => rfl); (case hg => rfl); (case hr => first | (go_simp; done) | (go_simp; rfl)); intro q3 hg w24 hbox hb; have n0_ := q0_5 (below_step (q7_5) hb); have n1_ := q0_5 (hbox); have n2_ := q0_5 ((by rw [hg]; exact (below_size (q7_5)) : w.heap.size ≤ q3)); have n3_ := q0_5 ((by rw [hg]; exact (below_size (q7_5)) : w.heap.size ≤ q3)); clear HB; have HB := n0_; have q1 := n1_; have GW247 := n2_; have q8 := n3_; clear n0_ n1_ n2_ n3_; clear hb hbox hg; have hcz25_0 : w24.cell? ⟨q3, 0, none⟩ = some (.slice A1_0 l1_0.length c1_0) := (blk_cell q1.out 0).trans rfl; have hcz25_1 : w24.cell? ⟨q3, 1, none⟩ = some (.int .i64 a1_1) := (blk_cell q1.out 1).trans rfl; have hfz25_0 := blk_frozen q1.out 0; have hfz25_1 := blk_frozen q1.out 1) | ((with_reducible refine gate_callee (f := 86) rfl ?_); refine goesL_ (some 13) rfl rfl Try.func86 (by kernel_rfl) rfl #[.slice A1_0 l1_0.length c1_0, .func (.func 87) #[] #[]] rfl ma ?_; (with_reducible refine (slices_ContainsFunc_int_int.calls _ _ l1_0 false _ ?side1 ?side2 A4.out).mono ?_); (case side1 => exact ca (Kd.C_below HR1_0.out HB.out)); (case side2 => exact HC1_0.out); rintro e w' ⟨rfl, ⟨nd, rfl⟩⟩; refine ⟨_, rfl, ?_⟩) | (go_at_call 36; (with_reducible refine (impl_InRange.calls a1_1 0 500 false _ A12.out).mono ?_); rintro e w' ⟨rfl, ⟨nd, rfl⟩⟩))); (go_ret3); (exact ⟨by first | rfl | (simp [errW_none, errW_some] <;> rfl) | (simp [*, errW_none, errW_some] <;> rfl), by exact (q5_5)⟩)
     · rw [if_neg c11] at H
       (have c11b0 : ((l1_0.length : Int) == (wrap64 ((l0.length : Int) + 1))) = false := beq_eq_false_iff_ne.mpr c11); (have c11b1 : ((l1_0.length : Int) != (wrap64 ((l0.length : Int) + 1))) = true := bne_iff_ne.mpr c11); (simp only [Option.some.injEq, Prod.mk.injEq] at H); obtain ⟨rfl, rfl, rfl⟩ := H; go_enter Try.func55, Try.ntmps55; (go_wp2_with (first | ((with_reducible refine gate_dst (N := 4) rfl ?_); (try (refine gate_guard (by rfl) ?_; dsimp only)); refine box_event ?hg (N := 4) ?hd (cs := #[.slice A1_0 l1_0.length c1_0, .int .i64 a1_1]) (t := 46) ?hr ?_; (case hd => rfl); (case hg => rfl); (case hr => first | (go_simp; done) | (go_simp; rfl)); intro q3 hg w26 hbox hb; have n0_ := q0_5 (below_step (q7_5) hb); have n1_ := q0_5 (hbox); have n2_ := q0_5 ((by rw [hg]; exact (below_size (q7_5)) : w.heap.size ≤ q3)); have n3_ := q0_5 ((by rw [hg]; exact (below_size (q7_5)) : w.heap.size ≤ q3)); clear HB; have HB := n0_; have q1 := n1_; have GW247 := n2_; have q8 := n3_; clear n0_ n1_ n2_ n3_; clear hb hbox hg; have hcz27_0 : w26.cell? ⟨q3, 0, none⟩ = some (.slice A1_0 l1_0.length c1_0) := (blk_cell q1.out 0).trans rfl; have hcz27_1 : w26.cell? ⟨q3, 1, none⟩ = some (.int .i64 a1_1) := (blk_cell q1.out 1).trans rfl; have hfz27_0 := blk_frozen q1.out 0; have hfz27_1 := blk_frozen q1.out 1) | ((with_reducible refine gate_callee (f := 86) rfl ?_); refine goesL_ (some 13) rfl rfl Try.func86 (by kernel_rfl) rfl #[.slice A1_0 l1_0.length c1_0, .func (.func 87) #[] #[]] rfl ma ?_; (with_reducible refine (slices_ContainsFunc_int_int.calls _ _ l1_0 false _ ?side1 ?side2 A4.out).mono ?_); (case side1 => exact ca (Kd.C_below HR1_0.out HB.out)); (case side2 => exact HC1_0.out); rintro e w' ⟨rfl, ⟨nd, rfl⟩⟩; refine ⟨_, rfl, ?_⟩))); (go_ret3); (exact ⟨by first | rfl | (simp [errW_none, errW_some] <;> rfl) | (simp [*, errW_none, errW_some] <;> rfl), by exact (q5_5)⟩)
/-! ### impl_clone_int: function 56 -/
def impl_clone_int.f (l0 : List Int) : Option (List Int) := (some (([] : List Int) : List Int)).bind fun y252 => (if y252.length + l0.length < 17592186044416 then (some (y252 ++ l0)) else (none))
set_option maxHeartbeats 8000000 in
set_option maxRecDepth 100000 in
theorem impl_clone_int.calls (A0 : Option Addr) (c0 : Nat) (l0 : List Int) (r : List Int) (w : World) (hr0 : Kd.C (Kd.int .i64) w A0 l0.length l0) (hc0 : l0.length ≤ c0) (h : impl_clone_int.f l0 = some r) :
 Calls Try.prog 56 #[.slice A0 l0.length c0] w fun e w' => ∃ v0_ : Value, e = .returned (v0_) ∧ Kd.R (Kd.int .i64) 3 w' w.heap.size (fun _ => True) v0_ r ∧ Below w.heap.size w w' := by
 have HR0 := q0_5 hr0; have HC0 := q0_5 hc0; clear hr0 hc0; have HB := q0_5 (Below.refl w.heap.size w); (have H : ((some (([] : List Int) : List Int)).bind fun y252 => (if y252.length + l0.length < 17592186044416 then (some (y252 ++ l0)) else (none))) = some r := h); clear h; obtain ⟨y252, hy252⟩ : ∃ y_ : List Int, y_ = (([] : List Int)) := ⟨_, rfl⟩; (replace H : (if y252.length + l0.length < 17592186044416 then (some (y252 ++ l0)) else (none)) = some r := by first | (rw [hy252]; with_reducible exact H) | (have H2_ := (Option.bind_some _ _).symm.trans H; rw [hy252]; with_reducible exact H2_) | (have H2_ := (Option.bind_some _ _).symm.trans H; with_reducible exact H2_) | with_reducible exact H | (rw [hy252]; exact H) | exact H); have Ny252 := q0_5 hy252; clear hy252
 by_cases c2 : y252.length + l0.length < 17592186044416
 · rw [if_pos c2] at H
   have LMc2 := q0_5 c2; clear c2; obtain ⟨y255, hy255⟩ : ∃ y_ : List Int, y_ = (y252 ++ l0) := ⟨_, rfl⟩; (replace H : (some y255) = some r := by first | (rw [hy255]; with_reducible exact H) | (have H2_ := (Option.bind_some _ _).symm.trans H; rw [hy255]; with_reducible exact H2_) | (have H2_ := (Option.bind_some _ _).symm.trans H; with_reducible exact H2_) | with_reducible exact H | (rw [hy255]; exact H) | exact H); have Ny255 := q0_5 hy255; clear hy255; obtain rfl := Option.some.inj H; go_enter Try.func56, Try.ntmps56; (go_wp2_with (first | ((with_reducible refine gate_dst (N := 3) rfl ?_); refine Kd.R_lit (Kd.int .i64) _ 3 ?hg (N := 3) ?hd (xs := ([] : List Int)) (inner := []) (ok := fun _ => True) (okp := fun _ => True) ?hr ?hp (fun _ hk => hk) trivial (Below.refl _ _) (Nat.le_refl _) (by simp) ?_; (case hd => rfl); (case hg => rfl); (case hr => first | (go_simp; done) | (go_simp; rfl)); (case hp => exact (Reps.none _ _)); intro v253 w3 ho4 hb hg_ hnew_; clear hg_ hnew_; (first | rw [← Ny252.out] at ho4 | (simp only [Int.reduceToNat] at ho4; rw [← Ny252.out] at ho4)); have n0_ := q0_5 (Kd.R_lower ho4 (below_size (q7_5))); have n1_ := q0_5 (below_step (q7_5) hb); clear HB; have qa := n0_; have HB := n1_; clear n0_ n1_; clear hb ho4) | ((with_reducible refine gate_builtin (b := .append) (xs := #[.tmp 3, .tmp 4]) rfl ?_); at_builtin; refine Kd.R_append_rows (Kd.int .i64) (w0 := w) w.heap.size rfl (.tmp 3) (.tmp 4) 41 3 (.int .i64 0) 8 rfl Try.underlying41 info3 rfl (by decide) (by omega) v253 y252 l0 _ _ _ (fun _ => True) (fun _ => False) rfl rfl ?aO ?aR (fun _ _ h => h) (fun _ h => h.elim) ?aF ?aB ?aS ?aL ?_; (case aR => exact ca (Kd.C_below HR0.out HB.out)); (case aB => exact (q7_5)); (case aF => exact (fun _ _ => trivial)); (case aO => exact (ra qa.out)); (case aS => exact (below_size (q7_5))); (case aL => have := LMc2.out; omega); intro v256 w5 ho hb hg hat; rw [← Ny255.out] at ho; have n0_ := q0_5 (hb); have n1_ := q0_5 (ho); clear HB; clear qa; have HB := n0_; have qc := n1_; clear n0_ n1_; clear ho hb hg hat))); go_ret; (exact ⟨_, by first | rfl | (simp [errW_none, errW_some] <;> rfl) | (simp [*, errW_none, errW_some] <;> rfl), by refine ra ?_; exact qc.out, by exact (q7_5)⟩)
 · rw [if_neg c2] at H
   exact absurd H (by simp)
/-! ### slices_Repeat_int_int: function 57 -/
def slices_Repeat_int_int.f (l0 : List Int) (a1 : Int) : Option (List Int) := if l0.length = 1 ∧ 1 ≤ a1 ∧ a1 ≤ 1099511627776 then some (List.replicate a1.toNat (rd l0 0)) else none
theorem slices_Repeat_int_int.calls (A0 : Option Addr) (c0 : Nat) (l0 : List Int) (a1 : Int) (r : List Int) (w : World) (hr0 : Kd.C (Kd.int .i64) w A0 l0.length l0) (hc0 : l0.length ≤ c0) (h : slices_Repeat_int_int.f l0 a1 = some r) :
 Calls Try.prog 57 #[.slice A0 l0.length c0, .int .i64 a1] w fun e w' => ∃ v0_ : Value, e = .returned (v0_) ∧ Kd.R (Kd.int .i64) 3 w' w.heap.size (fun _ => True) v0_ r ∧ Below w.heap.size w w' := by
 unfold slices_Repeat_int_int.f at h
 by_cases hc : l0.length = 1 ∧ 1 ≤ a1 ∧ a1 ≤ 1099511627776
 · rw [if_pos hc] at h
   obtain rfl := Option.some.inj h; obtain ⟨ad, rfl, hx⟩ := Kd.at_int hr0 0 (by omega) (by omega); (have hx0 : w.cell? ad = some (.int .i64 (rd l0 0)) := hx); obtain ⟨m, rfl⟩ := Int.eq_ofNat_of_zero_le (show 0 ≤ a1 by omega); rw [hc.1]; simp only [Int.ofNat_eq_natCast, Int.toNat_natCast]; exact Rep.repeat1 ad c0 (rd l0 0) m (by omega) (by omega) w hx0
 · rw [if_neg hc] at h; cases h
/-! ### impl_unlike: function 58 -/
def impl_unlike.f (a0 : Int) (a1 : Int) : Option (Int) := if a0 = a1 then (some 0) else (some 1)
set_option maxHeartbeats 8000000 in
set_option maxRecDepth 100000 in
theorem impl_unlike.calls (a0 : Int) (a1 : Int) (r : Int) (w : World) (h : impl_unlike.f a0 a1 = some r) :
 Calls Try.prog 58 #[.int .i64 a0, .int .i64 a1] w fun e w' => e = .returned (.int .i64 r) ∧ Drawn0 w w' := by
 (have H : (if a0 = a1 then (some 0) else (some 1)) = some r := h); clear h
 by_cases c3 : a0 = a1
 · rw [if_pos c3] at H
   (have c3b0 : (a0 == a1) = true := beq_iff_eq.mpr c3); (have c3b1 : (a0 != a1) = false := bne_eq_false_iff_eq.mpr c3); clear c3; obtain rfl := Option.some.inj H; go_enter Try.func58, Try.ntmps58; (go_wp2); go_ret; exact ⟨by first | rfl | (simp; done) | (simp [*]; done), by repeat (first | exact Drawn0.refl _ | apply Drawn0.step)⟩
 · rw [if_neg c3] at H
   (have c3b0 : (a0 == a1) = false := beq_eq_false_iff_ne.mpr c3); (have c3b1 : (a0 != a1) = true := bne_iff_ne.mpr c3); obtain rfl := Option.some.inj H; go_enter Try.func58, Try.ntmps58; (go_wp2); go_ret; exact ⟨by first | rfl | (simp; done) | (simp [*]; done), by repeat (first | exact Drawn0.refl _ | apply Drawn0.step)⟩
end Go.Proofs.Ytlkfhddckgjlnaa.PFnBounded
