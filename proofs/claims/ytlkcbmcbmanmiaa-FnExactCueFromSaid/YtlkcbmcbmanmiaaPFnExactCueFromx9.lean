-- Written for this claim by a program of this repository (wip/tools/print2.py), out of the translation; Lean checks it.
import Derived.Test.YtlkcbmcbmanmiaaPFnExactCueFromx0
namespace Go.Proofs.Ytlkcbmcbmanmiaa.PFnExactCueFrom
open Go.RowKit Go.Proofs.YtlkcbmcbmanmiaaW.PrintWords Go.Proofs.YtlkcbmcbmanmiaaW.PrintLast Go.Proofs.YtlkcbmcbmanmiaaW.PrintMore
attribute [local go_sem] max2_int min2_int max_two min_two max_three min_three max_four min_four   -- for this text's walks alone
set_option linter.unusedVariables false
set_option linter.unusedSimpArgs false
-- SHORT
theorem qf_9 {p : Prop} (f : p := by repeat (first | (with_reducible first | exact HB.out | apply below_alloc | apply pw_below_drewN | apply below_drew1) | exact HB.out)) : p := f
theorem q7_9 {p : Prop} (f : p := by repeat (first | (with_reducible first | exact HB.out | apply below_alloc | apply pw_below_drewN | apply below_drew1 | refine below_set ?_ qj.out) | exact HB.out)) : p := f
theorem q4_9 {p : Prop} (f : p := by repeat (first | (with_reducible first | exact HB.out | apply below_alloc | apply pw_below_drewN | apply below_drew1 | refine below_set ?_ qj.out | refine below_set ?_ qk.out) | exact HB.out)) : p := f
theorem qd_9 {p : Prop} (f : p := by repeat (first | (with_reducible first | exact HB.out | apply below_alloc | apply pw_below_drewN | apply below_drew1 | refine below_set ?_ qn.out) | exact HB.out)) : p := f
theorem qh_9 {p : Prop} (f : p := by repeat (first | (with_reducible first | exact HB.out | apply below_alloc | apply pw_below_drewN | apply below_drew1 | refine below_set ?_ qq.out) | exact HB.out)) : p := f
theorem q0_9 {p : Prop} (h : p) : Aside0 p := ⟨h⟩
/-! ### laws_eqIntS: function 18 -/
def laws_eqIntS.l0 : Nat → List Int → List Int → Int → Option (Bool)
 | 0, _, _, _ => none
 | k + 1, x0, x1, x5 => if x5 < (x0.length : Int) then (if 0 ≤ x5 then (if x5 < (x1.length : Int) then (if (rd x0 x5) = (rd x1 x5) then (laws_eqIntS.l0 k x0 x1 (wrap64 (x5 + 1))) else (some false)) else (none)) else (none)) else (some true)
def laws_eqIntS.f (k : Nat) (l0 : List Int) (l1 : List Int) : Option (Bool) := if (l0.length : Int) = (l1.length : Int) then (laws_eqIntS.l0 k l0 l1 0) else (some false)
theorem laws_eqIntS.mono_l : ∀ k, (∀ y0 y1 y2, LeO (laws_eqIntS.l0 k y0 y1 y2) (laws_eqIntS.l0 (k + 1) y0 y1 y2))
 | 0 => fun _ _ _ r h => by simp [laws_eqIntS.l0] at h
 | k + 1 => by
  have ih0 := laws_eqIntS.mono_l k
  · intro y0 y1 y2
    unfold laws_eqIntS.l0
    repeat' first
    | (with_reducible exact ih0 _ _ _)
    | (with_reducible exact LeO.refl _)
    | (with_reducible exact LeO.none _)
    | (with_reducible refine LeO.ite ?_ ?_)
    | (with_reducible refine LeO.bind ?_ (fun _ => ?_))
    | exact ih0 _ _ _
    | exact LeO.none _
    | refine LeO.ite ?_ ?_
    | refine LeO.bind ?_ (fun _ => ?_)
theorem laws_eqIntS.mono : ∀ a0 a1 k, LeO (laws_eqIntS.f k a0 a1) (laws_eqIntS.f (k + 1) a0 a1) := by
 intro a0 a1 k; have ih0 := laws_eqIntS.mono_l k; unfold laws_eqIntS.f
 repeat' first
  | (with_reducible exact ih0 _ _ _)
  | (with_reducible exact LeO.refl _)
  | (with_reducible exact LeO.none _)
  | (with_reducible refine LeO.ite ?_ ?_)
  | (with_reducible refine LeO.bind ?_ (fun _ => ?_))
  | exact ih0 _ _ _
  | exact LeO.none _
  | refine LeO.ite ?_ ?_
  | refine LeO.bind ?_ (fun _ => ?_)
set_option maxHeartbeats 8000000 in
set_option maxRecDepth 100000 in
theorem laws_eqIntS.calls (k : Nat) (A0 : Option Addr) (c0 : Nat) (l0 : List Int) (A1 : Option Addr) (c1 : Nat) (l1 : List Int) (r : Bool) (w : World) (hr0 : Kd.C (Kd.int .i64) w A0 l0.length l0) (hc0 : l0.length ≤ c0) (hr1 : Kd.C (Kd.int .i64) w A1 l1.length l1) (hc1 : l1.length ≤ c1) (h : laws_eqIntS.f k l0 l1 = some r) :
 Calls Try.prog 18 #[.slice A0 l0.length c0, .slice A1 l1.length c1] w fun e w' => e = .returned (.bool r) ∧ Drawn0 w w' := by
 have HR0 := q0_9 hr0; have HC0 := q0_9 hc0; clear hr0 hc0; have HR1 := q0_9 hr1; have HC1 := q0_9 hc1; clear hr1 hc1; (have H : (if (l0.length : Int) = (l1.length : Int) then (laws_eqIntS.l0 k l0 l1 0) else (some false)) = some r := h); clear h
 by_cases c3 : (l0.length : Int) = (l1.length : Int)
 · rw [if_pos c3] at H
   (have c3b0 : ((l0.length : Int) == (l1.length : Int)) = true := beq_iff_eq.mpr c3); (have c3b1 : ((l0.length : Int) != (l1.length : Int)) = false := bne_eq_false_iff_eq.mpr c3); (have c3b2 : (l0.length == l1.length) = true := by first | simpa using c3 | (simp at c3 ⊢; omega)); clear c3; (have H' := q0_9 H); clear H; go_enter Try.func18, Try.ntmps18; (go_wp2); (repeat (go_quiet (fail); try go_wp2)); (go_loopg [5] k (fun kq v5 w' => ∃ (x5_1 : Int), v5 = .int .i64 x5_1 ∧ Aside0 (laws_eqIntS.l0 kq l0 l1 x5_1 = some r) ∧ Aside0 (kq ≤ k) ∧ Drawn0 w w'))
   case atStart => exact ⟨(0), (by first | rfl | (simp; done) | (simp [*]; done)), H', ⟨Nat.le_refl _⟩, by repeat (first | exact Drawn0.refl _ | apply Drawn0.step)⟩
   case round =>
    clear H'; (try clear c1); (try clear p2); (try clear c3); (try clear c3b0); (try clear c3b1); (try clear c3b2); obtain ⟨x5_1, rfl, HA, HK1, ⟨m1, rfl⟩⟩ := hrel
    cases gk with
    | zero => exact absurd HA.out (by simp [laws_eqIntS.l0])
    | succ k1 =>
     have H := HA.out; clear HA; (simp only [laws_eqIntS.l0] at H)
     by_cases c4 : x5_1 < (l0.length : Int)
     · rw [if_pos c4] at H
       (have c4b0 : decide (x5_1 < (l0.length : Int)) = true := decide_eq_true c4); clear c4
       by_cases c5 : 0 ≤ x5_1
       · rw [if_pos c5] at H
         (have c5b0 : decide (0 ≤ x5_1) = true := decide_eq_true c5); clear c5
         by_cases c6 : x5_1 < (l1.length : Int)
         · rw [if_pos c6] at H
           (have c6b0 : decide (x5_1 < (l1.length : Int)) = true := decide_eq_true c6); clear c6
           by_cases c7 : (rd l0 x5_1) = (rd l1 x5_1)
           · rw [if_pos c7] at H
             (have c7b0 : ((rd l0 x5_1) == (rd l1 x5_1)) = true := beq_iff_eq.mpr c7); (have c7b1 : ((rd l0 x5_1) != (rd l1 x5_1)) = false := bne_eq_false_iff_eq.mpr c7); clear c7; (have H' := q0_9 H); clear H; (have p208 : 0 ≤ (x5_1 : Int) := of_decide_eq_true (by first | (with_reducible assumption) | assumption)); (have q208 : x5_1 < (l0.length : Int) := of_decide_eq_true (by first | (with_reducible assumption) | assumption)); obtain ⟨ad208, e208, hx208_0⟩ := Kd.at_int HR0.out x5_1 p208 q208
             cases e208
             replace p208 := eq_true p208; replace q208 := eq_true q208; (have p209 : 0 ≤ (x5_1 : Int) := of_decide_eq_true (by first | (with_reducible assumption) | assumption)); (have q209 : x5_1 < (l1.length : Int) := of_decide_eq_true (by first | (with_reducible assumption) | assumption)); obtain ⟨ad209, e209, hx209_0⟩ := Kd.at_int HR1.out x5_1 p209 q209
             cases e209
             replace p209 := eq_true p209; replace q209 := eq_true q209; (go_wp2); (repeat (go_quiet (fail); try go_wp2)); (go_roundg k1)
             case measure => have := HK1.out; omega
             case rel => exact ⟨(wrap64 (x5_1 + 1)), (by first | rfl | (simp; done) | (simp [*]; done)), H', ⟨by have := HK1.out; omega⟩, by repeat (first | exact Drawn0.refl _ | apply Drawn0.step)⟩
           · rw [if_neg c7] at H
             (have c7b0 : ((rd l0 x5_1) == (rd l1 x5_1)) = false := beq_eq_false_iff_ne.mpr c7); (have c7b1 : ((rd l0 x5_1) != (rd l1 x5_1)) = true := bne_iff_ne.mpr c7); obtain rfl := Option.some.inj H; (have p208 : 0 ≤ (x5_1 : Int) := of_decide_eq_true (by first | (with_reducible assumption) | assumption)); (have q208 : x5_1 < (l0.length : Int) := of_decide_eq_true (by first | (with_reducible assumption) | assumption)); obtain ⟨ad208, e208, hx208_0⟩ := Kd.at_int HR0.out x5_1 p208 q208
             cases e208
             replace p208 := eq_true p208; replace q208 := eq_true q208; (have p209 : 0 ≤ (x5_1 : Int) := of_decide_eq_true (by first | (with_reducible assumption) | assumption)); (have q209 : x5_1 < (l1.length : Int) := of_decide_eq_true (by first | (with_reducible assumption) | assumption)); obtain ⟨ad209, e209, hx209_0⟩ := Kd.at_int HR1.out x5_1 p209 q209
             cases e209
             replace p209 := eq_true p209; replace q209 := eq_true q209; (go_wp2); (repeat (go_quiet (fail); try go_wp2)); go_ret; exact ⟨by first | rfl | (simp; done) | (simp [*]; done), by repeat (first | exact Drawn0.refl _ | apply Drawn0.step)⟩
         · rw [if_neg c6] at H
           exact absurd H (by simp)
       · rw [if_neg c5] at H
         exact absurd H (by simp)
     · rw [if_neg c4] at H
       (have c4b0 : decide (x5_1 < (l0.length : Int)) = false := decide_eq_false c4); clear c4; obtain rfl := Option.some.inj H; (go_wp2); (repeat (go_quiet (fail); try go_wp2)); go_ret; exact ⟨by first | rfl | (simp; done) | (simp [*]; done), by repeat (first | exact Drawn0.refl _ | apply Drawn0.step)⟩
 · rw [if_neg c3] at H
   (have c3b0 : ((l0.length : Int) == (l1.length : Int)) = false := beq_eq_false_iff_ne.mpr c3); (have c3b1 : ((l0.length : Int) != (l1.length : Int)) = true := bne_iff_ne.mpr c3); (have c3b2 : (l0.length == l1.length) = false := by first | simpa using c3 | (simp at c3 ⊢; omega)); obtain rfl := Option.some.inj H; go_enter Try.func18, Try.ntmps18; (go_wp2); (repeat (go_quiet (fail); try go_wp2)); go_ret; exact ⟨by first | rfl | (simp; done) | (simp [*]; done), by repeat (first | exact Drawn0.refl _ | apply Drawn0.step)⟩
/-! ### laws_eqCue: function 30 -/
def laws_eqCue.f (k : Nat) (l0_0 : List Int) (l0_1 : List Int) (l1_0 : List Int) (l1_1 : List Int) : Option (Bool) := (laws_eqIntS.f k l0_0 l1_0).bind fun t212 => (if t212 = true then ((laws_eqIntS.f k l0_1 l1_1).bind fun t213 => (if t213 = true then (some true) else (some false))) else (some false))
theorem laws_eqCue.mono : ∀ a0 a1 a2 a3 k, LeO (laws_eqCue.f k a0 a1 a2 a3) (laws_eqCue.f (k + 1) a0 a1 a2 a3) := by
 intro a0 a1 a2 a3 k; unfold laws_eqCue.f
 repeat' first
  | (with_reducible exact laws_eqIntS.mono _ _ _)
  | (with_reducible exact LeO.refl _)
  | (with_reducible exact LeO.none _)
  | (with_reducible refine LeO.ite ?_ ?_)
  | (with_reducible refine LeO.bind ?_ (fun _ => ?_))
  | exact laws_eqIntS.mono _ _ _
  | exact LeO.none _
  | refine LeO.ite ?_ ?_
  | refine LeO.bind ?_ (fun _ => ?_)
set_option maxHeartbeats 8000000 in
set_option maxRecDepth 100000 in
theorem laws_eqCue.calls (k : Nat) (A0_0 : Option Addr) (c0_0 : Nat) (l0_0 : List Int) (A0_1 : Option Addr) (c0_1 : Nat) (l0_1 : List Int) (A1_0 : Option Addr) (c1_0 : Nat) (l1_0 : List Int) (A1_1 : Option Addr) (c1_1 : Nat) (l1_1 : List Int) (r : Bool) (w : World) (hr0_0 : Kd.C (Kd.int .i64) w A0_0 l0_0.length l0_0) (hc0_0 : l0_0.length ≤ c0_0) (hr0_1 : Kd.C (Kd.int .i64) w A0_1 l0_1.length l0_1) (hc0_1 : l0_1.length ≤ c0_1) (hr1_0 : Kd.C (Kd.int .i64) w A1_0 l1_0.length l1_0) (hc1_0 : l1_0.length ≤ c1_0) (hr1_1 : Kd.C (Kd.int .i64) w A1_1 l1_1.length l1_1) (hc1_1 : l1_1.length ≤ c1_1) (h : laws_eqCue.f k l0_0 l0_1 l1_0 l1_1 = some r) :
 Calls Try.prog 30 #[.agg #[.slice A0_0 l0_0.length c0_0, .slice A0_1 l0_1.length c0_1], .agg #[.slice A1_0 l1_0.length c1_0, .slice A1_1 l1_1.length c1_1]] w fun e w' => e = .returned (.bool r) ∧ Below w.heap.size w w' := by
 have hu42 := Try.underlying42; have HR0_0 := q0_9 hr0_0; have HC0_0 := q0_9 hc0_0; clear hr0_0 hc0_0; have HR0_1 := q0_9 hr0_1; have HC0_1 := q0_9 hc0_1; clear hr0_1 hc0_1; have HR1_0 := q0_9 hr1_0; have HC1_0 := q0_9 hc1_0; clear hr1_0 hc1_0; have HR1_1 := q0_9 hr1_1; have HC1_1 := q0_9 hc1_1; clear hr1_1 hc1_1; have HB := q0_9 (Below.refl w.heap.size w); (have H : ((laws_eqIntS.f k l0_0 l1_0).bind fun t212 => (if t212 = true then ((laws_eqIntS.f k l0_1 l1_1).bind fun t213 => (if t213 = true then (some true) else (some false))) else (some false))) = some r := h); clear h; replace H := Option.bind_eq_some_iff.mp H; obtain ⟨t212, A30, H⟩ := H; replace H : (if t212 = true then ((laws_eqIntS.f k l0_1 l1_1).bind fun t213 => (if t213 = true then (some true) else (some false))) else (some false)) = some r := H; have A3 := q0_9 A30; clear A30
 by_cases c4 : t212 = true
 · subst c4
   have H1 : ((laws_eqIntS.f k l0_1 l1_1).bind fun t213 => (if t213 = true then (some true) else (some false))) = some r := by rw [if_pos rfl] at H; exact H
   clear H; have H := H1; clear H1; replace H := Option.bind_eq_some_iff.mp H; obtain ⟨t213, A50, H⟩ := H; replace H : (if t213 = true then (some true) else (some false)) = some r := H; have A5 := q0_9 A50; clear A50
   by_cases c6 : t213 = true
   · subst c6
     have H1 : (some true) = some r := by rw [if_pos rfl] at H; exact H
     clear H; have H := H1; clear H1; obtain rfl := Option.some.inj H; go_enter Try.func30, Try.ntmps30
     (go_wp2_with (first | ((with_reducible refine gate_dst (N := 2) rfl ?_); refine box_event ?hg (N := 2) ?hd (cs := #[.slice A0_0 l0_0.length c0_0, .slice A0_1 l0_1.length c0_1]) (t := 42) ?hr ?_; (case hd => rfl); (case hg => rfl); (case hr => first | (go_simp; done) | (go_simp; rfl)); intro q2 hg w7 hbox hb; have n0_ := q0_9 (below_step (qf_9) hb); have n1_ := q0_9 (hbox); have n2_ := q0_9 ((by rw [hg]; exact (below_size (qf_9)) : w.heap.size ≤ q2)); have n3_ := q0_9 ((by rw [hg]; exact (below_size (qf_9)) : w.heap.size ≤ q2)); clear HB; have HB := n0_; have q1 := n1_; have GW210 := n2_; have qj := n3_; clear n0_ n1_ n2_ n3_; clear hb hbox hg) | ((with_reducible refine gate_dst (N := 3) rfl ?_); refine box_event ?hg (N := 3) ?hd (cs := #[.slice A1_0 l1_0.length c1_0, .slice A1_1 l1_1.length c1_1]) (t := 42) ?hr ?_; (case hd => rfl); (case hg => rfl); (case hr => first | (go_simp; done) | (go_simp; rfl)); intro q3 hg w8 hbox hb; have n0_ := q0_9 (bb q1.out hb); have n1_ := q0_9 (below_step (q7_9) hb); have n2_ := q0_9 (hbox); have n3_ := q0_9 ((by rw [hg]; exact (below_size (q7_9)) : w.heap.size ≤ q3)); have n4_ := q0_9 ((by rw [hg]; exact (below_size (q7_9)) : w.heap.size ≤ q3)); have n5_ := q0_9 ((by rw [hg]; exact Nat.ne_of_lt (bl q1.out) : q2 ≠ q3)); have n6_ := q0_9 ((by rw [hg]; exact Nat.ne_of_gt (bl q1.out) : q3 ≠ q2)); clear q1; clear HB; have q1 := n0_; have HB := n1_; have q8 := n2_; have GW211 := n3_; have qk := n4_; have qb := n5_; have qc := n6_; clear n0_ n1_ n2_ n3_ n4_ n5_ n6_; clear hb hbox hg; have hnb9 := qb.out; have hnc9 := qc.out; have hcz10_0 : w8.cell? ⟨q2, 0, none⟩ = some (.slice A0_0 l0_0.length c0_0) := (blk_cell q1.out 0).trans rfl; have hcz10_1 : w8.cell? ⟨q2, 1, none⟩ = some (.slice A0_1 l0_1.length c0_1) := (blk_cell q1.out 1).trans rfl; have hfz10_0 := blk_frozen q1.out 0; have hfz10_1 := blk_frozen q1.out 1; have hcz11_0 : w8.cell? ⟨q3, 0, none⟩ = some (.slice A1_0 l1_0.length c1_0) := (blk_cell q8.out 0).trans rfl; have hcz11_1 : w8.cell? ⟨q3, 1, none⟩ = some (.slice A1_1 l1_1.length c1_1) := (blk_cell q8.out 1).trans rfl; have hfz11_0 := blk_frozen q8.out 0; have hfz11_1 := blk_frozen q8.out 1) | ((with_reducible refine gate_callee (f := 18) rfl ?_); refine goesL_ (some 9) rfl rfl Try.func18 (by kernel_rfl) rfl #[.slice A0_0 l0_0.length c0_0, .slice A1_0 l1_0.length c1_0] rfl ma ?_; (with_reducible refine (laws_eqIntS.calls k _ _ l0_0 _ _ l1_0 true _ ?side1 ?side2 ?side3 ?side4 A3.out).mono ?_); (case side1 => exact ca (Kd.C_below HR0_0.out HB.out)); (case side2 => exact HC0_0.out); (case side3 => exact ca (Kd.C_below HR1_0.out HB.out)); (case side4 => exact HC1_0.out); rintro e w' ⟨rfl, ⟨nd, rfl⟩⟩; refine ⟨_, rfl, ?_⟩) | ((with_reducible refine gate_callee (f := 18) rfl ?_); refine goesL_ (some 15) rfl rfl Try.func18 (by kernel_rfl) rfl #[.slice A0_1 l0_1.length c0_1, .slice A1_1 l1_1.length c1_1] rfl ma ?_; (with_reducible refine (laws_eqIntS.calls k _ _ l0_1 _ _ l1_1 true _ ?side1 ?side2 ?side3 ?side4 A5.out).mono ?_); (case side1 => exact ca (Kd.C_below HR0_1.out (q4_9))); (case side2 => exact HC0_1.out); (case side3 => exact ca (Kd.C_below HR1_1.out (q4_9))); (case side4 => exact HC1_1.out); rintro e w' ⟨rfl, ⟨nd, rfl⟩⟩; refine ⟨_, rfl, ?_⟩)))
     go_ret; (exact ⟨by first | rfl | (simp [errW_none, errW_some] <;> rfl) | (simp [*, errW_none, errW_some] <;> rfl), by exact (q4_9)⟩)
   · replace c6 := Bool.eq_false_iff.mpr c6
     subst c6; (have H1 : (some false) = some r := by rw [if_neg (show ¬ (false = true) by decide)] at H; exact H); clear H; have H := H1; clear H1; obtain rfl := Option.some.inj H; go_enter Try.func30, Try.ntmps30
     (go_wp2_with (first | ((with_reducible refine gate_dst (N := 2) rfl ?_); refine box_event ?hg (N := 2) ?hd (cs := #[.slice A0_0 l0_0.length c0_0, .slice A0_1 l0_1.length c0_1]) (t := 42) ?hr ?_; (case hd => rfl); (case hg => rfl); (case hr => first | (go_simp; done) | (go_simp; rfl)); intro q2 hg w12 hbox hb; have n0_ := q0_9 (below_step (qf_9) hb); have n1_ := q0_9 (hbox); have n2_ := q0_9 ((by rw [hg]; exact (below_size (qf_9)) : w.heap.size ≤ q2)); have n3_ := q0_9 ((by rw [hg]; exact (below_size (qf_9)) : w.heap.size ≤ q2)); clear HB; have HB := n0_; have q1 := n1_; have GW210 := n2_; have qj := n3_; clear n0_ n1_ n2_ n3_; clear hb hbox hg) | ((with_reducible refine gate_dst (N := 3) rfl ?_); refine box_event ?hg (N := 3) ?hd (cs := #[.slice A1_0 l1_0.length c1_0, .slice A1_1 l1_1.length c1_1]) (t := 42) ?hr ?_; (case hd => rfl); (case hg => rfl); (case hr => first | (go_simp; done) | (go_simp; rfl)); intro q3 hg w13 hbox hb; have n0_ := q0_9 (bb q1.out hb); have n1_ := q0_9 (below_step (q7_9) hb); have n2_ := q0_9 (hbox); have n3_ := q0_9 ((by rw [hg]; exact (below_size (q7_9)) : w.heap.size ≤ q3)); have n4_ := q0_9 ((by rw [hg]; exact (below_size (q7_9)) : w.heap.size ≤ q3)); have n5_ := q0_9 ((by rw [hg]; exact Nat.ne_of_lt (bl q1.out) : q2 ≠ q3)); have n6_ := q0_9 ((by rw [hg]; exact Nat.ne_of_gt (bl q1.out) : q3 ≠ q2)); clear q1; clear HB; have q1 := n0_; have HB := n1_; have q8 := n2_; have GW211 := n3_; have qk := n4_; have qb := n5_; have qc := n6_; clear n0_ n1_ n2_ n3_ n4_ n5_ n6_; clear hb hbox hg; have hnb14 := qb.out; have hnc14 := qc.out; have hcz15_0 : w13.cell? ⟨q2, 0, none⟩ = some (.slice A0_0 l0_0.length c0_0) := (blk_cell q1.out 0).trans rfl; have hcz15_1 : w13.cell? ⟨q2, 1, none⟩ = some (.slice A0_1 l0_1.length c0_1) := (blk_cell q1.out 1).trans rfl; have hfz15_0 := blk_frozen q1.out 0; have hfz15_1 := blk_frozen q1.out 1; have hcz16_0 : w13.cell? ⟨q3, 0, none⟩ = some (.slice A1_0 l1_0.length c1_0) := (blk_cell q8.out 0).trans rfl; have hcz16_1 : w13.cell? ⟨q3, 1, none⟩ = some (.slice A1_1 l1_1.length c1_1) := (blk_cell q8.out 1).trans rfl; have hfz16_0 := blk_frozen q8.out 0; have hfz16_1 := blk_frozen q8.out 1) | ((with_reducible refine gate_callee (f := 18) rfl ?_); refine goesL_ (some 9) rfl rfl Try.func18 (by kernel_rfl) rfl #[.slice A0_0 l0_0.length c0_0, .slice A1_0 l1_0.length c1_0] rfl ma ?_; (with_reducible refine (laws_eqIntS.calls k _ _ l0_0 _ _ l1_0 true _ ?side1 ?side2 ?side3 ?side4 A3.out).mono ?_); (case side1 => exact ca (Kd.C_below HR0_0.out HB.out)); (case side2 => exact HC0_0.out); (case side3 => exact ca (Kd.C_below HR1_0.out HB.out)); (case side4 => exact HC1_0.out); rintro e w' ⟨rfl, ⟨nd, rfl⟩⟩; refine ⟨_, rfl, ?_⟩) | ((with_reducible refine gate_callee (f := 18) rfl ?_); refine goesL_ (some 15) rfl rfl Try.func18 (by kernel_rfl) rfl #[.slice A0_1 l0_1.length c0_1, .slice A1_1 l1_1.length c1_1] rfl ma ?_; (with_reducible refine (laws_eqIntS.calls k _ _ l0_1 _ _ l1_1 false _ ?side1 ?side2 ?side3 ?side4 A5.out).mono ?_); (case side1 => exact ca (Kd.C_below HR0_1.out (q4_9))); (case side2 => exact HC0_1.out); (case side3 => exact ca (Kd.C_below HR1_1.out (q4_9))); (case side4 => exact HC1_1.out); rintro e w' ⟨rfl, ⟨nd, rfl⟩⟩; refine ⟨_, rfl, ?_⟩)))
     go_ret; (exact ⟨by first | rfl | (simp [errW_none, errW_some] <;> rfl) | (simp [*, errW_none, errW_some] <;> rfl), by exact (q4_9)⟩)
 · replace c4 := Bool.eq_false_iff.mpr c4
   subst c4; (have H1 : (some false) = some r := by rw [if_neg (show ¬ (false = true) by decide)] at H; exact H); clear H; have H := H1; clear H1; obtain rfl := Option.some.inj H; go_enter Try.func30, Try.ntmps30
   (go_wp2_with (first | ((with_reducible refine gate_dst (N := 2) rfl ?_); refine box_event ?hg (N := 2) ?hd (cs := #[.slice A0_0 l0_0.length c0_0, .slice A0_1 l0_1.length c0_1]) (t := 42) ?hr ?_; (case hd => rfl); (case hg => rfl); (case hr => first | (go_simp; done) | (go_simp; rfl)); intro q2 hg w17 hbox hb; have n0_ := q0_9 (below_step (qf_9) hb); have n1_ := q0_9 (hbox); have n2_ := q0_9 ((by rw [hg]; exact (below_size (qf_9)) : w.heap.size ≤ q2)); have n3_ := q0_9 ((by rw [hg]; exact (below_size (qf_9)) : w.heap.size ≤ q2)); clear HB; have HB := n0_; have q1 := n1_; have GW210 := n2_; have qj := n3_; clear n0_ n1_ n2_ n3_; clear hb hbox hg) | ((with_reducible refine gate_dst (N := 3) rfl ?_); refine box_event ?hg (N := 3) ?hd (cs := #[.slice A1_0 l1_0.length c1_0, .slice A1_1 l1_1.length c1_1]) (t := 42) ?hr ?_; (case hd => rfl); (case hg => rfl); (case hr => first | (go_simp; done) | (go_simp; rfl)); intro q3 hg w18 hbox hb; have n0_ := q0_9 (bb q1.out hb); have n1_ := q0_9 (below_step (q7_9) hb); have n2_ := q0_9 (hbox); have n3_ := q0_9 ((by rw [hg]; exact (below_size (q7_9)) : w.heap.size ≤ q3)); have n4_ := q0_9 ((by rw [hg]; exact (below_size (q7_9)) : w.heap.size ≤ q3)); have n5_ := q0_9 ((by rw [hg]; exact Nat.ne_of_lt (bl q1.out) : q2 ≠ q3)); have n6_ := q0_9 ((by rw [hg]; exact Nat.ne_of_gt (bl q1.out) : q3 ≠ q2)); clear q1; clear HB; have q1 := n0_; have HB := n1_; have q8 := n2_; have GW211 := n3_; have qk := n4_; have qb := n5_; have qc := n6_; clear n0_ n1_ n2_ n3_ n4_ n5_ n6_; clear hb hbox hg; have hnb19 := qb.out; have hnc19 := qc.out; have hcz20_0 : w18.cell? ⟨q2, 0, none⟩ = some (.slice A0_0 l0_0.length c0_0) := (blk_cell q1.out 0).trans rfl; have hcz20_1 : w18.cell? ⟨q2, 1, none⟩ = some (.slice A0_1 l0_1.length c0_1) := (blk_cell q1.out 1).trans rfl; have hfz20_0 := blk_frozen q1.out 0; have hfz20_1 := blk_frozen q1.out 1; have hcz21_0 : w18.cell? ⟨q3, 0, none⟩ = some (.slice A1_0 l1_0.length c1_0) := (blk_cell q8.out 0).trans rfl; have hcz21_1 : w18.cell? ⟨q3, 1, none⟩ = some (.slice A1_1 l1_1.length c1_1) := (blk_cell q8.out 1).trans rfl; have hfz21_0 := blk_frozen q8.out 0; have hfz21_1 := blk_frozen q8.out 1) | ((with_reducible refine gate_callee (f := 18) rfl ?_); refine goesL_ (some 9) rfl rfl Try.func18 (by kernel_rfl) rfl #[.slice A0_0 l0_0.length c0_0, .slice A1_0 l1_0.length c1_0] rfl ma ?_; (with_reducible refine (laws_eqIntS.calls k _ _ l0_0 _ _ l1_0 false _ ?side1 ?side2 ?side3 ?side4 A3.out).mono ?_); (case side1 => exact ca (Kd.C_below HR0_0.out HB.out)); (case side2 => exact HC0_0.out); (case side3 => exact ca (Kd.C_below HR1_0.out HB.out)); (case side4 => exact HC1_0.out); rintro e w' ⟨rfl, ⟨nd, rfl⟩⟩; refine ⟨_, rfl, ?_⟩))); go_ret
   (exact ⟨by first | rfl | (simp [errW_none, errW_some] <;> rfl) | (simp [*, errW_none, errW_some] <;> rfl), by exact (q4_9)⟩)
/-! ### laws_markIntS: function 21 -/
def laws_markIntS.l0 : Nat → List Int → Int → Int → Option (Int × List Int)
 | 0, _, _, _ => none
 | k + 1, x0, x1, x5 => if x5 < (x0.length : Int) then (if 0 ≤ x5 then (laws_markIntS.l0 k (x0.set (x5 : Int).toNat x1) (wrap64 (x1 + 1)) (wrap64 (x5 + 1))) else (none)) else (some (x1, x0))
def laws_markIntS.f (k : Nat) (l0 : List Int) (a1 : Int) : Option (Int × List Int) := laws_markIntS.l0 k l0 a1 0
theorem laws_markIntS.mono_l : ∀ k, (∀ y0 y1 y2, LeO (laws_markIntS.l0 k y0 y1 y2) (laws_markIntS.l0 (k + 1) y0 y1 y2))
 | 0 => fun _ _ _ r h => by simp [laws_markIntS.l0] at h
 | k + 1 => by
  have ih0 := laws_markIntS.mono_l k
  · intro y0 y1 y2
    unfold laws_markIntS.l0
    repeat' first
    | (with_reducible exact ih0 _ _ _)
    | (with_reducible exact LeO.refl _)
    | (with_reducible exact LeO.none _)
    | (with_reducible refine LeO.ite ?_ ?_)
    | (with_reducible refine LeO.bind ?_ (fun _ => ?_))
    | exact ih0 _ _ _
    | exact LeO.none _
    | refine LeO.ite ?_ ?_
    | refine LeO.bind ?_ (fun _ => ?_)
theorem laws_markIntS.mono : ∀ a0 a1 k, LeO (laws_markIntS.f k a0 a1) (laws_markIntS.f (k + 1) a0 a1) := by
 intro a0 a1 k; have ih0 := laws_markIntS.mono_l k; unfold laws_markIntS.f
 repeat' first
  | (with_reducible exact ih0 _ _ _)
  | (with_reducible exact LeO.refl _)
  | (with_reducible exact LeO.none _)
  | (with_reducible refine LeO.ite ?_ ?_)
  | (with_reducible refine LeO.bind ?_ (fun _ => ?_))
  | exact ih0 _ _ _
  | exact LeO.none _
  | refine LeO.ite ?_ ?_
  | refine LeO.bind ?_ (fun _ => ?_)
set_option maxHeartbeats 8000000 in
set_option maxRecDepth 100000 in
theorem laws_markIntS.calls (k : Nat) (P0_ : Nat → Prop) (u9000_ : Value) (l0 : List Int) (a1 : Int) (r1 : Int) (r2 : List Int) (w0 w : World) (hB : Below w0.heap.size w0 w) (ho0 : Kd.R (Kd.int .i64) 3 w w0.heap.size P0_ u9000_ l0) (h : laws_markIntS.f k l0 a1 = some (r1, r2)) :
 Calls Try.prog 21 #[u9000_, .int .i64 a1] w fun e w' => e = .returned (.int .i64 r1) ∧ Kd.R (Kd.int .i64) 3 w' w0.heap.size (fun k_ => (P0_ k_ ∨ w.heap.size ≤ k_)) u9000_ r2 ∧ Below w0.heap.size w0 w' ∧ Kept w w' (fun k_ => P0_ k_) := by
 have qr := q0_9 (show Kd.R (Kd.int .i64) 3 w w0.heap.size (fun k_ => (P0_ k_ ∨ w.heap.size ≤ k_)) u9000_ l0 from Kd.R_mono ho0 (fun k_ hk => (.inl hk))); have HK := q0_9 (Kept.refl w (fun k_ => P0_ k_)); have HW0 := q0_9 hB.size; have HB := q0_9 hB; clear hB; (have H : (laws_markIntS.l0 k l0 a1 0) = some (r1, r2) := h); clear h; (have H' := q0_9 H); clear H; go_enter Try.func21, Try.ntmps21; (go_wp2); (go_loopg [1, 5] k (fun kq v1 v5 w' => ∃ (x0_1 : List Int) (x1_1 : Int) (x5_1 : Int), v1 = .int .i64 x1_1 ∧ v5 = .int .i64 x5_1 ∧ Aside0 (laws_markIntS.l0 kq x0_1 x1_1 x5_1 = some (r1, r2)) ∧ Aside0 (kq ≤ k) ∧ Aside0 (Kd.R (Kd.int .i64) 3 w' w0.heap.size (fun k_ => (P0_ k_ ∨ w.heap.size ≤ k_)) u9000_ x0_1) ∧ Aside0 (Kept w w' (fun k_ => P0_ k_)) ∧ Aside0 (Below w0.heap.size w0 w')))
 case atStart => exact ⟨(l0), (a1), (0), (by first | rfl | (simp; done) | (simp [*]; done)), (by first | rfl | (simp; done) | (simp [*]; done)), H', ⟨Nat.le_refl _⟩, ⟨by refine ra ?_; exact qr.out⟩, ⟨by repeat (first | (with_reducible first | exact HK.out | apply Kept.alloc | apply Kept.drewN | apply Kept.drew) | exact HK.out)⟩, ⟨by exact (qf_9)⟩⟩
 case round =>
  clear H'; (try clear c2); (try clear p2); obtain ⟨x0_1, x1_1, x5_1, rfl, rfl, HA, HK1, qe, HK, HB⟩ := hrel
  cases gk with
  | zero => exact absurd HA.out (by simp [laws_markIntS.l0])
  | succ k1 =>
   have H := HA.out; clear HA; (simp only [laws_markIntS.l0] at H)
   by_cases c3 : x5_1 < (x0_1.length : Int)
   · rw [if_pos c3] at H
     (have c3b0 : decide (x5_1 < (x0_1.length : Int)) = true := decide_eq_true c3); clear c3
     by_cases c4 : 0 ≤ x5_1
     · rw [if_pos c4] at H
       (have c4b0 : decide (0 ≤ x5_1) = true := decide_eq_true c4); clear c4; obtain ⟨y214, hy214⟩ : ∃ y_ : List Int, y_ = (x0_1.set (x5_1 : Int).toNat x1_1) := ⟨_, rfl⟩; (replace H : (laws_markIntS.l0 k1 y214 (wrap64 (x1_1 + 1)) (wrap64 (x5_1 + 1))) = some (r1, r2) := by first | (rw [hy214]; with_reducible exact H) | (have H2_ := (Option.bind_some _ _).symm.trans H; rw [hy214]; with_reducible exact H2_) | (have H2_ := (Option.bind_some _ _).symm.trans H; with_reducible exact H2_) | with_reducible exact H | (rw [hy214]; exact H) | exact H); have Ny214 := q0_9 hy214; clear hy214; (have H' := q0_9 H); clear H; obtain ⟨ql, qi, eo6⟩ := Kd.R_slice qe.out; subst eo6; (have p5 : 0 ≤ (x5_1 : Int) := of_decide_eq_true (by first | (with_reducible assumption) | assumption)); (have q5 : (x5_1 : Int) < ((x0_1.length : Int) : Int) := of_decide_eq_true (by first | (with_reducible assumption) | assumption)); obtain ⟨go5, qm, eo5, qp, gl5, cl5, HG5⟩ := Kd.R_form qe.out (by omega); ((first | cases eo5 | (injection eo5 with ea_ en_ ec_; (first | subst ea_ | (injection ea_ with ea_; subst ea_)); subst ec_; clear en_))); have GB5 := q0_9 qp; have GG5 := q0_9 HG5; clear qp gl5 HG5; have HMgo5 := q0_9 (show (P0_ go5 ∨ w.heap.size ≤ go5) from (qe.out.1 _ rfl)); obtain ⟨hx5_0, hf5_0⟩ := Kd.R_celln 0 qe.out (x5_1 : Int) p5 q5; replace p5 := eq_true p5; replace q5 := eq_true q5; have HP7 := Kd.R_putg qe.out (x5_1 : Int) x1_1; (go_wp2_with (first | ((with_reducible refine gate_store (t := 3) (p := 15) rfl ?_); refine store_event (t := 3) (p := 15) (v := ?vo_w8) (w1 := (wr.setCell ⟨go5, (x5_1 : Int).toNat, none⟩ (.int .i64 x1_1))) ?hg ?ho ?hn ?hr ?_; (case ho => rfl); (case hg => rfl); (case hn => rfl); (case hr => first | (go_simp; done) | (go_simp; rfl)); intro w8 hw; have hg : wr.grownBy w8 (some go5) := (by rw [hw]; exact HP7.2); have hp_ : Kd.R (Kd.int .i64) 3 w8 w0.heap.size (fun k_ => (P0_ k_ ∨ w.heap.size ≤ k_)) (.slice (some ⟨go5, 0, none⟩) x0_1.length qi) y214 := (by rw [hw, Ny214.out]; exact HP7.1); clear HP7; have n0_ := q0_9 (hp_); have n1_ := q0_9 ((by rw [hw]; exact below_set (HB.out) GB5.out : Below w0.heap.size w0 w8)); have n2_ := q0_9 (Kept.of_grown (S := (fun k_ => P0_ k_)) hg (by repeat (first | (with_reducible first | exact HK.out | apply Kept.alloc | apply Kept.drewN | apply Kept.drew) | exact HK.out)) (fun k_ e_ => (qe.out.1 k_ e_))); clear qe; clear HB; clear HK; have qe := n0_; have HB := n1_; have HK := n2_; clear n0_ n1_ n2_; clear hg hw hp_))); (go_roundg k1)
       case measure => have := HK1.out; omega
       case rel => exact ⟨(y214), (wrap64 (x1_1 + 1)), (wrap64 (x5_1 + 1)), (by first | rfl | (simp; done) | (simp [*]; done)), (by first | rfl | (simp; done) | (simp [*]; done)), H', ⟨by have := HK1.out; omega⟩, ⟨by refine ra ?_; exact qe.out⟩, ⟨by repeat (first | (with_reducible first | exact HK.out | apply Kept.alloc | apply Kept.drewN | apply Kept.drew) | exact HK.out)⟩, ⟨by exact (qf_9)⟩⟩
     · rw [if_neg c4] at H
       exact absurd H (by simp)
   · rw [if_neg c3] at H
     (have c3b0 : decide (x5_1 < (x0_1.length : Int)) = false := decide_eq_false c3); clear c3; (simp only [Option.some.injEq, Prod.mk.injEq] at H); obtain ⟨rfl, rfl⟩ := H; obtain ⟨qs, qt, eo9⟩ := Kd.R_slice qe.out; subst eo9; (go_wp2); go_ret; (exact ⟨by first | rfl | (simp [errW_none, errW_some] <;> rfl) | (simp [*, errW_none, errW_some] <;> rfl), by refine ra ?_; exact qe.out, by exact (qf_9), by repeat (first | (with_reducible first | exact HK.out | apply Kept.alloc | apply Kept.drewN | apply Kept.drew) | exact HK.out)⟩)
/-! ### laws_markCue: function 31 -/
def laws_markCue.f (k : Nat) (l0_0 : List Int) (l0_1 : List Int) (a1 : Int) : Option (Int × List Int × List Int) := (laws_markIntS.f k l0_0 a1).bind fun bt216 => ((laws_markIntS.f k l0_1 bt216.1).bind fun bt218 => (some (bt218.1, bt216.2, bt218.2)))
theorem laws_markCue.mono : ∀ a0 a1 a2 k, LeO (laws_markCue.f k a0 a1 a2) (laws_markCue.f (k + 1) a0 a1 a2) := by
 intro a0 a1 a2 k; unfold laws_markCue.f
 repeat' first
  | (with_reducible exact laws_markIntS.mono _ _ _)
  | (with_reducible exact LeO.refl _)
  | (with_reducible exact LeO.none _)
  | (with_reducible refine LeO.ite ?_ ?_)
  | (with_reducible refine LeO.bind ?_ (fun _ => ?_))
  | exact laws_markIntS.mono _ _ _
  | exact LeO.none _
  | refine LeO.ite ?_ ?_
  | refine LeO.bind ?_ (fun _ => ?_)
set_option maxHeartbeats 8000000 in
set_option maxRecDepth 100000 in
theorem laws_markCue.calls (k : Nat) (P0_0_ : Nat → Prop) (u9000_ : Value) (l0_0 : List Int) (P0_1_ : Nat → Prop) (u9001_ : Value) (l0_1 : List Int) (a1 : Int) (r1 : Int) (r2 : List Int) (r3 : List Int) (w0 w : World) (hB : Below w0.heap.size w0 w) (ho0_0 : Kd.R (Kd.int .i64) 3 w w0.heap.size P0_0_ u9000_ l0_0) (hp0_0_0_1 : ∀ k_, P0_0_ k_ → ¬ P0_1_ k_) (ho0_1 : Kd.R (Kd.int .i64) 3 w w0.heap.size P0_1_ u9001_ l0_1) (hp0_1_0_0 : ∀ k_, P0_1_ k_ → ¬ P0_0_ k_) (h : laws_markCue.f k l0_0 l0_1 a1 = some (r1, r2, r3)) :
 Calls Try.prog 31 #[.agg #[u9000_, u9001_], .int .i64 a1] w fun e w' => e = .returned (.int .i64 r1) ∧ Kd.R (Kd.int .i64) 3 w' w0.heap.size (fun k_ => ((P0_0_ k_ ∨ P0_1_ k_) ∨ w.heap.size ≤ k_)) u9000_ r2 ∧ Kd.R (Kd.int .i64) 3 w' w0.heap.size (fun k_ => ((P0_0_ k_ ∨ P0_1_ k_) ∨ w.heap.size ≤ k_)) u9001_ r3 ∧ Below w0.heap.size w0 w' ∧ Kept w w' (fun k_ => P0_0_ k_ ∨ P0_1_ k_) := by
 have hu42 := Try.underlying42; have HO0_0 := q0_9 (show Kd.R (Kd.int .i64) 3 w w0.heap.size (fun k_ => ((P0_0_ k_ ∨ P0_1_ k_) ∨ w.heap.size ≤ k_) ∧ some k_ ≠ (u9001_ : Value).ownBlock) u9000_ l0_0 from Kd.R_mono ho0_0 (fun k_ hk => ⟨(.inl (.inl hk)), fun e_ => hp0_0_0_1 k_ hk (ho0_1.1 k_ e_.symm)⟩)); have HO0_1 := q0_9 (show Kd.R (Kd.int .i64) 3 w w0.heap.size (fun k_ => ((P0_0_ k_ ∨ P0_1_ k_) ∨ w.heap.size ≤ k_) ∧ some k_ ≠ (u9000_ : Value).ownBlock) u9001_ l0_1 from Kd.R_mono ho0_1 (fun k_ hk => ⟨(.inl (.inr hk)), fun e_ => hp0_1_0_0 k_ hk (ho0_0.1 k_ e_.symm)⟩)); have HK := q0_9 (Kept.refl w (fun k_ => P0_0_ k_ ∨ P0_1_ k_)); have HW0 := q0_9 hB.size; have HB := q0_9 hB; clear hB; (have H : ((laws_markIntS.f k l0_0 a1).bind fun bt216 => ((laws_markIntS.f k l0_1 bt216.1).bind fun bt218 => (some (bt218.1, bt216.2, bt218.2)))) = some (r1, r2, r3) := h); clear h; replace H := Option.bind_eq_some_iff.mp H; obtain ⟨⟨t216, t217⟩, A30, H⟩ := H; replace H : ((laws_markIntS.f k l0_1 t216).bind fun bt218 => (some (bt218.1, t217, bt218.2))) = some (r1, r2, r3) := H; have A3 := q0_9 A30; clear A30; replace H := Option.bind_eq_some_iff.mp H; obtain ⟨⟨t218, t219⟩, A40, H⟩ := H; replace H : (some (t218, t217, t219)) = some (r1, r2, r3) := H; have A4 := q0_9 A40; clear A40; (simp only [Option.some.injEq, Prod.mk.injEq] at H); obtain ⟨rfl, rfl, rfl⟩ := H; obtain ⟨qo, qm, eo5⟩ := Kd.R_slice HO0_0.out; subst eo5; obtain ⟨ql, qi, eo6⟩ := Kd.R_slice HO0_1.out; subst eo6; go_enter Try.func31, Try.ntmps31
 (go_wp2_with (first | ((with_reducible refine gate_dst (N := 2) rfl ?_); refine box_event ?hg (N := 2) ?hd (cs := #[.slice qo l0_0.length qm, .slice ql l0_1.length qi]) (t := 42) ?hr ?_; (case hd => rfl); (case hg => rfl); (case hr => first | (go_simp; done) | (go_simp; rfl)); intro qg hg w7 hbox hb; have n0_ := q0_9 (Kd.R_below (ra HO0_0.out) hb); have n1_ := q0_9 (Kd.R_below (ra HO0_1.out) hb); have n2_ := q0_9 (Kept.below (S := (fun k_ => P0_0_ k_ ∨ P0_1_ k_)) (by repeat (first | (with_reducible first | exact HK.out | apply Kept.alloc | apply Kept.drewN | apply Kept.drew) | exact HK.out)) hb); have n3_ := q0_9 (below_step (qf_9) hb); have n4_ := q0_9 (hbox); have n5_ := q0_9 ((by rw [hg]; exact (by first | exact HK.out.1 | exact (show Kept w _ (fun k_ => P0_0_ k_ ∨ P0_1_ k_) from by repeat (first | (with_reducible first | exact HK.out | apply Kept.alloc | apply Kept.drewN | apply Kept.drew) | exact HK.out)).1) : w.heap.size ≤ qg)); have n6_ := q0_9 ((by rw [hg]; exact (below_size (qf_9)) : w0.heap.size ≤ qg)); clear HO0_0; clear HO0_1; clear HK; clear HB; have HO0_0 := n0_; have HO0_1 := n1_; have HK := n2_; have HB := n3_; have q6 := n4_; have GW215 := n5_; have qq := n6_; clear n0_ n1_ n2_ n3_ n4_ n5_ n6_; clear hb hbox hg; have hcz8_0 : w7.cell? ⟨qg, 0, none⟩ = some (.slice qo l0_0.length qm) := (blk_cell q6.out 0).trans rfl; have hcz8_1 : w7.cell? ⟨qg, 1, none⟩ = some (.slice ql l0_1.length qi) := (blk_cell q6.out 1).trans rfl; have hfz8_0 := blk_frozen q6.out 0; have hfz8_1 := blk_frozen q6.out 1) | ((with_reducible refine gate_callee (f := 21) rfl ?_); refine goesL_ (some 8) rfl rfl Try.func21 (by kernel_rfl) rfl #[.slice qo l0_0.length qm, .int .i64 a1] rfl ma ?_; (with_reducible refine (laws_markIntS.calls k (fun k_ => some k_ = (.slice qo l0_0.length qm : Value).ownBlock) (.slice qo l0_0.length qm) l0_0 a1 t216 t217 w0 _ ?side1 ?side2 A3.out).mono ?_); (case side1 => exact (qh_9)); (case side2 => exact Kd.R_tight rfl HO0_0.out); rintro e w9 ⟨rfl, hy0, hb, hkp⟩; refine ⟨_, rfl, ?_⟩; have n0_ := q0_9 (Kd.R_reok rfl hy0 (fun k_ e_ => HO0_0.out.1 k_ e_)); have n1_ := q0_9 (Kd.R_mono (ok' := fun k_ => ((P0_0_ k_ ∨ P0_1_ k_) ∨ w.heap.size ≤ k_) ∧ some k_ ≠ (.slice qo l0_0.length qm : Value).ownBlock) (Kd.R_keptB (HO0_1.out) hkp (fun k_ hk_ hs_ => absurd hs_ (pq hk_))) pk); have n2_ := q0_9 (blk_kept (ba q6.out) hkp (fun hs_ => (fun e_ => (Kd.R_ne HO0_0.out q6.out (by decide)) e_) hs_)); have n3_ := q0_9 (Kept.then_ (S := (fun k_ => P0_0_ k_ ∨ P0_1_ k_)) (by repeat (first | (with_reducible first | exact HK.out | apply Kept.alloc | apply Kept.drewN | apply Kept.drew | refine Kept.setCell ?_ (.inr GW215.out) _) | exact HK.out)) hkp (fun k_ hs_ => (fun e_ => (HO0_0.out.1 k_ e_.symm).1) hs_)); have n4_ := q0_9 (hb); clear HO0_0; clear HO0_1; clear q6; clear HK; clear HB; have HO0_0 := n0_; have HO0_1 := n1_; have q6 := n2_; have HK := n3_; have HB := n4_; clear n0_ n1_ n2_ n3_ n4_; (try clear hb); (try clear hkp); (try clear hy0); have hcz10_0 : w9.cell? ⟨qg, 0, none⟩ = some (.slice qo l0_0.length qm) := (blk_cell q6.out 0).trans rfl; have hcz10_1 : w9.cell? ⟨qg, 1, none⟩ = some (.slice ql l0_1.length qi) := (blk_cell q6.out 1).trans rfl; have hfz10_0 := blk_frozen q6.out 0; have hfz10_1 := blk_frozen q6.out 1) | ((with_reducible refine gate_callee (f := 21) rfl ?_); refine goesL_ (some 12) rfl rfl Try.func21 (by kernel_rfl) rfl #[.slice ql l0_1.length qi, .int .i64 t216] rfl ma ?_; (with_reducible refine (laws_markIntS.calls k (fun k_ => some k_ = (.slice ql l0_1.length qi : Value).ownBlock) (.slice ql l0_1.length qi) l0_1 t216 t218 t219 w0 _ ?side1 ?side2 A4.out).mono ?_); (case side1 => exact (qh_9)); (case side2 => exact Kd.R_tight rfl HO0_1.out); rintro e w11 ⟨rfl, hy0, hb, hkp⟩; refine ⟨_, rfl, ?_⟩; have n0_ := q0_9 (Kd.R_mono (ok' := fun k_ => ((P0_0_ k_ ∨ P0_1_ k_) ∨ w.heap.size ≤ k_) ∧ some k_ ≠ (.slice ql l0_1.length qi : Value).ownBlock) (Kd.R_keptB (HO0_0.out) hkp (fun k_ hk_ hs_ => absurd hs_ (pq hk_))) pk); have n1_ := q0_9 (Kd.R_reok rfl hy0 (fun k_ e_ => HO0_1.out.1 k_ e_)); have n2_ := q0_9 (blk_kept (ba q6.out) hkp (fun hs_ => (fun e_ => (Kd.R_ne HO0_1.out q6.out (by decide)) e_) hs_)); have n3_ := q0_9 (Kept.then_ (S := (fun k_ => P0_0_ k_ ∨ P0_1_ k_)) (by repeat (first | (with_reducible first | exact HK.out | apply Kept.alloc | apply Kept.drewN | apply Kept.drew | refine Kept.setCell ?_ (.inr GW215.out) _) | exact HK.out)) hkp (fun k_ hs_ => (fun e_ => (HO0_1.out.1 k_ e_.symm).1) hs_)); have n4_ := q0_9 (hb); clear HO0_0; clear HO0_1; clear q6; clear HK; clear HB; have HO0_0 := n0_; have HO0_1 := n1_; have q6 := n2_; have HK := n3_; have HB := n4_; clear n0_ n1_ n2_ n3_ n4_; (try clear hb); (try clear hkp); (try clear hy0))))
 go_ret; (exact ⟨by first | rfl | (simp [errW_none, errW_some] <;> rfl) | (simp [*, errW_none, errW_some] <;> rfl), by refine ra ?_; exact Kd.R_mono HO0_0.out (fun _ hk => hk.1), by refine ra ?_; exact Kd.R_mono HO0_1.out (fun _ hk => hk.1), by exact (qh_9), by repeat (first | (with_reducible first | exact HK.out | apply Kept.alloc | apply Kept.drewN | apply Kept.drew | refine Kept.setCell ?_ (.inr GW215.out) _) | exact HK.out)⟩)
/-! ### laws_heldIntS: function 22 -/
def laws_heldIntS.l0 : Nat → List Int → Int → Int → Option (Int)
 | 0, _, _, _ => none
 | k + 1, x0, x1, x5 => if x5 < (x0.length : Int) then (if 0 ≤ x5 then (if (rd x0 x5) = x1 then (laws_heldIntS.l0 k x0 (wrap64 (x1 + 1)) (wrap64 (x5 + 1))) else (some (-1))) else (none)) else (some x1)
def laws_heldIntS.f (k : Nat) (l0 : List Int) (a1 : Int) : Option (Int) := laws_heldIntS.l0 k l0 a1 0
theorem laws_heldIntS.mono_l : ∀ k, (∀ y0 y1 y2, LeO (laws_heldIntS.l0 k y0 y1 y2) (laws_heldIntS.l0 (k + 1) y0 y1 y2))
 | 0 => fun _ _ _ r h => by simp [laws_heldIntS.l0] at h
 | k + 1 => by
  have ih0 := laws_heldIntS.mono_l k
  · intro y0 y1 y2
    unfold laws_heldIntS.l0
    repeat' first
    | (with_reducible exact ih0 _ _ _)
    | (with_reducible exact LeO.refl _)
    | (with_reducible exact LeO.none _)
    | (with_reducible refine LeO.ite ?_ ?_)
    | (with_reducible refine LeO.bind ?_ (fun _ => ?_))
    | exact ih0 _ _ _
    | exact LeO.none _
    | refine LeO.ite ?_ ?_
    | refine LeO.bind ?_ (fun _ => ?_)
theorem laws_heldIntS.mono : ∀ a0 a1 k, LeO (laws_heldIntS.f k a0 a1) (laws_heldIntS.f (k + 1) a0 a1) := by
 intro a0 a1 k; have ih0 := laws_heldIntS.mono_l k; unfold laws_heldIntS.f
 repeat' first
  | (with_reducible exact ih0 _ _ _)
  | (with_reducible exact LeO.refl _)
  | (with_reducible exact LeO.none _)
  | (with_reducible refine LeO.ite ?_ ?_)
  | (with_reducible refine LeO.bind ?_ (fun _ => ?_))
  | exact ih0 _ _ _
  | exact LeO.none _
  | refine LeO.ite ?_ ?_
  | refine LeO.bind ?_ (fun _ => ?_)
set_option maxHeartbeats 8000000 in
set_option maxRecDepth 100000 in
theorem laws_heldIntS.calls (k : Nat) (A0 : Option Addr) (c0 : Nat) (l0 : List Int) (a1 : Int) (r : Int) (w : World) (hr0 : Kd.C (Kd.int .i64) w A0 l0.length l0) (hc0 : l0.length ≤ c0) (h : laws_heldIntS.f k l0 a1 = some r) :
 Calls Try.prog 22 #[.slice A0 l0.length c0, .int .i64 a1] w fun e w' => e = .returned (.int .i64 r) ∧ Drawn0 w w' := by
 have HR0 := q0_9 hr0; have HC0 := q0_9 hc0; clear hr0 hc0; (have H : (laws_heldIntS.l0 k l0 a1 0) = some r := h); clear h; (have H' := q0_9 H); clear H; go_enter Try.func22, Try.ntmps22; (go_wp2); (go_loopg [1, 5] k (fun kq v1 v5 w' => ∃ (x1_1 : Int) (x5_1 : Int), v1 = .int .i64 x1_1 ∧ v5 = .int .i64 x5_1 ∧ Aside0 (laws_heldIntS.l0 kq l0 x1_1 x5_1 = some r) ∧ Aside0 (kq ≤ k) ∧ Drawn0 w w'))
 case atStart => exact ⟨(a1), (0), (by first | rfl | (simp; done) | (simp [*]; done)), (by first | rfl | (simp; done) | (simp [*]; done)), H', ⟨Nat.le_refl _⟩, by repeat (first | exact Drawn0.refl _ | apply Drawn0.step)⟩
 case round =>
  clear H'; (try clear c2); (try clear p2); obtain ⟨x1_1, x5_1, rfl, rfl, HA, HK1, ⟨m1, rfl⟩⟩ := hrel
  cases gk with
  | zero => exact absurd HA.out (by simp [laws_heldIntS.l0])
  | succ k1 =>
   have H := HA.out; clear HA; (simp only [laws_heldIntS.l0] at H)
   by_cases c3 : x5_1 < (l0.length : Int)
   · rw [if_pos c3] at H
     (have c3b0 : decide (x5_1 < (l0.length : Int)) = true := decide_eq_true c3); clear c3
     by_cases c4 : 0 ≤ x5_1
     · rw [if_pos c4] at H
       (have c4b0 : decide (0 ≤ x5_1) = true := decide_eq_true c4); clear c4
       by_cases c5 : (rd l0 x5_1) = x1_1
       · rw [if_pos c5] at H
         (have c5b0 : ((rd l0 x5_1) == x1_1) = true := beq_iff_eq.mpr c5); (have c5b1 : ((rd l0 x5_1) != x1_1) = false := bne_eq_false_iff_eq.mpr c5); clear c5; (have H' := q0_9 H); clear H; (have p220 : 0 ≤ (x5_1 : Int) := of_decide_eq_true (by first | (with_reducible assumption) | assumption)); (have q220 : x5_1 < (l0.length : Int) := of_decide_eq_true (by first | (with_reducible assumption) | assumption)); obtain ⟨ad220, e220, hx220_0⟩ := Kd.at_int HR0.out x5_1 p220 q220
         cases e220
         replace p220 := eq_true p220; replace q220 := eq_true q220; (go_wp2); (go_roundg k1)
         case measure => have := HK1.out; omega
         case rel => exact ⟨(wrap64 (x1_1 + 1)), (wrap64 (x5_1 + 1)), (by first | rfl | (simp; done) | (simp [*]; done)), (by first | rfl | (simp; done) | (simp [*]; done)), H', ⟨by have := HK1.out; omega⟩, by repeat (first | exact Drawn0.refl _ | apply Drawn0.step)⟩
       · rw [if_neg c5] at H
         (have c5b0 : ((rd l0 x5_1) == x1_1) = false := beq_eq_false_iff_ne.mpr c5); (have c5b1 : ((rd l0 x5_1) != x1_1) = true := bne_iff_ne.mpr c5); obtain rfl := Option.some.inj H; (have p220 : 0 ≤ (x5_1 : Int) := of_decide_eq_true (by first | (with_reducible assumption) | assumption)); (have q220 : x5_1 < (l0.length : Int) := of_decide_eq_true (by first | (with_reducible assumption) | assumption)); obtain ⟨ad220, e220, hx220_0⟩ := Kd.at_int HR0.out x5_1 p220 q220
         cases e220
         replace p220 := eq_true p220; replace q220 := eq_true q220; (go_wp2); go_ret; exact ⟨by first | rfl | (simp; done) | (simp [*]; done), by repeat (first | exact Drawn0.refl _ | apply Drawn0.step)⟩
     · rw [if_neg c4] at H
       exact absurd H (by simp)
   · rw [if_neg c3] at H
     (have c3b0 : decide (x5_1 < (l0.length : Int)) = false := decide_eq_false c3); clear c3; obtain rfl := Option.some.inj H; (go_wp2); go_ret; exact ⟨by first | rfl | (simp; done) | (simp [*]; done), by repeat (first | exact Drawn0.refl _ | apply Drawn0.step)⟩
/-! ### laws_heldCue: function 32 -/
def laws_heldCue.f (k : Nat) (l0_0 : List Int) (l0_1 : List Int) (a1 : Int) : Option (Int) := (laws_heldIntS.f k l0_0 a1).bind fun t222 => (if t222 < 0 then (some (-1)) else ((laws_heldIntS.f k l0_1 t222).bind fun t223 => (if t223 < 0 then (some (-1)) else (some t223))))
theorem laws_heldCue.mono : ∀ a0 a1 a2 k, LeO (laws_heldCue.f k a0 a1 a2) (laws_heldCue.f (k + 1) a0 a1 a2) := by
 intro a0 a1 a2 k; unfold laws_heldCue.f
 repeat' first
  | (with_reducible exact laws_heldIntS.mono _ _ _)
  | (with_reducible exact LeO.refl _)
  | (with_reducible exact LeO.none _)
  | (with_reducible refine LeO.ite ?_ ?_)
  | (with_reducible refine LeO.bind ?_ (fun _ => ?_))
  | exact laws_heldIntS.mono _ _ _
  | exact LeO.none _
  | refine LeO.ite ?_ ?_
  | refine LeO.bind ?_ (fun _ => ?_)
set_option maxHeartbeats 8000000 in
set_option maxRecDepth 100000 in
theorem laws_heldCue.calls (k : Nat) (A0_0 : Option Addr) (c0_0 : Nat) (l0_0 : List Int) (A0_1 : Option Addr) (c0_1 : Nat) (l0_1 : List Int) (a1 : Int) (r : Int) (w : World) (hr0_0 : Kd.C (Kd.int .i64) w A0_0 l0_0.length l0_0) (hc0_0 : l0_0.length ≤ c0_0) (hr0_1 : Kd.C (Kd.int .i64) w A0_1 l0_1.length l0_1) (hc0_1 : l0_1.length ≤ c0_1) (h : laws_heldCue.f k l0_0 l0_1 a1 = some r) :
 Calls Try.prog 32 #[.agg #[.slice A0_0 l0_0.length c0_0, .slice A0_1 l0_1.length c0_1], .int .i64 a1] w fun e w' => e = .returned (.int .i64 r) ∧ Below w.heap.size w w' := by
 have hu42 := Try.underlying42; have HR0_0 := q0_9 hr0_0; have HC0_0 := q0_9 hc0_0; clear hr0_0 hc0_0; have HR0_1 := q0_9 hr0_1; have HC0_1 := q0_9 hc0_1; clear hr0_1 hc0_1; have HB := q0_9 (Below.refl w.heap.size w); (have H : ((laws_heldIntS.f k l0_0 a1).bind fun t222 => (if t222 < 0 then (some (-1)) else ((laws_heldIntS.f k l0_1 t222).bind fun t223 => (if t223 < 0 then (some (-1)) else (some t223))))) = some r := h); clear h; replace H := Option.bind_eq_some_iff.mp H; obtain ⟨t222, A30, H⟩ := H; replace H : (if t222 < 0 then (some (-1)) else ((laws_heldIntS.f k l0_1 t222).bind fun t223 => (if t223 < 0 then (some (-1)) else (some t223)))) = some r := H; have A3 := q0_9 A30; clear A30
 by_cases c4 : t222 < 0
 · rw [if_pos c4] at H
   (have c4b0 : decide (t222 < 0) = true := decide_eq_true c4); clear c4; obtain rfl := Option.some.inj H; go_enter Try.func32, Try.ntmps32; (go_wp2_with (first | ((with_reducible refine gate_dst (N := 2) rfl ?_); refine box_event ?hg (N := 2) ?hd (cs := #[.slice A0_0 l0_0.length c0_0, .slice A0_1 l0_1.length c0_1]) (t := 42) ?hr ?_; (case hd => rfl); (case hg => rfl); (case hr => first | (go_simp; done) | (go_simp; rfl)); intro q9 hg w5 hbox hb; have n0_ := q0_9 (below_step (qf_9) hb); have n1_ := q0_9 (hbox); have n2_ := q0_9 ((by rw [hg]; exact (below_size (qf_9)) : w.heap.size ≤ q9)); have n3_ := q0_9 ((by rw [hg]; exact (below_size (qf_9)) : w.heap.size ≤ q9)); clear HB; have HB := n0_; have qa := n1_; have GW221 := n2_; have qn := n3_; clear n0_ n1_ n2_ n3_; clear hb hbox hg; have hcz6_0 : w5.cell? ⟨q9, 0, none⟩ = some (.slice A0_0 l0_0.length c0_0) := (blk_cell qa.out 0).trans rfl; have hcz6_1 : w5.cell? ⟨q9, 1, none⟩ = some (.slice A0_1 l0_1.length c0_1) := (blk_cell qa.out 1).trans rfl; have hfz6_0 := blk_frozen qa.out 0; have hfz6_1 := blk_frozen qa.out 1) | ((with_reducible refine gate_callee (f := 22) rfl ?_); refine goesL_ (some 8) rfl rfl Try.func22 (by kernel_rfl) rfl #[.slice A0_0 l0_0.length c0_0, .int .i64 a1] rfl ma ?_; (with_reducible refine (laws_heldIntS.calls k _ _ l0_0 a1 t222 _ ?side1 ?side2 A3.out).mono ?_); (case side1 => exact ca (Kd.C_below HR0_0.out HB.out)); (case side2 => exact HC0_0.out); rintro e w' ⟨rfl, ⟨nd, rfl⟩⟩; refine ⟨_, rfl, ?_⟩))); go_ret; (exact ⟨by first | rfl | (simp [errW_none, errW_some] <;> rfl) | (simp [*, errW_none, errW_some] <;> rfl), by exact (qd_9)⟩)
 · rw [if_neg c4] at H
   (have c4b0 : decide (t222 < 0) = false := decide_eq_false c4); clear c4; replace H := Option.bind_eq_some_iff.mp H; obtain ⟨t223, A70, H⟩ := H; replace H : (if t223 < 0 then (some (-1)) else (some t223)) = some r := H; have A7 := q0_9 A70; clear A70
   by_cases c8 : t223 < 0
   · rw [if_pos c8] at H
     (have c8b0 : decide (t223 < 0) = true := decide_eq_true c8); clear c8; obtain rfl := Option.some.inj H; go_enter Try.func32, Try.ntmps32; (go_wp2_with (first | ((with_reducible refine gate_dst (N := 2) rfl ?_); refine box_event ?hg (N := 2) ?hd (cs := #[.slice A0_0 l0_0.length c0_0, .slice A0_1 l0_1.length c0_1]) (t := 42) ?hr ?_; (case hd => rfl); (case hg => rfl); (case hr => first | (go_simp; done) | (go_simp; rfl)); intro q9 hg w9 hbox hb; have n0_ := q0_9 (below_step (qf_9) hb); have n1_ := q0_9 (hbox); have n2_ := q0_9 ((by rw [hg]; exact (below_size (qf_9)) : w.heap.size ≤ q9)); have n3_ := q0_9 ((by rw [hg]; exact (below_size (qf_9)) : w.heap.size ≤ q9)); clear HB; have HB := n0_; have qa := n1_; have GW221 := n2_; have qn := n3_; clear n0_ n1_ n2_ n3_; clear hb hbox hg; have hcz10_0 : w9.cell? ⟨q9, 0, none⟩ = some (.slice A0_0 l0_0.length c0_0) := (blk_cell qa.out 0).trans rfl; have hcz10_1 : w9.cell? ⟨q9, 1, none⟩ = some (.slice A0_1 l0_1.length c0_1) := (blk_cell qa.out 1).trans rfl; have hfz10_0 := blk_frozen qa.out 0; have hfz10_1 := blk_frozen qa.out 1) | ((with_reducible refine gate_callee (f := 22) rfl ?_); refine goesL_ (some 8) rfl rfl Try.func22 (by kernel_rfl) rfl #[.slice A0_0 l0_0.length c0_0, .int .i64 a1] rfl ma ?_; (with_reducible refine (laws_heldIntS.calls k _ _ l0_0 a1 t222 _ ?side1 ?side2 A3.out).mono ?_); (case side1 => exact ca (Kd.C_below HR0_0.out HB.out)); (case side2 => exact HC0_0.out); rintro e w' ⟨rfl, ⟨nd, rfl⟩⟩; refine ⟨_, rfl, ?_⟩) | ((with_reducible refine gate_callee (f := 22) rfl ?_); refine goesL_ (some 14) rfl rfl Try.func22 (by kernel_rfl) rfl #[.slice A0_1 l0_1.length c0_1, .int .i64 t222] rfl ma ?_; (with_reducible refine (laws_heldIntS.calls k _ _ l0_1 t222 t223 _ ?side1 ?side2 A7.out).mono ?_); (case side1 => exact ca (Kd.C_below HR0_1.out (qd_9))); (case side2 => exact HC0_1.out); rintro e w' ⟨rfl, ⟨nd, rfl⟩⟩; refine ⟨_, rfl, ?_⟩))); go_ret; (exact ⟨by first | rfl | (simp [errW_none, errW_some] <;> rfl) | (simp [*, errW_none, errW_some] <;> rfl), by exact (qd_9)⟩)
   · rw [if_neg c8] at H
     (have c8b0 : decide (t223 < 0) = false := decide_eq_false c8); clear c8; obtain rfl := Option.some.inj H; go_enter Try.func32, Try.ntmps32; (go_wp2_with (first | ((with_reducible refine gate_dst (N := 2) rfl ?_); refine box_event ?hg (N := 2) ?hd (cs := #[.slice A0_0 l0_0.length c0_0, .slice A0_1 l0_1.length c0_1]) (t := 42) ?hr ?_; (case hd => rfl); (case hg => rfl); (case hr => first | (go_simp; done) | (go_simp; rfl)); intro q9 hg w11 hbox hb; have n0_ := q0_9 (below_step (qf_9) hb); have n1_ := q0_9 (hbox); have n2_ := q0_9 ((by rw [hg]; exact (below_size (qf_9)) : w.heap.size ≤ q9)); have n3_ := q0_9 ((by rw [hg]; exact (below_size (qf_9)) : w.heap.size ≤ q9)); clear HB; have HB := n0_; have qa := n1_; have GW221 := n2_; have qn := n3_; clear n0_ n1_ n2_ n3_; clear hb hbox hg; have hcz12_0 : w11.cell? ⟨q9, 0, none⟩ = some (.slice A0_0 l0_0.length c0_0) := (blk_cell qa.out 0).trans rfl; have hcz12_1 : w11.cell? ⟨q9, 1, none⟩ = some (.slice A0_1 l0_1.length c0_1) := (blk_cell qa.out 1).trans rfl; have hfz12_0 := blk_frozen qa.out 0; have hfz12_1 := blk_frozen qa.out 1) | ((with_reducible refine gate_callee (f := 22) rfl ?_); refine goesL_ (some 8) rfl rfl Try.func22 (by kernel_rfl) rfl #[.slice A0_0 l0_0.length c0_0, .int .i64 a1] rfl ma ?_; (with_reducible refine (laws_heldIntS.calls k _ _ l0_0 a1 t222 _ ?side1 ?side2 A3.out).mono ?_); (case side1 => exact ca (Kd.C_below HR0_0.out HB.out)); (case side2 => exact HC0_0.out); rintro e w' ⟨rfl, ⟨nd, rfl⟩⟩; refine ⟨_, rfl, ?_⟩) | ((with_reducible refine gate_callee (f := 22) rfl ?_); refine goesL_ (some 14) rfl rfl Try.func22 (by kernel_rfl) rfl #[.slice A0_1 l0_1.length c0_1, .int .i64 t222] rfl ma ?_; (with_reducible refine (laws_heldIntS.calls k _ _ l0_1 t222 t223 _ ?side1 ?side2 A7.out).mono ?_); (case side1 => exact ca (Kd.C_below HR0_1.out (qd_9))); (case side2 => exact HC0_1.out); rintro e w' ⟨rfl, ⟨nd, rfl⟩⟩; refine ⟨_, rfl, ?_⟩))); go_ret; (exact ⟨by first | rfl | (simp [errW_none, errW_some] <;> rfl) | (simp [*, errW_none, errW_some] <;> rfl), by exact (qd_9)⟩)
end Go.Proofs.Ytlkcbmcbmanmiaa.PFnExactCueFrom
