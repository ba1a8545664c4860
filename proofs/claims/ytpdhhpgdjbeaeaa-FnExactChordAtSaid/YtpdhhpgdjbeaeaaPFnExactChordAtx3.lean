-- Written for this claim by a program of this repository (wip/tools/print2.py), out of the translation; Lean checks it.
import Derived.Test.YtpdhhpgdjbeaeaaPFnExactChordAtx0
import Derived.Test.YtpdhhpgdjbeaeaaPFnExactChordAtx2
namespace Go.Proofs.Ytpdhhpgdjbeaeaa.PFnExactChordAt
open Go.RowKit Go.Proofs.YtpdhhpgdjbeaeaaW.PrintWords Go.Proofs.YtpdhhpgdjbeaeaaW.PrintLast Go.Proofs.YtpdhhpgdjbeaeaaW.PrintMore
attribute [local go_sem] max2_int min2_int max_two min_two max_three min_three max_four min_four   -- for this text's walks alone
set_option linter.unusedVariables false
set_option linter.unusedSimpArgs false
-- SHORT
theorem qf_3 {p : Prop} (f : p := by repeat (first | (with_reducible first | exact HB.out | apply below_alloc | apply pw_below_drewN | apply below_drew1) | exact HB.out)) : p := f
theorem q3_3 {p : Prop} (f : p := by repeat (first | (with_reducible first | exact HB.out | apply below_alloc | apply pw_below_drewN | apply below_drew1 | refine below_set ?_ z03.out) | exact HB.out)) : p := f
theorem qc_3 {p : Prop} (f : p := by repeat (first | (with_reducible first | exact HB.out | apply below_alloc | apply pw_below_drewN | apply below_drew1 | refine below_set ?_ z09.out) | exact HB.out)) : p := f
theorem q6_3 {p : Prop} (f : p := by repeat (first | (with_reducible first | exact HB.out | apply below_alloc | apply pw_below_drewN | apply below_drew1 | refine below_set ?_ z09.out | refine below_set ?_ z06.out) | exact HB.out)) : p := f
theorem qr_3 {p : Prop} (f : p := by repeat (first | (with_reducible first | exact HB.out | apply below_alloc | apply pw_below_drewN | apply below_drew1 | refine below_set ?_ qy.out) | exact HB.out)) : p := f
theorem q0_3 {p : Prop} (h : p) : Aside0 p := ⟨h⟩
/-! ### spec_l1In: function 58 -/
def spec_l1In.f (a0 : Int) (a1 : Int) (a2 : Int) : Option (Bool) := if a0 ≥ a1 then (some (decide (a0 ≤ a2))) else (some false)
set_option maxHeartbeats 8000000 in
set_option maxRecDepth 100000 in
theorem spec_l1In.calls (a0 : Int) (a1 : Int) (a2 : Int) (r : Bool) (w : World) (h : spec_l1In.f a0 a1 a2 = some r) :
 Calls Try.prog 58 #[.int .i64 a0, .int .i64 a1, .int .i64 a2] w fun e w' => e = .returned (.bool r) ∧ Drawn0 w w' := by
 (have H : (if a0 ≥ a1 then (some (decide (a0 ≤ a2))) else (some false)) = some r := h); clear h
 by_cases c4 : a0 ≥ a1
 · rw [if_pos c4] at H
   (have c4b0 : decide (a1 ≤ a0) = true := decide_eq_true c4); clear c4; obtain rfl := Option.some.inj H; go_enter Try.func58, Try.ntmps58; (go_wp2); go_ret; exact ⟨by first | rfl | (simp; done) | (simp [*]; done), by repeat (first | exact Drawn0.refl _ | apply Drawn0.step)⟩
 · rw [if_neg c4] at H
   (have c4b0 : decide (a1 ≤ a0) = false := decide_eq_false c4); clear c4; obtain rfl := Option.some.inj H; go_enter Try.func58, Try.ntmps58; (go_wp2); go_ret; exact ⟨by first | rfl | (simp; done) | (simp [*]; done), by repeat (first | exact Drawn0.refl _ | apply Drawn0.step)⟩
/-! ### spec_Mod: function 35 -/
def spec_Mod.f (a0 : Int) (a1 : Int) : Option (Int) := (spec_l1In.f a1 1 1000000000000).bind fun t145 => (if t145 = true then (if a1 = 0 then (none) else (some (Int.tmod (wrap64 ((Int.tmod a0 a1) + a1)) a1))) else (some 0))
set_option maxHeartbeats 8000000 in
set_option maxRecDepth 100000 in
theorem spec_Mod.calls (a0 : Int) (a1 : Int) (r : Int) (w : World) (h : spec_Mod.f a0 a1 = some r) :
 Calls Try.prog 35 #[.int .i64 a0, .int .i64 a1] w fun e w' => e = .returned (.int .i64 r) ∧ Drawn0 w w' := by
 (have H : ((spec_l1In.f a1 1 1000000000000).bind fun t145 => (if t145 = true then (if a1 = 0 then (none) else (some (Int.tmod (wrap64 ((Int.tmod a0 a1) + a1)) a1))) else (some 0))) = some r := h); clear h; replace H := Option.bind_eq_some_iff.mp H; obtain ⟨t145, A30, H⟩ := H; replace H : (if t145 = true then (if a1 = 0 then (none) else (some (Int.tmod (wrap64 ((Int.tmod a0 a1) + a1)) a1))) else (some 0)) = some r := H; have A3 := q0_3 A30; clear A30
 by_cases c4 : t145 = true
 · subst c4
   have H1 : (if a1 = 0 then (none) else (some (Int.tmod (wrap64 ((Int.tmod a0 a1) + a1)) a1))) = some r := by rw [if_pos rfl] at H; exact H
   clear H; have H := H1; clear H1
   by_cases c5 : a1 = 0
   · rw [if_pos c5] at H
     exact absurd H (by simp)
   · rw [if_neg c5] at H
     (have c5b0 : (a1 == 0) = false := beq_eq_false_iff_ne.mpr c5); (have c5b1 : (a1 != 0) = true := bne_iff_ne.mpr c5); obtain rfl := Option.some.inj H; go_enter Try.func35, Try.ntmps35; (go_wp2_with (first | ((with_reducible refine gate_callee (f := 58) rfl ?_); refine goesL_ (some 6) rfl rfl Try.func58 (by kernel_rfl) rfl #[.int .i64 a1, .int .i64 1, .int .i64 1000000000000] rfl ma ?_; (with_reducible refine (spec_l1In.calls a1 1 1000000000000 true _ A3.out).mono ?_); rintro e w' ⟨rfl, ⟨nd, rfl⟩⟩; refine ⟨_, rfl, ?_⟩))); go_ret; exact ⟨by first | rfl | (simp; done) | (simp [*]; done), by repeat (first | exact Drawn0.refl _ | apply Drawn0.step)⟩
 · replace c4 := Bool.eq_false_iff.mpr c4
   subst c4; (have H1 : (some 0) = some r := by rw [if_neg (show ¬ (false = true) by decide)] at H; exact H); clear H; have H := H1; clear H1; obtain rfl := Option.some.inj H; go_enter Try.func35, Try.ntmps35; (go_wp2_with (first | ((with_reducible refine gate_callee (f := 58) rfl ?_); refine goesL_ (some 6) rfl rfl Try.func58 (by kernel_rfl) rfl #[.int .i64 a1, .int .i64 1, .int .i64 1000000000000] rfl ma ?_; (with_reducible refine (spec_l1In.calls a1 1 1000000000000 false _ A3.out).mono ?_); rintro e w' ⟨rfl, ⟨nd, rfl⟩⟩; refine ⟨_, rfl, ?_⟩))); go_ret; exact ⟨by first | rfl | (simp; done) | (simp [*]; done), by repeat (first | exact Drawn0.refl _ | apply Drawn0.step)⟩
/-! ### spec_ClassesOf: function 9 -/
def spec_ClassesOf.l0 : Nat → List Int → List Int → Int → Option (List Int)
 | 0, _, _, _ => none
 | k + 1, x0, x3, x4 => if x4 < (x0.length : Int) then (if 0 ≤ x4 then ((spec_Mod.f (rd x0 x4) 12).bind fun t150 => ((spec_l8Num.f k x3 t150).bind fun t151 => (spec_ClassesOf.l0 k x0 t151 (wrap64 (x4 + 1))))) else (none)) else (some x3)
def spec_ClassesOf.f (k : Nat) (l0 : List Int) : Option (List Int) := spec_ClassesOf.l0 k l0 (([] : List Int)) 0
theorem spec_ClassesOf.mono_l : ∀ k, (∀ y0 y1 y2, LeO (spec_ClassesOf.l0 k y0 y1 y2) (spec_ClassesOf.l0 (k + 1) y0 y1 y2))
 | 0 => fun _ _ _ r h => by simp [spec_ClassesOf.l0] at h
 | k + 1 => by
  have ih0 := spec_ClassesOf.mono_l k
  · intro y0 y1 y2
    unfold spec_ClassesOf.l0
    repeat' first
    | (with_reducible exact ih0 _ _ _)
    | (with_reducible exact spec_l8Num.mono _ _ _)
    | (with_reducible exact LeO.refl _)
    | (with_reducible exact LeO.none _)
    | (with_reducible refine LeO.ite ?_ ?_)
    | (with_reducible refine LeO.bind ?_ (fun _ => ?_))
    | exact ih0 _ _ _
    | exact spec_l8Num.mono _ _ _
    | exact LeO.none _
    | refine LeO.ite ?_ ?_
    | refine LeO.bind ?_ (fun _ => ?_)
theorem spec_ClassesOf.mono : ∀ a0 k, LeO (spec_ClassesOf.f k a0) (spec_ClassesOf.f (k + 1) a0) := by
 intro a0 k; have ih0 := spec_ClassesOf.mono_l k; unfold spec_ClassesOf.f
 repeat' first
  | (with_reducible exact ih0 _ _ _)
  | (with_reducible exact spec_l8Num.mono _ _ _)
  | (with_reducible exact LeO.refl _)
  | (with_reducible exact LeO.none _)
  | (with_reducible refine LeO.ite ?_ ?_)
  | (with_reducible refine LeO.bind ?_ (fun _ => ?_))
  | exact ih0 _ _ _
  | exact spec_l8Num.mono _ _ _
  | exact LeO.none _
  | refine LeO.ite ?_ ?_
  | refine LeO.bind ?_ (fun _ => ?_)
set_option maxHeartbeats 8000000 in
set_option maxRecDepth 100000 in
theorem spec_ClassesOf.calls (k : Nat) (A0 : Option Addr) (c0 : Nat) (l0 : List Int) (r : List Int) (w : World) (hr0 : Kd.C (Kd.int .i64) w A0 l0.length l0) (hc0 : l0.length ≤ c0) (h : spec_ClassesOf.f k l0 = some r) :
 Calls Try.prog 9 #[.slice A0 l0.length c0] w fun e w' => ∃ v0_ : Value, e = .returned (v0_) ∧ Kd.R (Kd.int .i64) 3 w' w.heap.size (fun _ => True) v0_ r ∧ Below w.heap.size w w' := by
 have HR0 := q0_3 hr0; have HC0 := q0_3 hc0; clear hr0 hc0; have HB := q0_3 (Below.refl w.heap.size w); (have H : (spec_ClassesOf.l0 k l0 (([] : List Int)) 0) = some r := h); clear h; obtain ⟨y146, hy146⟩ : ∃ y_ : List Int, y_ = (([] : List Int)) := ⟨_, rfl⟩; (replace H : (spec_ClassesOf.l0 k l0 y146 0) = some r := by first | (rw [hy146]; with_reducible exact H) | (have H2_ := (Option.bind_some _ _).symm.trans H; rw [hy146]; with_reducible exact H2_) | (have H2_ := (Option.bind_some _ _).symm.trans H; with_reducible exact H2_) | with_reducible exact H | (rw [hy146]; exact H) | exact H); have Ny146 := q0_3 hy146; clear hy146; (have H' := q0_3 H); clear H; go_enter Try.func9, Try.ntmps9; (go_wp2_with (first | ((with_reducible refine gate_dst (N := 5) rfl ?_); refine Kd.R_lit (Kd.int .i64) _ 3 ?hg (N := 5) ?hd (xs := ([] : List Int)) (inner := []) (ok := fun _ => True) (okp := fun _ => True) ?hr ?hp (fun _ hk => hk) trivial (Below.refl _ _) (Nat.le_refl _) (by simp) ?_; (case hd => rfl); (case hg => rfl); (case hr => first | (go_simp; done) | (go_simp; rfl)); (case hp => exact (Reps.none _ _)); intro v147 w2 ho3 hb hg_ hnew_; clear hg_ hnew_; (first | rw [← Ny146.out] at ho3 | (simp only [Int.reduceToNat] at ho3; rw [← Ny146.out] at ho3)); have n0_ := q0_3 (Kd.R_lower ho3 (below_size (qf_3))); have n1_ := q0_3 (below_step (qf_3) hb); clear HB; have qw := n0_; have HB := n1_; clear n0_ n1_; clear hb ho3))); (go_loopg [3, 4] k (fun kq v3 v4 w' => ∃ (x3_1 : List Int) (x4_1 : Int), v4 = .int .i64 x4_1 ∧ Aside0 (spec_ClassesOf.l0 kq l0 x3_1 x4_1 = some r) ∧ Aside0 (kq ≤ k) ∧ Aside0 (Kd.R (Kd.int .i64) 3 w' w.heap.size (fun _ => True) v3 x3_1) ∧ Aside0 (Below w.heap.size w w')))
 case atStart => exact ⟨(y146), (0), (by first | rfl | (simp; done) | (simp [*]; done)), H', ⟨Nat.le_refl _⟩, ⟨by refine ra ?_; exact qw.out⟩, ⟨by exact (qf_3)⟩⟩
 case round =>
  clear H'; (try clear p2); obtain ⟨x3_1, x4_1, rfl, HA, HK1, qd, HB⟩ := hrel
  cases gk with
  | zero => exact absurd HA.out (by simp [spec_ClassesOf.l0])
  | succ k1 =>
   have H := HA.out; clear HA; (simp only [spec_ClassesOf.l0] at H)
   by_cases c4 : x4_1 < (l0.length : Int)
   · rw [if_pos c4] at H
     (have c4b0 : decide (x4_1 < (l0.length : Int)) = true := decide_eq_true c4); clear c4
     by_cases c5 : 0 ≤ x4_1
     · rw [if_pos c5] at H
       (have c5b0 : decide (0 ≤ x4_1) = true := decide_eq_true c5); clear c5; replace H := Option.bind_eq_some_iff.mp H; obtain ⟨t150, A60, H⟩ := H; replace H : ((spec_l8Num.f k1 x3_1 t150).bind fun t151 => (spec_ClassesOf.l0 k1 l0 t151 (wrap64 (x4_1 + 1)))) = some r := H; have A6 := q0_3 A60; clear A60; replace H := Option.bind_eq_some_iff.mp H; obtain ⟨t151, A70, H⟩ := H; replace H : (spec_ClassesOf.l0 k1 l0 t151 (wrap64 (x4_1 + 1))) = some r := H; have A7 := q0_3 A70; clear A70; (have H' := q0_3 H); clear H; (have p149 : 0 ≤ (x4_1 : Int) := of_decide_eq_true (by first | (with_reducible assumption) | assumption)); (have q149 : x4_1 < (l0.length : Int) := of_decide_eq_true (by first | (with_reducible assumption) | assumption)); obtain ⟨ad149, e149, hx149_0⟩ := Kd.at_int HR0.out x4_1 p149 q149
       cases e149
       replace hx149_0 := (HB.out.cell (World.block_lt_of_cell? w _ hx149_0)).trans hx149_0; replace p149 := eq_true p149; replace q149 := eq_true q149; (go_wp2_with (first | ((with_reducible refine gate_callee (f := 35) rfl ?_); refine goesL_ (some 17) rfl rfl Try.func35 (by kernel_rfl) rfl #[.int .i64 (rd l0 x4_1), .int .i64 12] rfl ma ?_; (with_reducible refine (spec_Mod.calls (rd l0 x4_1) 12 t150 _ A6.out).mono ?_); rintro e w' ⟨rfl, ⟨nd, rfl⟩⟩; refine ⟨_, rfl, ?_⟩; obtain ⟨Ao8, co8, eo8⟩ := Kd.R_slice qd.out; subst eo8) | ((with_reducible refine gate_callee (f := 34) rfl ?_); refine goesL_ (some 18) rfl rfl Try.func34 (by kernel_rfl) rfl #[.slice Ao8 x3_1.length co8, .int .i64 t150] rfl ma ?_; (with_reducible refine (spec_l8Num.calls k1 _ _ x3_1 t150 t151 _ ?side1 ?side2 A7.out).mono ?_); (case side1 => exact ca (Kd.R_reads' qd.out).2.2); (case side2 => exact (Kd.R_reads' qd.out).2.1); rintro e w9 ⟨v152, rfl, ho0, hb⟩; refine ⟨_, rfl, ?_⟩; have n0_ := q0_3 (Kd.R_elder' (ra qd.out) (Kd.R_base ho0) hb); have n1_ := q0_3 (Kd.R_lower (Kd.R_new' ho0 (Kd.R_lt (ra qd.out))) (below_size (qf_3))); have n2_ := q0_3 (below_step (qf_3) hb); clear qd; clear HB; have qd := n0_; have qx := n1_; have HB := n2_; clear n0_ n1_ n2_; (try clear hb); (try clear hb2); (try clear hk); (try clear hi); (try clear ho0)))); (go_roundg k1)
       case measure => have := HK1.out; omega
       case rel => exact ⟨(t151), (wrap64 (x4_1 + 1)), (by first | rfl | (simp; done) | (simp [*]; done)), H', ⟨by have := HK1.out; omega⟩, ⟨by refine ra ?_; exact Kd.R_mono qx.out (fun _ hk => trivial)⟩, ⟨by exact (qf_3)⟩⟩
     · rw [if_neg c5] at H
       exact absurd H (by simp)
   · rw [if_neg c4] at H
     (have c4b0 : decide (x4_1 < (l0.length : Int)) = false := decide_eq_false c4); clear c4; obtain rfl := Option.some.inj H; (go_wp2); go_ret; (exact ⟨_, by first | rfl | (simp [errW_none, errW_some] <;> rfl) | (simp [*, errW_none, errW_some] <;> rfl), by refine ra ?_; exact qd.out, by exact (qf_3)⟩)
/-! ### spec_IsChord: function 39 -/
def spec_IsChord.f (a0_0 : Int) (a0_1 : Int) : Option (Bool) := (spec_l1In.f a0_0 0 11).bind fun t155 => (if t155 = true then ((spec_l1In.f a0_1 1 5).bind fun t156 => (some t156)) else (some false))
set_option maxHeartbeats 8000000 in
set_option maxRecDepth 100000 in
theorem spec_IsChord.calls (a0_0 : Int) (a0_1 : Int) (r : Bool) (w : World) (h : spec_IsChord.f a0_0 a0_1 = some r) :
 Calls Try.prog 39 #[.agg #[.int .i64 a0_0, .int .i64 a0_1]] w fun e w' => e = .returned (.bool r) ∧ Below w.heap.size w w' := by
 have hu30 := Try.underlying30; have HB := q0_3 (Below.refl w.heap.size w); (have H : ((spec_l1In.f a0_0 0 11).bind fun t155 => (if t155 = true then ((spec_l1In.f a0_1 1 5).bind fun t156 => (some t156)) else (some false))) = some r := h); clear h; replace H := Option.bind_eq_some_iff.mp H; obtain ⟨t155, A20, H⟩ := H; replace H : (if t155 = true then ((spec_l1In.f a0_1 1 5).bind fun t156 => (some t156)) else (some false)) = some r := H; have A2 := q0_3 A20; clear A20
 by_cases c3 : t155 = true
 · subst c3
   have H1 : ((spec_l1In.f a0_1 1 5).bind fun t156 => (some t156)) = some r := by rw [if_pos rfl] at H; exact H
   clear H; have H := H1; clear H1; replace H := Option.bind_eq_some_iff.mp H; obtain ⟨t156, A40, H⟩ := H; replace H : (some t156) = some r := H; have A4 := q0_3 A40; clear A40; obtain rfl := Option.some.inj H; go_enter Try.func39, Try.ntmps39; (go_wp2_with (first | ((with_reducible refine gate_dst (N := 1) rfl ?_); refine box_event ?hg (N := 1) ?hd (cs := #[.int .i64 a0_0, .int .i64 a0_1]) (t := 30) ?hr ?_; (case hd => rfl); (case hg => rfl); (case hr => first | (go_simp; done) | (go_simp; rfl)); intro qi hg w5 hbox hb; have n0_ := q0_3 (below_step (qf_3) hb); have n1_ := q0_3 (hbox); have n2_ := q0_3 ((by rw [hg]; exact (below_size (qf_3)) : w.heap.size ≤ qi)); have n3_ := q0_3 ((by rw [hg]; exact (below_size (qf_3)) : w.heap.size ≤ qi)); clear HB; have HB := n0_; have qj := n1_; have GW154 := n2_; have qy := n3_; clear n0_ n1_ n2_ n3_; clear hb hbox hg; have hcz6_0 : w5.cell? ⟨qi, 0, none⟩ = some (.int .i64 a0_0) := (blk_cell qj.out 0).trans rfl; have hcz6_1 : w5.cell? ⟨qi, 1, none⟩ = some (.int .i64 a0_1) := (blk_cell qj.out 1).trans rfl; have hfz6_0 := blk_frozen qj.out 0; have hfz6_1 := blk_frozen qj.out 1) | ((with_reducible refine gate_callee (f := 58) rfl ?_); refine goesL_ (some 5) rfl rfl Try.func58 (by kernel_rfl) rfl #[.int .i64 a0_0, .int .i64 0, .int .i64 11] rfl ma ?_; (with_reducible refine (spec_l1In.calls a0_0 0 11 true _ A2.out).mono ?_); rintro e w' ⟨rfl, ⟨nd, rfl⟩⟩; refine ⟨_, rfl, ?_⟩) | (go_at_call 58; (with_reducible refine (spec_l1In.calls a0_1 1 5 t156 _ A4.out).mono ?_); rintro e w' ⟨rfl, ⟨nd, rfl⟩⟩))); go_ret; (exact ⟨by first | rfl | (simp [errW_none, errW_some] <;> rfl) | (simp [*, errW_none, errW_some] <;> rfl), by exact (qr_3)⟩)
 · replace c3 := Bool.eq_false_iff.mpr c3
   subst c3; (have H1 : (some false) = some r := by rw [if_neg (show ¬ (false = true) by decide)] at H; exact H); clear H; have H := H1; clear H1; obtain rfl := Option.some.inj H; go_enter Try.func39, Try.ntmps39; (go_wp2_with (first | ((with_reducible refine gate_dst (N := 1) rfl ?_); refine box_event ?hg (N := 1) ?hd (cs := #[.int .i64 a0_0, .int .i64 a0_1]) (t := 30) ?hr ?_; (case hd => rfl); (case hg => rfl); (case hr => first | (go_simp; done) | (go_simp; rfl)); intro qi hg w7 hbox hb; have n0_ := q0_3 (below_step (qf_3) hb); have n1_ := q0_3 (hbox); have n2_ := q0_3 ((by rw [hg]; exact (below_size (qf_3)) : w.heap.size ≤ qi)); have n3_ := q0_3 ((by rw [hg]; exact (below_size (qf_3)) : w.heap.size ≤ qi)); clear HB; have HB := n0_; have qj := n1_; have GW154 := n2_; have qy := n3_; clear n0_ n1_ n2_ n3_; clear hb hbox hg; have hcz8_0 : w7.cell? ⟨qi, 0, none⟩ = some (.int .i64 a0_0) := (blk_cell qj.out 0).trans rfl; have hcz8_1 : w7.cell? ⟨qi, 1, none⟩ = some (.int .i64 a0_1) := (blk_cell qj.out 1).trans rfl; have hfz8_0 := blk_frozen qj.out 0; have hfz8_1 := blk_frozen qj.out 1) | ((with_reducible refine gate_callee (f := 58) rfl ?_); refine goesL_ (some 5) rfl rfl Try.func58 (by kernel_rfl) rfl #[.int .i64 a0_0, .int .i64 0, .int .i64 11] rfl ma ?_; (with_reducible refine (spec_l1In.calls a0_0 0 11 false _ A2.out).mono ?_); rintro e w' ⟨rfl, ⟨nd, rfl⟩⟩; refine ⟨_, rfl, ?_⟩))); go_ret; (exact ⟨by first | rfl | (simp [errW_none, errW_some] <;> rfl) | (simp [*, errW_none, errW_some] <;> rfl), by exact (qr_3)⟩)
/-! ### spec_l22Halves: function 40 -/
def spec_l22Halves.f (a0 : Int) : Option (List Int) := (some (([(([0, 4, 7] : List Int)), (([0, 3, 7] : List Int)), (([0, 3, 6] : List Int)), (([0, 4, 8] : List Int)), (([0, 4, 7, 10] : List Int))] : List (List Int)) : List (List Int))).bind fun y172 => (if 0 ≤ (wrap64 (a0 - 1)) then (if (wrap64 (a0 - 1)) < (y172.length : Int) then (some (rd_L2 y172 (wrap64 (a0 - 1)))) else (none)) else (none))
set_option maxHeartbeats 8000000 in
set_option maxRecDepth 100000 in
theorem spec_l22Halves.calls (a0 : Int) (r : List Int) (w : World) (h : spec_l22Halves.f a0 = some r) :
 Calls Try.prog 40 #[.int .i64 a0] w fun e w' => ∃ v0_ : Value, e = .returned (v0_) ∧ Kd.V (Kd.int .i64) 3 w' w.heap.size (fun k_ => (w.heap.size ≤ k_)) v0_ r ∧ Below w.heap.size w w' := by
 have HB := q0_3 (Below.refl w.heap.size w); (have H : ((some (([(([0, 4, 7] : List Int)), (([0, 3, 7] : List Int)), (([0, 3, 6] : List Int)), (([0, 4, 8] : List Int)), (([0, 4, 7, 10] : List Int))] : List (List Int)) : List (List Int))).bind fun y172 => (if 0 ≤ (wrap64 (a0 - 1)) then (if (wrap64 (a0 - 1)) < (y172.length : Int) then (some (rd_L2 y172 (wrap64 (a0 - 1)))) else (none)) else (none))) = some r := h); clear h; obtain ⟨y157, hy157⟩ : ∃ y_ : List Int, y_ = (([0, 4, 7] : List Int)) := ⟨_, rfl⟩; (replace H : ((some (([y157, (([0, 3, 7] : List Int)), (([0, 3, 6] : List Int)), (([0, 4, 8] : List Int)), (([0, 4, 7, 10] : List Int))] : List (List Int)) : List (List Int))).bind fun y172 => (if 0 ≤ (wrap64 (a0 - 1)) then (if (wrap64 (a0 - 1)) < (y172.length : Int) then (some (rd_L2 y172 (wrap64 (a0 - 1)))) else (none)) else (none))) = some r := by first | (rw [hy157]; with_reducible exact H) | (have H2_ := (Option.bind_some _ _).symm.trans H; rw [hy157]; with_reducible exact H2_) | (have H2_ := (Option.bind_some _ _).symm.trans H; with_reducible exact H2_) | with_reducible exact H | (rw [hy157]; exact H) | exact H); have Ny157 := q0_3 hy157; clear hy157; obtain ⟨y160, hy160⟩ : ∃ y_ : List Int, y_ = (([0, 3, 7] : List Int)) := ⟨_, rfl⟩; (replace H : ((some (([y157, y160, (([0, 3, 6] : List Int)), (([0, 4, 8] : List Int)), (([0, 4, 7, 10] : List Int))] : List (List Int)) : List (List Int))).bind fun y172 => (if 0 ≤ (wrap64 (a0 - 1)) then (if (wrap64 (a0 - 1)) < (y172.length : Int) then (some (rd_L2 y172 (wrap64 (a0 - 1)))) else (none)) else (none))) = some r := by first | (rw [hy160]; with_reducible exact H) | (have H2_ := (Option.bind_some _ _).symm.trans H; rw [hy160]; with_reducible exact H2_) | (have H2_ := (Option.bind_some _ _).symm.trans H; with_reducible exact H2_) | with_reducible exact H | (rw [hy160]; exact H) | exact H); have Ny160 := q0_3 hy160; clear hy160; obtain ⟨y163, hy163⟩ : ∃ y_ : List Int, y_ = (([0, 3, 6] : List Int)) := ⟨_, rfl⟩; (replace H : ((some (([y157, y160, y163, (([0, 4, 8] : List Int)), (([0, 4, 7, 10] : List Int))] : List (List Int)) : List (List Int))).bind fun y172 => (if 0 ≤ (wrap64 (a0 - 1)) then (if (wrap64 (a0 - 1)) < (y172.length : Int) then (some (rd_L2 y172 (wrap64 (a0 - 1)))) else (none)) else (none))) = some r := by first | (rw [hy163]; with_reducible exact H) | (have H2_ := (Option.bind_some _ _).symm.trans H; rw [hy163]; with_reducible exact H2_) | (have H2_ := (Option.bind_some _ _).symm.trans H; with_reducible exact H2_) | with_reducible exact H | (rw [hy163]; exact H) | exact H); have Ny163 := q0_3 hy163; clear hy163; obtain ⟨y166, hy166⟩ : ∃ y_ : List Int, y_ = (([0, 4, 8] : List Int)) := ⟨_, rfl⟩
 replace H : ((some (([y157, y160, y163, y166, (([0, 4, 7, 10] : List Int))] : List (List Int)) : List (List Int))).bind fun y172 => (if 0 ≤ (wrap64 (a0 - 1)) then (if (wrap64 (a0 - 1)) < (y172.length : Int) then (some (rd_L2 y172 (wrap64 (a0 - 1)))) else (none)) else (none))) = some r := by first | (rw [hy166]; with_reducible exact H) | (have H2_ := (Option.bind_some _ _).symm.trans H; rw [hy166]; with_reducible exact H2_) | (have H2_ := (Option.bind_some _ _).symm.trans H; with_reducible exact H2_) | with_reducible exact H | (rw [hy166]; exact H) | exact H
 have Ny166 := q0_3 hy166; clear hy166; obtain ⟨y169, hy169⟩ : ∃ y_ : List Int, y_ = (([0, 4, 7, 10] : List Int)) := ⟨_, rfl⟩; (replace H : ((some (([y157, y160, y163, y166, y169] : List (List Int)) : List (List Int))).bind fun y172 => (if 0 ≤ (wrap64 (a0 - 1)) then (if (wrap64 (a0 - 1)) < (y172.length : Int) then (some (rd_L2 y172 (wrap64 (a0 - 1)))) else (none)) else (none))) = some r := by first | (rw [hy169]; with_reducible exact H) | (have H2_ := (Option.bind_some _ _).symm.trans H; rw [hy169]; with_reducible exact H2_) | (have H2_ := (Option.bind_some _ _).symm.trans H; with_reducible exact H2_) | with_reducible exact H | (rw [hy169]; exact H) | exact H); have Ny169 := q0_3 hy169; clear hy169; obtain ⟨y172, hy172⟩ : ∃ y_ : List (List Int), y_ = (([y157, y160, y163, y166, y169] : List (List Int))) := ⟨_, rfl⟩; (replace H : (if 0 ≤ (wrap64 (a0 - 1)) then (if (wrap64 (a0 - 1)) < (y172.length : Int) then (some (rd_L2 y172 (wrap64 (a0 - 1)))) else (none)) else (none)) = some r := by first | (rw [hy172]; with_reducible exact H) | (have H2_ := (Option.bind_some _ _).symm.trans H; rw [hy172]; with_reducible exact H2_) | (have H2_ := (Option.bind_some _ _).symm.trans H; with_reducible exact H2_) | with_reducible exact H | (rw [hy172]; exact H) | exact H); have Ny172 := q0_3 hy172; clear hy172; obtain ⟨ji2, hji2⟩ : ∃ j_ : Int, (wrap64 (a0 - 1)) = j_ := ⟨_, rfl⟩; (replace H : (if 0 ≤ (ji2) then (if (ji2) < (y172.length : Int) then (some (rd_L2 y172 (ji2))) else (none)) else (none)) = some r := by first | (rw [hji2] at H; exact H) | (simp only [hji2] at H ⊢; exact H)); (have hji2w : (IntKind.i64.wrap (a0 - 1)) = ji2 := (i64_w _).trans hji2)
 by_cases c3 : 0 ≤ (ji2)
 · rw [if_pos c3] at H
   (have c3b0 : decide (0 ≤ (ji2)) = true := decide_eq_true c3); clear c3
   by_cases c4 : (ji2) < (y172.length : Int)
   · rw [if_pos c4] at H
     (have c4b0 : decide ((ji2) < (y172.length : Int)) = true := decide_eq_true c4); clear c4; obtain rfl := Option.some.inj H; go_enter Try.func40, Try.ntmps40
     (go_wp2_with (first | ((with_reducible refine gate_dst (N := 3) rfl ?_); refine Kd.R_lit (Kd.int .i64) _ 3 ?hg (N := 3) ?hd (xs := ([0, 4, 7] : List Int)) (inner := [.int .i64 0, .int .i64 4, .int .i64 7]) (ok := fun _ => True) (okp := fun _ => True) ?hr ?hp (fun _ hk => hk) trivial (Below.refl _ _) (Nat.le_refl _) (by simp) ?_; (case hd => rfl); (case hg => rfl); (case hr => first | (go_simp; done) | (go_simp; rfl)); (case hp => exact (Reps.one (show Kd.M (Kd.int .i64) _ _ _ 0 [.int .i64 0] from rfl) (Reps.one (show Kd.M (Kd.int .i64) _ _ _ 4 [.int .i64 4] from rfl) (Reps.one (show Kd.M (Kd.int .i64) _ _ _ 7 [.int .i64 7] from rfl) (Reps.none _ _))))); intro v158 w5 ho6 hb hg_ hnew_; clear hg_ hnew_; (first | rw [← Ny157.out] at ho6 | (simp only [Int.reduceToNat] at ho6; rw [← Ny157.out] at ho6)); have n0_ := q0_3 (Kd.R_lower (Kd.R_newM (M := fun k_ => (w.heap.size ≤ k_)) ho6 (below_size (qf_3)) (fun k_ h_ => h_)) (below_size (qf_3))); have n1_ := q0_3 (below_step (qf_3) hb); clear HB; have q5 := n0_; have HB := n1_; clear n0_ n1_; clear hb ho6) | ((with_reducible refine gate_dst (N := 4) rfl ?_); refine Kd.R_lit (Kd.int .i64) _ 3 ?hg (N := 4) ?hd (xs := ([0, 3, 7] : List Int)) (inner := [.int .i64 0, .int .i64 3, .int .i64 7]) (ok := fun _ => True) (okp := fun _ => True) ?hr ?hp (fun _ hk => hk) trivial (Below.refl _ _) (Nat.le_refl _) (by simp) ?_; (case hd => rfl); (case hg => rfl); (case hr => first | (go_simp; done) | (go_simp; rfl)); (case hp => exact (Reps.one (show Kd.M (Kd.int .i64) _ _ _ 0 [.int .i64 0] from rfl) (Reps.one (show Kd.M (Kd.int .i64) _ _ _ 3 [.int .i64 3] from rfl) (Reps.one (show Kd.M (Kd.int .i64) _ _ _ 7 [.int .i64 7] from rfl) (Reps.none _ _))))); intro v161 w7 ho8 hb hg_ hnew_; clear hg_ hnew_; (first | rw [← Ny160.out] at ho8 | (simp only [Int.reduceToNat] at ho8; rw [← Ny160.out] at ho8)); have n0_ := q0_3 (Kd.R_elder' (ra q5.out) (Kd.R_base ho8) hb); have n1_ := q0_3 (Kd.R_lower (Kd.R_new' (Kd.R_newM (M := fun k_ => (w.heap.size ≤ k_)) ho8 (below_size (qf_3)) (fun k_ h_ => h_)) (Kd.R_lt (ra q5.out))) (below_size (qf_3))); have n2_ := q0_3 (below_step (qf_3) hb); clear q5; clear HB; have q5 := n0_; have qb := n1_; have HB := n2_; clear n0_ n1_ n2_; clear hb ho8) | ((with_reducible refine gate_dst (N := 5) rfl ?_); refine Kd.R_lit (Kd.int .i64) _ 3 ?hg (N := 5) ?hd (xs := ([0, 3, 6] : List Int)) (inner := [.int .i64 0, .int .i64 3, .int .i64 6]) (ok := fun _ => True) (okp := fun _ => True) ?hr ?hp (fun _ hk => hk) trivial (Below.refl _ _) (Nat.le_refl _) (by simp) ?_; (case hd => rfl); (case hg => rfl); (case hr => first | (go_simp; done) | (go_simp; rfl)); (case hp => exact (Reps.one (show Kd.M (Kd.int .i64) _ _ _ 0 [.int .i64 0] from rfl) (Reps.one (show Kd.M (Kd.int .i64) _ _ _ 3 [.int .i64 3] from rfl) (Reps.one (show Kd.M (Kd.int .i64) _ _ _ 6 [.int .i64 6] from rfl) (Reps.none _ _))))); intro v164 w9 ho10 hb hg_ hnew_; clear hg_ hnew_; (first | rw [← Ny163.out] at ho10 | (simp only [Int.reduceToNat] at ho10; rw [← Ny163.out] at ho10)); have n0_ := q0_3 (Kd.R_elder' (ra q5.out) (Kd.R_base ho10) hb); have n1_ := q0_3 (Kd.R_elder' (ra qb.out) (Kd.R_base ho10) hb); have n2_ := q0_3 (Kd.R_lower (Kd.R_new' (Kd.R_new' (Kd.R_newM (M := fun k_ => (w.heap.size ≤ k_)) ho10 (below_size (qf_3)) (fun k_ h_ => h_)) (Kd.R_lt (ra q5.out))) (Kd.R_lt (ra qb.out))) (below_size (qf_3))); have n3_ := q0_3 (below_step (qf_3) hb); clear q5; clear qb; clear HB; have q5 := n0_; have qb := n1_; have qg := n2_; have HB := n3_; clear n0_ n1_ n2_ n3_; clear hb ho10) | ((with_reducible refine gate_dst (N := 6) rfl ?_); refine Kd.R_lit (Kd.int .i64) _ 3 ?hg (N := 6) ?hd (xs := ([0, 4, 8] : List Int)) (inner := [.int .i64 0, .int .i64 4, .int .i64 8]) (ok := fun _ => True) (okp := fun _ => True) ?hr ?hp (fun _ hk => hk) trivial (Below.refl _ _) (Nat.le_refl _) (by simp) ?_; (case hd => rfl); (case hg => rfl); (case hr => first | (go_simp; done) | (go_simp; rfl)); (case hp => exact (Reps.one (show Kd.M (Kd.int .i64) _ _ _ 0 [.int .i64 0] from rfl) (Reps.one (show Kd.M (Kd.int .i64) _ _ _ 4 [.int .i64 4] from rfl) (Reps.one (show Kd.M (Kd.int .i64) _ _ _ 8 [.int .i64 8] from rfl) (Reps.none _ _))))); intro v167 w11 ho12 hb hg_ hnew_; clear hg_ hnew_; (first | rw [← Ny166.out] at ho12 | (simp only [Int.reduceToNat] at ho12; rw [← Ny166.out] at ho12)); have n0_ := q0_3 (Kd.R_elder' (ra q5.out) (Kd.R_base ho12) hb); have n1_ := q0_3 (Kd.R_elder' (ra qb.out) (Kd.R_base ho12) hb); have n2_ := q0_3 (Kd.R_elder' (ra qg.out) (Kd.R_base ho12) hb); have n3_ := q0_3 (Kd.R_lower (Kd.R_new' (Kd.R_new' (Kd.R_new' (Kd.R_newM (M := fun k_ => (w.heap.size ≤ k_)) ho12 (below_size (qf_3)) (fun k_ h_ => h_)) (Kd.R_lt (ra q5.out))) (Kd.R_lt (ra qb.out))) (Kd.R_lt (ra qg.out))) (below_size (qf_3))); have n4_ := q0_3 (below_step (qf_3) hb); clear q5; clear qb; clear qg; clear HB; have q5 := n0_; have qb := n1_; have qg := n2_; have ql := n3_; have HB := n4_; clear n0_ n1_ n2_ n3_ n4_; clear hb ho12) | ((with_reducible refine gate_dst (N := 7) rfl ?_); refine Kd.R_lit (Kd.int .i64) _ 3 ?hg (N := 7) ?hd (xs := ([0, 4, 7, 10] : List Int)) (inner := [.int .i64 0, .int .i64 4, .int .i64 7, .int .i64 10]) (ok := fun _ => True) (okp := fun _ => True) ?hr ?hp (fun _ hk => hk) trivial (Below.refl _ _) (Nat.le_refl _) (by simp) ?_; (case hd => rfl); (case hg => rfl); (case hr => first | (go_simp; done) | (go_simp; rfl)); (case hp => exact (Reps.one (show Kd.M (Kd.int .i64) _ _ _ 0 [.int .i64 0] from rfl) (Reps.one (show Kd.M (Kd.int .i64) _ _ _ 4 [.int .i64 4] from rfl) (Reps.one (show Kd.M (Kd.int .i64) _ _ _ 7 [.int .i64 7] from rfl) (Reps.one (show Kd.M (Kd.int .i64) _ _ _ 10 [.int .i64 10] from rfl) (Reps.none _ _)))))); intro v170 w13 ho14 hb hg_ hnew_; clear hg_ hnew_; (first | rw [← Ny169.out] at ho14 | (simp only [Int.reduceToNat] at ho14; rw [← Ny169.out] at ho14)); have n0_ := q0_3 (Kd.R_elder' (ra q5.out) (Kd.R_base ho14) hb); have n1_ := q0_3 (Kd.R_elder' (ra qb.out) (Kd.R_base ho14) hb); have n2_ := q0_3 (Kd.R_elder' (ra qg.out) (Kd.R_base ho14) hb); have n3_ := q0_3 (Kd.R_elder' (ra ql.out) (Kd.R_base ho14) hb); have n4_ := q0_3 (Kd.R_lower (Kd.R_new' (Kd.R_new' (Kd.R_new' (Kd.R_new' (Kd.R_newM (M := fun k_ => (w.heap.size ≤ k_)) ho14 (below_size (qf_3)) (fun k_ h_ => h_)) (Kd.R_lt (ra q5.out))) (Kd.R_lt (ra qb.out))) (Kd.R_lt (ra qg.out))) (Kd.R_lt (ra ql.out))) (below_size (qf_3))); have n5_ := q0_3 (below_step (qf_3) hb); clear q5; clear qb; clear qg; clear ql; clear HB; have q5 := n0_; have qb := n1_; have qg := n2_; have ql := n3_; have qn := n4_; have HB := n5_; clear n0_ n1_ n2_ n3_ n4_ n5_; clear hb ho14; obtain ⟨qu, qv, eo15⟩ := Kd.R_slice q5.out; subst eo15; obtain ⟨qz, z00, eo16⟩ := Kd.R_slice qb.out; subst eo16; obtain ⟨qs, qt, eo17⟩ := Kd.R_slice qg.out; subst eo17; obtain ⟨z01, z02, eo18⟩ := Kd.R_slice ql.out; subst eo18; obtain ⟨qp, qq, eo19⟩ := Kd.R_slice qn.out; subst eo19) | ((with_reducible refine gate_dst (N := 8) rfl ?_); refine Kd.N_lit (Kd.slice 3 (Kd.int .i64)) _ 22 ?hg (N' := 8) ?hd (xs := ([y157, y160, y163, y166, y169] : List (List Int))) (inner := [.slice qu y157.length qv, .slice qz y160.length z00, .slice qs y163.length qt, .slice z01 y166.length z02, .slice qp y169.length qq]) (ok := (fun k_ => (w.heap.size ≤ k_))) (okp := (fun k_ => (w.heap.size ≤ k_))) ?hr ?hp (fun _ hk => hk) ((show ∀ k_, w13.heap.size ≤ k_ → (fun k_ => (w.heap.size ≤ k_)) k_ from fun k_ hk => (Nat.le_trans (below_size (qf_3)) hk)) _ (Nat.le_refl _)) (Below.refl _ _) (Nat.le_refl _) (by simp) ?_; (case hd => rfl); (case hg => rfl); (case hr => first | (go_simp; done) | (go_simp; rfl)); (case hp => exact (Reps.one (show Kd.FK (Kd.slice 3 (Kd.int .i64)) _ _ y157 [.slice qu y157.length qv] from (Kd.FK_slice_mk (Kd.R_reads' (Kd.R_mono (ok' := (fun k_ => (w.heap.size ≤ k_))) (q5.out) (fun k_ hk => hk.1.1.1.1.1))).2.1 (Kd.R_F (Kd.R_mono (ok' := (fun k_ => (w.heap.size ≤ k_))) (q5.out) (fun k_ hk => hk.1.1.1.1.1))))) (Reps.one (show Kd.FK (Kd.slice 3 (Kd.int .i64)) _ _ y160 [.slice qz y160.length z00] from (Kd.FK_slice_mk (Kd.R_reads' (Kd.R_mono (ok' := (fun k_ => (w.heap.size ≤ k_))) (qb.out) (fun k_ hk => hk.1.1.1.1.1))).2.1 (Kd.R_F (Kd.R_mono (ok' := (fun k_ => (w.heap.size ≤ k_))) (qb.out) (fun k_ hk => hk.1.1.1.1.1))))) (Reps.one (show Kd.FK (Kd.slice 3 (Kd.int .i64)) _ _ y163 [.slice qs y163.length qt] from (Kd.FK_slice_mk (Kd.R_reads' (Kd.R_mono (ok' := (fun k_ => (w.heap.size ≤ k_))) (qg.out) (fun k_ hk => hk.1.1.1.1.1))).2.1 (Kd.R_F (Kd.R_mono (ok' := (fun k_ => (w.heap.size ≤ k_))) (qg.out) (fun k_ hk => hk.1.1.1.1.1))))) (Reps.one (show Kd.FK (Kd.slice 3 (Kd.int .i64)) _ _ y166 [.slice z01 y166.length z02] from (Kd.FK_slice_mk (Kd.R_reads' (Kd.R_mono (ok' := (fun k_ => (w.heap.size ≤ k_))) (ql.out) (fun k_ hk => hk.1.1.1.1.1))).2.1 (Kd.R_F (Kd.R_mono (ok' := (fun k_ => (w.heap.size ≤ k_))) (ql.out) (fun k_ hk => hk.1.1.1.1.1))))) (Reps.one (show Kd.FK (Kd.slice 3 (Kd.int .i64)) _ _ y169 [.slice qp y169.length qq] from (Kd.FK_slice_mk (Kd.R_reads' (Kd.R_mono (ok' := (fun k_ => (w.heap.size ≤ k_))) (qn.out) (fun k_ hk => hk.1.1.1.1.1))).2.1 (Kd.R_F (Kd.R_mono (ok' := (fun k_ => (w.heap.size ≤ k_))) (qn.out) (fun k_ hk => hk.1.1.1.1.1))))) (Reps.none _ _))))))); intro v173 w20 ho21 hb hg_ hnew_; clear hg_ hnew_; (first | rw [← Ny172.out] at ho21 | (simp only [Int.reduceToNat] at ho21; rw [← Ny172.out] at ho21)); have n0_ := q0_3 (Kd.N_lower ho21 (below_size (qf_3))); have n1_ := q0_3 (below_step (qf_3) hb); clear HB; clear q5; clear qb; clear qg; clear ql; clear qn; have qo := n0_; have HB := n1_; clear n0_ n1_; clear hb ho21; obtain ⟨z0c, z0d, eo22⟩ := Kd.N_slice qo.out; subst eo22; have p175 : 0 ≤ ((ji2) : Int) := of_decide_eq_true (by first | (with_reducible assumption) | assumption); have q175 : (ji2) < (y172.length : Int) := of_decide_eq_true (by first | (with_reducible assumption) | assumption); obtain ⟨ad175, A175_0, c175_0, e175, hx175_0, hl175_0, hi175_0⟩ := at_L2 (Kd.N_reads' qo.out).2.2 (ji2) p175 q175; cases e175; obtain ⟨ce175, hce175, hMe175, hcc175⟩ := Kd.N_get qo.out [] (ji2) p175 (by first | exact q175 | exact of_decide_eq_true (by first | (with_reducible assumption) | assumption) | (have e_ := (Kd.N_reads' qo.out).1; omega)); obtain ⟨ua175_0, uc175_0, rfl, ul175_0, ge175_0⟩ := Kd.FK_slice_open hMe175; have hv175_0 := hcc175 0 _ rfl; rw [Nat.add_zero, show ((Kd.slice 3 (Kd.int .i64))).sz = 1 from rfl, Nat.mul_one] at hv175_0; replace hv175_0 := Option.some.inj (hv175_0.symm.trans hx175_0); injection hv175_0 with hva_ hvn_ hvc_; rw [hva_] at ge175_0; rw [hvc_] at ul175_0; have HL175_0 := q0_3 (show Kd.V (Kd.int .i64) 3 _ w.heap.size _ _ (rd_L2 y172 (ji2)) from Kd.V_mk ul175_0 ge175_0); clear hva_ hvn_ hvc_ ge175_0 ul175_0; clear hcc175 hce175; have HR175_0 := q0_3 hi175_0; have HC175_0 := q0_3 hl175_0; clear hi175_0 hl175_0; replace p175 := eq_true p175; replace q175 := eq_true q175)))
     go_ret; (exact ⟨_, by first | rfl | (simp [errW_none, errW_some] <;> rfl) | (simp only [← hji2]; first | rfl | (simp [errW_none, errW_some] <;> rfl)) | (simp [*, errW_none, errW_some] <;> rfl), by (with_reducible repeat (first | apply Kd.V_alloc | apply Kd.V_drewN | apply Kd.V_drew)); exact Kd.V_mono HL175_0.out (fun _ hk => hk.1), by exact (qf_3)⟩)
   · rw [if_neg c4] at H
     exact absurd H (by simp)
 · rw [if_neg c3] at H
   exact absurd H (by simp)
/-! ### spec_TonesOf: function 15 -/
def spec_TonesOf.l0 : Nat → List Int → List Int → Int → Int → Int → Option (List Int)
 | 0, _, _, _, _, _ => none
 | k + 1, x3, x4, x5, x177000, x177001 => if x5 < (x4.length : Int) then (if 0 ≤ x5 then ((spec_l8Num.f k x3 (Int.tmod (wrap64 (x177000 + (rd x4 x5))) 12)).bind fun t185 => (spec_TonesOf.l0 k t185 x4 (wrap64 (x5 + 1)) x177000 x177001)) else (none)) else (some x3)
def spec_TonesOf.f (k : Nat) (a0_0 : Int) (a0_1 : Int) : Option (List Int) := (some (([] : List Int) : List Int)).bind fun y177 => ((spec_IsChord.f a0_0 a0_1).bind fun t180 => (if t180 = true then ((spec_l22Halves.f a0_1).bind fun t181 => (spec_TonesOf.l0 k y177 t181 0 a0_0 a0_1)) else (some y177)))
theorem spec_TonesOf.mono_l : ∀ k, (∀ y0 y1 y2 y3 y4, LeO (spec_TonesOf.l0 k y0 y1 y2 y3 y4) (spec_TonesOf.l0 (k + 1) y0 y1 y2 y3 y4))
 | 0 => fun _ _ _ _ _ r h => by simp [spec_TonesOf.l0] at h
 | k + 1 => by
  have ih0 := spec_TonesOf.mono_l k
  · intro y0 y1 y2 y3 y4
    unfold spec_TonesOf.l0
    repeat' first
    | (with_reducible exact ih0 _ _ _ _ _)
    | (with_reducible exact spec_l8Num.mono _ _ _)
    | (with_reducible exact LeO.refl _)
    | (with_reducible exact LeO.none _)
    | (with_reducible refine LeO.ite ?_ ?_)
    | (with_reducible refine LeO.bind ?_ (fun _ => ?_))
    | exact ih0 _ _ _ _ _
    | exact spec_l8Num.mono _ _ _
    | exact LeO.none _
    | refine LeO.ite ?_ ?_
    | refine LeO.bind ?_ (fun _ => ?_)
theorem spec_TonesOf.mono : ∀ a0 a1 k, LeO (spec_TonesOf.f k a0 a1) (spec_TonesOf.f (k + 1) a0 a1) := by
 intro a0 a1 k; have ih0 := spec_TonesOf.mono_l k; unfold spec_TonesOf.f
 repeat' first
  | (with_reducible exact ih0 _ _ _ _ _)
  | (with_reducible exact spec_l8Num.mono _ _ _)
  | (with_reducible exact LeO.refl _)
  | (with_reducible exact LeO.none _)
  | (with_reducible refine LeO.ite ?_ ?_)
  | (with_reducible refine LeO.bind ?_ (fun _ => ?_))
  | exact ih0 _ _ _ _ _
  | exact spec_l8Num.mono _ _ _
  | exact LeO.none _
  | refine LeO.ite ?_ ?_
  | refine LeO.bind ?_ (fun _ => ?_)
def spec_TonesOf.T8 : Bool × List (List Nat × List Nat) := (true, [([], []), ([], []), ([1], [1]), ([], []), ([], []), ([3, 4], [3, 4]), ([5], [5]), ([2, 6], [2, 6]), ([7], [7]), ([0, 8], [0, 8]), ([9, 9, 0, 1, 2, 3, 4, 5, 6, 7, 8, 9], [0, 9])])
def spec_TonesOf.B8 : List Nat := [0, 0, 2, 0, 0, 24, 56, 126, 254, 511, 1023]
theorem spec_TonesOf.tab8 : rtab .any (opsOf Try.f15 8) = spec_TonesOf.T8 := by kernel_rfl
theorem spec_TonesOf.bits8 : waitsOk spec_TonesOf.T8.2 spec_TonesOf.B8 = true := by kernel_rfl
set_option maxHeartbeats 8000000 in
set_option maxRecDepth 100000 in
theorem spec_TonesOf.calls (k : Nat) (a0_0 : Int) (a0_1 : Int) (r : List Int) (w : World) (h : spec_TonesOf.f k a0_0 a0_1 = some r) :
 Calls Try.prog 15 #[.agg #[.int .i64 a0_0, .int .i64 a0_1]] w fun e w' => ∃ v0_ : Value, e = .returned (v0_) ∧ Kd.R (Kd.int .i64) 3 w' w.heap.size (fun _ => True) v0_ r ∧ Below w.heap.size w w' := by
 have hu30 := Try.underlying30; have HB := q0_3 (Below.refl w.heap.size w); (have H : ((some (([] : List Int) : List Int)).bind fun y177 => ((spec_IsChord.f a0_0 a0_1).bind fun t180 => (if t180 = true then ((spec_l22Halves.f a0_1).bind fun t181 => (spec_TonesOf.l0 k y177 t181 0 a0_0 a0_1)) else (some y177)))) = some r := h); clear h; obtain ⟨y177, hy177⟩ : ∃ y_ : List Int, y_ = (([] : List Int)) := ⟨_, rfl⟩; (replace H : ((spec_IsChord.f a0_0 a0_1).bind fun t180 => (if t180 = true then ((spec_l22Halves.f a0_1).bind fun t181 => (spec_TonesOf.l0 k y177 t181 0 a0_0 a0_1)) else (some y177))) = some r := by first | (rw [hy177]; with_reducible exact H) | (have H2_ := (Option.bind_some _ _).symm.trans H; rw [hy177]; with_reducible exact H2_) | (have H2_ := (Option.bind_some _ _).symm.trans H; with_reducible exact H2_) | with_reducible exact H | (rw [hy177]; exact H) | exact H); have Ny177 := q0_3 hy177; clear hy177; replace H := Option.bind_eq_some_iff.mp H; obtain ⟨t180, A20, H⟩ := H; replace H : (if t180 = true then ((spec_l22Halves.f a0_1).bind fun t181 => (spec_TonesOf.l0 k y177 t181 0 a0_0 a0_1)) else (some y177)) = some r := H; have A2 := q0_3 A20; clear A20
 by_cases c3 : t180 = true
 · subst c3
   have H1 : ((spec_l22Halves.f a0_1).bind fun t181 => (spec_TonesOf.l0 k y177 t181 0 a0_0 a0_1)) = some r := by rw [if_pos rfl] at H; exact H
   clear H; have H := H1; clear H1; replace H := Option.bind_eq_some_iff.mp H; obtain ⟨t181, A40, H⟩ := H; replace H : (spec_TonesOf.l0 k y177 t181 0 a0_0 a0_1) = some r := H; have A4 := q0_3 A40; clear A40; (have H' := q0_3 H); clear H; go_enter Try.func15, Try.ntmps15
   (go_wp2_with (first | ((with_reducible refine gate_dst (N := 1) rfl ?_); refine box_event ?hg (N := 1) ?hd (cs := #[.int .i64 a0_0, .int .i64 a0_1]) (t := 30) ?hr ?_; (case hd => rfl); (case hg => rfl); (case hr => first | (go_simp; done) | (go_simp; rfl)); intro q9 hg w5 hbox hb; have n0_ := q0_3 (below_step (qf_3) hb); have n1_ := q0_3 (hbox); have n2_ := q0_3 ((by rw [hg]; exact (below_size (qf_3)) : w.heap.size ≤ q9)); have n3_ := q0_3 ((by rw [hg]; exact (below_size (qf_3)) : w.heap.size ≤ q9)); clear HB; have HB := n0_; have q1 := n1_; have GW176 := n2_; have z03 := n3_; clear n0_ n1_ n2_ n3_; clear hb hbox hg) | ((with_reducible refine gate_dst (N := 6) rfl ?_); refine Kd.R_lit (Kd.int .i64) _ 3 ?hg (N := 6) ?hd (xs := ([] : List Int)) (inner := []) (ok := fun _ => True) (okp := fun _ => True) ?hr ?hp (fun _ hk => hk) trivial (Below.refl _ _) (Nat.le_refl _) (by simp) ?_; (case hd => rfl); (case hg => rfl); (case hr => first | (go_simp; done) | (go_simp; rfl)); (case hp => exact (Reps.none _ _)); intro v178 w6 ho7 hb hg_ hnew_; clear hg_ hnew_; (first | rw [← Ny177.out] at ho7 | (simp only [Int.reduceToNat] at ho7; rw [← Ny177.out] at ho7)); have n0_ := q0_3 (Kd.R_lower ho7 (below_size (q3_3))); have n1_ := q0_3 (bb q1.out hb); have n2_ := q0_3 (below_step (q3_3) hb); clear q1; clear HB; have qe := n0_; have q1 := n1_; have HB := n2_; clear n0_ n1_ n2_; clear hb ho7; have hcz8_0 : w6.cell? ⟨q9, 0, none⟩ = some (.int .i64 a0_0) := (blk_cell q1.out 0).trans rfl; have hcz8_1 : w6.cell? ⟨q9, 1, none⟩ = some (.int .i64 a0_1) := (blk_cell q1.out 1).trans rfl; have hfz8_0 := blk_frozen q1.out 0; have hfz8_1 := blk_frozen q1.out 1) | ((with_reducible refine gate_callee (f := 39) rfl ?_); refine goesL_ (some 8) rfl rfl Try.func39 (by kernel_rfl) rfl #[.agg #[.int .i64 a0_0, .int .i64 a0_1]] rfl ma ?_; (with_reducible refine (spec_IsChord.calls a0_0 a0_1 true _ A2.out).mono ?_); rintro e w9 ⟨rfl, hb⟩; refine ⟨_, rfl, ?_⟩; have n0_ := q0_3 (Kd.R_below (ra qe.out) hb); have n1_ := q0_3 (bb q1.out hb); have n2_ := q0_3 (below_step (q3_3) hb); clear qe; clear q1; clear HB; have qe := n0_; have q1 := n1_; have HB := n2_; clear n0_ n1_ n2_; (try clear hb); (try clear hb2); (try clear hk); (try clear hi); have hcz10_0 : w9.cell? ⟨q9, 0, none⟩ = some (.int .i64 a0_0) := (blk_cell q1.out 0).trans rfl; have hcz10_1 : w9.cell? ⟨q9, 1, none⟩ = some (.int .i64 a0_1) := (blk_cell q1.out 1).trans rfl; have hfz10_0 := blk_frozen q1.out 0; have hfz10_1 := blk_frozen q1.out 1) | ((with_reducible refine gate_callee (f := 40) rfl ?_); refine goesL_ (some 13) rfl rfl Try.func40 (by kernel_rfl) rfl #[.int .i64 a0_1] rfl ma ?_; (with_reducible refine (spec_l22Halves.calls a0_1 t181 _ A4.out).mono ?_); rintro e w11 ⟨v182, rfl, ho0, hb⟩; refine ⟨_, rfl, ?_⟩; have n0_ := q0_3 (Kd.R_below (ra qe.out) hb); have n1_ := q0_3 (Kd.V_lower (Kd.V_mono (ok' := fun k_ => some k_ ≠ (v178 : Value).ownBlock ∧ k_ ≠ q9) ho0 (fun k_ hk_ => ⟨(Kd.fresh' (Kd.R_lt (ra qe.out)) k_ hk_), (Kd.freshB (g := q9) (o := .cells #[.int .i64 a0_0, .int .i64 a0_1] 30 (0, 0)) (ba q1.out) k_ hk_)⟩)) (below_size (q3_3))); have n2_ := q0_3 (bb q1.out hb); have n3_ := q0_3 (below_step (q3_3) hb); clear qe; clear q1; clear HB; have qe := n0_; have z04 := n1_; have q1 := n2_; have HB := n3_; clear n0_ n1_ n2_ n3_; (try clear hb); (try clear hb2); (try clear hk); (try clear hi); (try clear ho0))))
   (go_loopg [3, 5] k (fun kq v3 v5 w' => ∃ (x3_1 : List Int) (x5_1 : Int), v5 = .int .i64 x5_1 ∧ Aside0 (spec_TonesOf.l0 kq x3_1 t181 x5_1 a0_0 a0_1 = some r) ∧ Aside0 (kq ≤ k) ∧ Aside0 (Kd.R (Kd.int .i64) 3 w' w.heap.size (fun _ => True) v3 x3_1) ∧ Aside0 (Kd.V (Kd.int .i64) 3 w' w.heap.size (fun k_ => some k_ ≠ (v3 : Value).ownBlock ∧ k_ ≠ q9) v182 t181) ∧ Aside0 (w'.heap[q9]? = some (.cells #[.int .i64 a0_0, .int .i64 a0_1] 30 (0, 0))) ∧ Aside0 (Below w.heap.size w w')))
   case atStart => exact ⟨(y177), (0), (by first | rfl | (simp; done) | (simp [*]; done)), H', ⟨Nat.le_refl _⟩, ⟨by refine ra ?_; exact qe.out⟩, ⟨by (with_reducible repeat (first | apply Kd.V_alloc | apply Kd.V_drewN | apply Kd.V_drew)); exact z04.out⟩, ⟨by refine ba ?_; exact q1.out⟩, ⟨by exact (q3_3)⟩⟩
   case round =>
    clear H'; (try clear c1); (try clear p2); (try clear c3); (try clear c4); (try clear hcz10_0); (try clear hcz10_1); (try clear hcz8_0); (try clear hcz8_1); (try clear hfz10_0); (try clear hfz10_1); (try clear hfz8_0); (try clear hfz8_1); obtain ⟨x3_1, x5_1, rfl, HA, HK1, qd, qm, q1, HB⟩ := hrel
    cases gk with
    | zero => exact absurd HA.out (by simp [spec_TonesOf.l0])
    | succ k1 =>
     have H := HA.out; clear HA; (simp only [spec_TonesOf.l0] at H)
     by_cases c12 : x5_1 < (t181.length : Int)
     · rw [if_pos c12] at H
       (have c12b0 : decide (x5_1 < (t181.length : Int)) = true := decide_eq_true c12); clear c12
       by_cases c13 : 0 ≤ x5_1
       · rw [if_pos c13] at H
         (have c13b0 : decide (0 ≤ x5_1) = true := decide_eq_true c13); clear c13; replace H := Option.bind_eq_some_iff.mp H; obtain ⟨t185, A140, H⟩ := H; replace H : (spec_TonesOf.l0 k1 t185 t181 (wrap64 (x5_1 + 1)) a0_0 a0_1) = some r := H; have A14 := q0_3 A140; clear A140; (have H' := q0_3 H); clear H; obtain ⟨qu, qv, eo15⟩ := Kd.V_slice qm.out; subst eo15; (try go_wp2); have n0_ := q0_3 (Kd.R_drew qd.out); have n1_ := q0_3 (Kd.V_drew qm.out); have n2_ := q0_3 (blk_drew q1.out); have n3_ := q0_3 (below_drew1 HB.out); clear qd qm q1 HB; have qd := n0_; have qm := n1_; have q1 := n2_; have HB := n3_; clear n0_ n1_ n2_ n3_; (have p184 : 0 ≤ (x5_1 : Int) := of_decide_eq_true (by first | (with_reducible assumption) | assumption)); (have q184 : x5_1 < (t181.length : Int) := of_decide_eq_true (by first | (with_reducible assumption) | assumption)); obtain ⟨ad184, e184, hx184_0⟩ := Kd.at_int (Kd.V_reads' qm.out).2.2 x5_1 p184 q184
         cases e184
         replace p184 := eq_true p184; replace q184 := eq_true q184; obtain ⟨qs, qt, eo17⟩ := Kd.R_slice qd.out; ((first | subst eo17 | (injection eo17 with f1_ f2_ f3_; have f4_ := f1_.symm; have f5_ := f3_.symm; clear f1_ f2_ f3_; subst f4_; subst f5_))); refine start_ (n := 11) (S := fun w' => w'.cell? ⟨q9, 0, none⟩ = some (.int .i64 a0_0) ∧ w'.cell? ⟨q9, 1, none⟩ = some (.int .i64 a0_1) ∧ w'.cell? (ad184.add (x5_1).toNat) = some (.int .i64 (rd t181 x5_1))) (ds := []) (bq 0 11) (by kernel_rfl) rfl rfl ⟨(blk_cell q1.out 0).trans rfl, (blk_cell q1.out 1).trans rfl, hx184_0⟩ (fun hHeld => ?_); refine with_tabW spec_TonesOf.tab8 spec_TonesOf.bits8 (fun HT_ HW_ => ?_); generalize wr.drew = w16 at qd qm q1 HB hx184_0 hHeld ⊢; refine pure_ (i := 0) (N := some 20) (v := ?_) (a' := ?_) (bq 1 11) rfl rfl (any_of HT_.out (by kernel_rfl)) (fun _ _ _ h => h) (Or.inl ⟨by rfl, ?_⟩) ?_ ?_; rotate_left; (intro w'; go_simp; with_reducible rfl); rotate_left; (exact pb); refine pure_ (i := 1) (N := some 21) (v := ?_) (a' := ?_) (bq 3 11) rfl rfl (any_of HT_.out (by kernel_rfl)) (fun _ _ _ h => h) (Or.inl ⟨by rfl, ?_⟩) ?_ ?_; rotate_left; (intro w'; go_simp; with_reducible rfl); rotate_left; (exact pb); refine pure_ (i := 3) (N := some 23) (v := ?_) (a' := ?_) (bq 11 11) rfl rfl (any_of HT_.out (by kernel_rfl)) (fun _ _ _ h => h) (Or.inl ⟨by rfl, ?_⟩) ?_ ?_; rotate_left; (intro w'; go_simp; with_reducible rfl); rotate_left; (exact pb); refine pure_ (i := 4) (N := some 24) (v := ?_) (a' := ?_) (bq 27 11) rfl rfl (any_of HT_.out (by kernel_rfl)) (fun _ _ _ h => h) (Or.inl ⟨by rfl, ?_⟩) ?_ ?_; rotate_left; (intro w'; go_simp; with_reducible rfl); rotate_left; (exact pb); refine pure_ (i := 5) (N := some 25) (v := ?_) (a' := ?_) (bq 59 11) rfl rfl (any_of HT_.out (by kernel_rfl)) (fun _ _ _ h => h) (Or.inl ⟨by rfl, ?_⟩) ?_ ?_; rotate_left; (intro w'; go_simp; with_reducible rfl); rotate_left; (exact pb); refine take_ (i := 2) (N := some 22) (v := ?_) (a' := ?_) (bq 63 11) rfl rfl (take_ofW HT_.out HW_.out (by kernel_rfl)) (fun _ _ _ h => h) (Or.inl ⟨by rfl, ?_⟩) hHeld ?_ ?_; rotate_left; (rintro w' ⟨s0, s1, s2⟩; go_simp; with_reducible rfl); rotate_left; (exact pb); refine take_ (i := 6) (N := some 26) (v := ?_) (a' := ?_) (bq 127 11) rfl rfl (take_ofW HT_.out HW_.out (by kernel_rfl)) (fun _ _ _ h => h) (Or.inl ⟨by rfl, ?_⟩) hHeld ?_ ?_; rotate_left; (rintro w' ⟨s0, s1, s2⟩; go_simp; with_reducible rfl); rotate_left; (exact pb); refine pure_ (i := 7) (N := some 27) (v := ?_) (a' := ?_) (bq 255 11) rfl rfl (any_of HT_.out (by kernel_rfl)) (fun _ _ _ h => h) (Or.inl ⟨by rfl, ?_⟩) ?_ ?_; rotate_left; (intro w'; go_simp; with_reducible rfl); rotate_left; (exact pb); refine pure_ (i := 8) (N := some 28) (v := ?_) (a' := ?_) (bq 511 11) rfl rfl (any_of HT_.out (by kernel_rfl)) (fun _ _ _ h => h) (Or.inl ⟨by rfl, ?_⟩) ?_ ?_; rotate_left; (intro w'; go_simp; with_reducible rfl); rotate_left; (exact pb)
         refine one_ (i := 9) (N := some 29) (bq 1023 11) rfl rfl (one_of HT_.out (by kernel_rfl)) (by decide) (fun K hK => ?_); refine goes_ Try.func34 (by kernel_rfl) rfl #[.slice qs x3_1.length qt, .int .i64 (Int.tmod (wrap64 (a0_0 + (rd t181 x5_1))) 12)] (by rfl) rfl rfl ma ?_; (with_reducible refine (spec_l8Num.calls k1 _ _ x3_1 (Int.tmod (wrap64 (a0_0 + (rd t181 x5_1))) 12) t185 _ ?side1 ?side2 A14.out).mono ?_); ((case side1 => exact ca (Kd.R_reads' qd.out).2.2)); ((case side2 => exact (Kd.R_reads' qd.out).2.1)); rintro e w18 ⟨v186, rfl, ho0, hb⟩; have HS2_ := (hb.cell (World.block_lt_of_cell? _ _ (hHeld.2.2))).trans (hHeld.2.2); refine ⟨_, rfl, ?_⟩; have n0_ := q0_3 (Kd.R_elder' (ra qd.out) (Kd.R_base ho0) hb); have n1_ := q0_3 (Kd.V_elder' (by (with_reducible repeat (first | apply Kd.V_alloc | apply Kd.V_drewN | apply Kd.V_drew)); exact qm.out) (Kd.R_base ho0) hb); have n2_ := q0_3 (Kd.R_lower (Kd.R_new' ho0 (Kd.R_lt (ra qd.out))) (below_size (q3_3))); have n3_ := q0_3 (bb q1.out hb); have n4_ := q0_3 (below_step (q3_3) hb); clear qd qm q1 HB; have qd := n0_; have qm := n1_; have z05 := n2_; have q1 := n3_; have HB := n4_; clear n0_ n1_ n2_ n3_ n4_; ((try clear hb)); ((try clear hb2)); ((try clear hk)); ((try clear hi)); ((try clear ho0)); refine hK.out _ _ ⟨(blk_cell q1.out 0).trans rfl, (blk_cell q1.out 1).trans rfl, HS2_⟩ (fun hHeld => ?_); clear hK K; refine norm_ (a' := ?_) ?_ ?_; rotate_left; ((show Act.put _ (some 29) _ = _); simp only [Act.put, List.setIfInBounds_toArray, List.set_cons_zero, List.set_cons_succ, i64_w, i32_w]; rfl); refine pure_ (i := 10) (N := some 3) (v := ?_) (a' := ?_) (bq 2047 11) rfl rfl (any_of HT_.out (by kernel_rfl)) (fun _ _ _ h => h) (Or.inl ⟨by rfl, ?_⟩) ?_ ?_; rotate_left; (intro w'; go_simp; with_reducible rfl); rotate_left; (exact pb); refine done_ (done_of HT_.out (by kernel_rfl)) ?_; (try go_wp2); (go_roundg k1)
         case measure => have := HK1.out; omega
         case rel => exact ⟨(t185), (wrap64 (x5_1 + 1)), (by first | rfl | (simp; done) | (simp [*]; done)), H', ⟨by have := HK1.out; omega⟩, ⟨by refine ra ?_; exact Kd.R_mono z05.out (fun _ hk => trivial)⟩, ⟨by (with_reducible repeat (first | apply Kd.V_alloc | apply Kd.V_drewN | apply Kd.V_drew)); exact Kd.V_mono qm.out (fun _ hk => ⟨hk.2, hk.1.2⟩)⟩, ⟨by refine ba ?_; exact q1.out⟩, ⟨by exact (q3_3)⟩⟩
       · rw [if_neg c13] at H
         exact absurd H (by simp)
     · rw [if_neg c12] at H
       (have c12b0 : decide (x5_1 < (t181.length : Int)) = false := decide_eq_false c12); clear c12; obtain rfl := Option.some.inj H; obtain ⟨qp, qq, eo19⟩ := Kd.V_slice qm.out; subst eo19; (go_wp2); go_ret; (exact ⟨_, by first | rfl | (simp [errW_none, errW_some] <;> rfl) | (simp [*, errW_none, errW_some] <;> rfl), by refine ra ?_; exact qd.out, by exact (q3_3)⟩)
 · replace c3 := Bool.eq_false_iff.mpr c3
   subst c3; (have H1 : (some y177) = some r := by rw [if_neg (show ¬ (false = true) by decide)] at H; exact H); clear H; have H := H1; clear H1; obtain rfl := Option.some.inj H; go_enter Try.func15, Try.ntmps15; (go_wp2_with (first | ((with_reducible refine gate_dst (N := 1) rfl ?_); refine box_event ?hg (N := 1) ?hd (cs := #[.int .i64 a0_0, .int .i64 a0_1]) (t := 30) ?hr ?_; (case hd => rfl); (case hg => rfl); (case hr => first | (go_simp; done) | (go_simp; rfl)); intro q9 hg w20 hbox hb; have n0_ := q0_3 (below_step (qf_3) hb); have n1_ := q0_3 (hbox); have n2_ := q0_3 ((by rw [hg]; exact (below_size (qf_3)) : w.heap.size ≤ q9)); have n3_ := q0_3 ((by rw [hg]; exact (below_size (qf_3)) : w.heap.size ≤ q9)); clear HB; have HB := n0_; have q1 := n1_; have GW176 := n2_; have z03 := n3_; clear n0_ n1_ n2_ n3_; clear hb hbox hg) | ((with_reducible refine gate_dst (N := 6) rfl ?_); refine Kd.R_lit (Kd.int .i64) _ 3 ?hg (N := 6) ?hd (xs := ([] : List Int)) (inner := []) (ok := fun _ => True) (okp := fun _ => True) ?hr ?hp (fun _ hk => hk) trivial (Below.refl _ _) (Nat.le_refl _) (by simp) ?_; (case hd => rfl); (case hg => rfl); (case hr => first | (go_simp; done) | (go_simp; rfl)); (case hp => exact (Reps.none _ _)); intro v178 w21 ho22 hb hg_ hnew_; clear hg_ hnew_; (first | rw [← Ny177.out] at ho22 | (simp only [Int.reduceToNat] at ho22; rw [← Ny177.out] at ho22)); have n0_ := q0_3 (Kd.R_lower ho22 (below_size (q3_3))); have n1_ := q0_3 (bb q1.out hb); have n2_ := q0_3 (below_step (q3_3) hb); clear q1; clear HB; have qe := n0_; have q1 := n1_; have HB := n2_; clear n0_ n1_ n2_; clear hb ho22; have hcz23_0 : w21.cell? ⟨q9, 0, none⟩ = some (.int .i64 a0_0) := (blk_cell q1.out 0).trans rfl; have hcz23_1 : w21.cell? ⟨q9, 1, none⟩ = some (.int .i64 a0_1) := (blk_cell q1.out 1).trans rfl; have hfz23_0 := blk_frozen q1.out 0; have hfz23_1 := blk_frozen q1.out 1) | ((with_reducible refine gate_callee (f := 39) rfl ?_); refine goesL_ (some 8) rfl rfl Try.func39 (by kernel_rfl) rfl #[.agg #[.int .i64 a0_0, .int .i64 a0_1]] rfl ma ?_; (with_reducible refine (spec_IsChord.calls a0_0 a0_1 false _ A2.out).mono ?_); rintro e w24 ⟨rfl, hb⟩; refine ⟨_, rfl, ?_⟩; have n0_ := q0_3 (Kd.R_below (ra qe.out) hb); have n1_ := q0_3 (bb q1.out hb); have n2_ := q0_3 (below_step (q3_3) hb); clear qe; clear q1; clear HB; have qe := n0_; have q1 := n1_; have HB := n2_; clear n0_ n1_ n2_; (try clear hb); (try clear hb2); (try clear hk); (try clear hi)))); go_ret; (exact ⟨_, by first | rfl | (simp [errW_none, errW_some] <;> rfl) | (simp [*, errW_none, errW_some] <;> rfl), by refine ra ?_; exact qe.out, by exact (q3_3)⟩)
/-! ### spec_EqualInts: function 42 -/
def spec_EqualInts.l0 : Nat → List Int → List Int → Int → Option (Bool)
 | 0, _, _, _ => none
 | k + 1, x0, x1, x5 => if x5 < (x0.length : Int) then (if 0 ≤ x5 then (if x5 < (x1.length : Int) then (if (rd x0 x5) = (rd x1 x5) then (spec_EqualInts.l0 k x0 x1 (wrap64 (x5 + 1))) else (some false)) else (none)) else (none)) else (some true)
def spec_EqualInts.f (k : Nat) (l0 : List Int) (l1 : List Int) : Option (Bool) := if (l0.length : Int) = (l1.length : Int) then (spec_EqualInts.l0 k l0 l1 0) else (some false)
theorem spec_EqualInts.mono_l : ∀ k, (∀ y0 y1 y2, LeO (spec_EqualInts.l0 k y0 y1 y2) (spec_EqualInts.l0 (k + 1) y0 y1 y2))
 | 0 => fun _ _ _ r h => by simp [spec_EqualInts.l0] at h
 | k + 1 => by
  have ih0 := spec_EqualInts.mono_l k
  · intro y0 y1 y2
    unfold spec_EqualInts.l0
    repeat' first
    | (with_reducible exact ih0 _ _ _)
    | (with_reducible exact LeO.refl _)
    | (with_reducible exact LeO.none _)
    | (with_reducible refine LeO.ite ?_ ?_)
    | (with_reducible refine LeO.bind ?_ (fun _ => ?_))
    | exact ih0 _ _ _
    | exact LeO.none _
    | refine LeO.ite ?_ ?_
    | refine LeO.bind ?_ (fun _ => ?_)
theorem spec_EqualInts.mono : ∀ a0 a1 k, LeO (spec_EqualInts.f k a0 a1) (spec_EqualInts.f (k + 1) a0 a1) := by
 intro a0 a1 k; have ih0 := spec_EqualInts.mono_l k; unfold spec_EqualInts.f
 repeat' first
  | (with_reducible exact ih0 _ _ _)
  | (with_reducible exact LeO.refl _)
  | (with_reducible exact LeO.none _)
  | (with_reducible refine LeO.ite ?_ ?_)
  | (with_reducible refine LeO.bind ?_ (fun _ => ?_))
  | exact ih0 _ _ _
  | exact LeO.none _
  | refine LeO.ite ?_ ?_
  | refine LeO.bind ?_ (fun _ => ?_)
set_option maxHeartbeats 8000000 in
set_option maxRecDepth 100000 in
theorem spec_EqualInts.calls (k : Nat) (A0 : Option Addr) (c0 : Nat) (l0 : List Int) (A1 : Option Addr) (c1 : Nat) (l1 : List Int) (r : Bool) (w : World) (hr0 : Kd.C (Kd.int .i64) w A0 l0.length l0) (hc0 : l0.length ≤ c0) (hr1 : Kd.C (Kd.int .i64) w A1 l1.length l1) (hc1 : l1.length ≤ c1) (h : spec_EqualInts.f k l0 l1 = some r) :
 Calls Try.prog 42 #[.slice A0 l0.length c0, .slice A1 l1.length c1] w fun e w' => e = .returned (.bool r) ∧ Drawn0 w w' := by
 have HR0 := q0_3 hr0; have HC0 := q0_3 hc0; clear hr0 hc0; have HR1 := q0_3 hr1; have HC1 := q0_3 hc1; clear hr1 hc1; (have H : (if (l0.length : Int) = (l1.length : Int) then (spec_EqualInts.l0 k l0 l1 0) else (some false)) = some r := h); clear h
 by_cases c3 : (l0.length : Int) = (l1.length : Int)
 · rw [if_pos c3] at H
   (have c3b0 : ((l0.length : Int) == (l1.length : Int)) = true := beq_iff_eq.mpr c3); (have c3b1 : ((l0.length : Int) != (l1.length : Int)) = false := bne_eq_false_iff_eq.mpr c3); (have c3b2 : (l0.length == l1.length) = true := by first | simpa using c3 | (simp at c3 ⊢; omega)); clear c3; (have H' := q0_3 H); clear H; go_enter Try.func42, Try.ntmps42; (go_wp2); (repeat (go_quiet (fail); try go_wp2)); (go_loopg [5] k (fun kq v5 w' => ∃ (x5_1 : Int), v5 = .int .i64 x5_1 ∧ Aside0 (spec_EqualInts.l0 kq l0 l1 x5_1 = some r) ∧ Aside0 (kq ≤ k) ∧ Drawn0 w w'))
   case atStart => exact ⟨(0), (by first | rfl | (simp; done) | (simp [*]; done)), H', ⟨Nat.le_refl _⟩, by repeat (first | exact Drawn0.refl _ | apply Drawn0.step)⟩
   case round =>
    clear H'; (try clear c1); (try clear p2); (try clear c3); (try clear c3b0); (try clear c3b1); (try clear c3b2); obtain ⟨x5_1, rfl, HA, HK1, ⟨m1, rfl⟩⟩ := hrel
    cases gk with
    | zero => exact absurd HA.out (by simp [spec_EqualInts.l0])
    | succ k1 =>
     have H := HA.out; clear HA; (simp only [spec_EqualInts.l0] at H)
     by_cases c4 : x5_1 < (l0.length : Int)
     · rw [if_pos c4] at H
       (have c4b0 : decide (x5_1 < (l0.length : Int)) = true := decide_eq_true c4); clear c4
       by_cases c5 : 0 ≤ x5_1
       · rw [if_pos c5] at H
         (have c5b0 : decide (0 ≤ x5_1) = true := decide_eq_true c5); clear c5
         by_cases c6 : x5_1 < (l1.length : Int)
         · rw [if_pos c6] at H
           (have c6b0 : decide (x5_1 < (l1.length : Int)) = true := decide_eq_true c6); clear c6
           by_cases c7 : (rd l0 x5_1) = (rd l1 x5_1)
           · rw [if_pos c7] at H
             (have c7b0 : ((rd l0 x5_1) == (rd l1 x5_1)) = true := beq_iff_eq.mpr c7); (have c7b1 : ((rd l0 x5_1) != (rd l1 x5_1)) = false := bne_eq_false_iff_eq.mpr c7); clear c7; (have H' := q0_3 H); clear H; (have p188 : 0 ≤ (x5_1 : Int) := of_decide_eq_true (by first | (with_reducible assumption) | assumption)); (have q188 : x5_1 < (l0.length : Int) := of_decide_eq_true (by first | (with_reducible assumption) | assumption)); obtain ⟨ad188, e188, hx188_0⟩ := Kd.at_int HR0.out x5_1 p188 q188
             cases e188
             replace p188 := eq_true p188; replace q188 := eq_true q188; (have p189 : 0 ≤ (x5_1 : Int) := of_decide_eq_true (by first | (with_reducible assumption) | assumption)); (have q189 : x5_1 < (l1.length : Int) := of_decide_eq_true (by first | (with_reducible assumption) | assumption)); obtain ⟨ad189, e189, hx189_0⟩ := Kd.at_int HR1.out x5_1 p189 q189
             cases e189
             replace p189 := eq_true p189; replace q189 := eq_true q189; (go_wp2); (repeat (go_quiet (fail); try go_wp2)); (go_roundg k1)
             case measure => have := HK1.out; omega
             case rel => exact ⟨(wrap64 (x5_1 + 1)), (by first | rfl | (simp; done) | (simp [*]; done)), H', ⟨by have := HK1.out; omega⟩, by repeat (first | exact Drawn0.refl _ | apply Drawn0.step)⟩
           · rw [if_neg c7] at H
             (have c7b0 : ((rd l0 x5_1) == (rd l1 x5_1)) = false := beq_eq_false_iff_ne.mpr c7); (have c7b1 : ((rd l0 x5_1) != (rd l1 x5_1)) = true := bne_iff_ne.mpr c7); obtain rfl := Option.some.inj H; (have p188 : 0 ≤ (x5_1 : Int) := of_decide_eq_true (by first | (with_reducible assumption) | assumption)); (have q188 : x5_1 < (l0.length : Int) := of_decide_eq_true (by first | (with_reducible assumption) | assumption)); obtain ⟨ad188, e188, hx188_0⟩ := Kd.at_int HR0.out x5_1 p188 q188
             cases e188
             replace p188 := eq_true p188; replace q188 := eq_true q188; (have p189 : 0 ≤ (x5_1 : Int) := of_decide_eq_true (by first | (with_reducible assumption) | assumption)); (have q189 : x5_1 < (l1.length : Int) := of_decide_eq_true (by first | (with_reducible assumption) | assumption)); obtain ⟨ad189, e189, hx189_0⟩ := Kd.at_int HR1.out x5_1 p189 q189
             cases e189
             replace p189 := eq_true p189; replace q189 := eq_true q189; (go_wp2); (repeat (go_quiet (fail); try go_wp2)); go_ret; exact ⟨by first | rfl | (simp; done) | (simp [*]; done), by repeat (first | exact Drawn0.refl _ | apply Drawn0.step)⟩
         · rw [if_neg c6] at H
           exact absurd H (by simp)
       · rw [if_neg c5] at H
         exact absurd H (by simp)
     · rw [if_neg c4] at H
       (have c4b0 : decide (x5_1 < (l0.length : Int)) = false := decide_eq_false c4); clear c4; obtain rfl := Option.some.inj H; (go_wp2); (repeat (go_quiet (fail); try go_wp2)); go_ret; exact ⟨by first | rfl | (simp; done) | (simp [*]; done), by repeat (first | exact Drawn0.refl _ | apply Drawn0.step)⟩
 · rw [if_neg c3] at H
   (have c3b0 : ((l0.length : Int) == (l1.length : Int)) = false := beq_eq_false_iff_ne.mpr c3); (have c3b1 : ((l0.length : Int) != (l1.length : Int)) = true := bne_iff_ne.mpr c3); (have c3b2 : (l0.length == l1.length) = false := by first | simpa using c3 | (simp at c3 ⊢; omega)); obtain rfl := Option.some.inj H; go_enter Try.func42, Try.ntmps42; (go_wp2); (repeat (go_quiet (fail); try go_wp2)); go_ret; exact ⟨by first | rfl | (simp; done) | (simp [*]; done), by repeat (first | exact Drawn0.refl _ | apply Drawn0.step)⟩
/-! ### spec_ChordOf: function 18 -/
mutual
def spec_ChordOf.l0 : Nat → List Int → Int → Option (Int × Int × Bool)
 | 0, _, _ => none
 | k + 1, x0, x4 => if x4 ≤ 5 then (spec_ChordOf.l1 k x0 x4 0) else (some (0, 0, false))
def spec_ChordOf.l1 : Nat → List Int → Int → Int → Option (Int × Int × Bool)
 | 0, _, _, _ => none
 | k + 1, x0, x4, x5 => if x5 < 12 then ((spec_TonesOf.f k x5 x4).bind fun t192 => ((spec_EqualInts.f k t192 x0).bind fun t195 => (if t195 = true then (some (x5, x4, true)) else (spec_ChordOf.l1 k x0 x4 (wrap64 (x5 + 1)))))) else (spec_ChordOf.l0 k x0 (wrap64 (x4 + 1)))
end
def spec_ChordOf.f (k : Nat) (l0 : List Int) : Option (Int × Int × Bool) := spec_ChordOf.l0 k l0 1
theorem spec_ChordOf.mono_l : ∀ k, (∀ y0 y1, LeO (spec_ChordOf.l0 k y0 y1) (spec_ChordOf.l0 (k + 1) y0 y1)) ∧ (∀ y0 y1 y2, LeO (spec_ChordOf.l1 k y0 y1 y2) (spec_ChordOf.l1 (k + 1) y0 y1 y2))
 | 0 => ⟨fun _ _ r h => by simp [spec_ChordOf.l0] at h, fun _ _ _ r h => by simp [spec_ChordOf.l1] at h⟩
 | k + 1 => by
  obtain ⟨ih0, ih1⟩ := spec_ChordOf.mono_l k; refine ⟨?_, ?_⟩
  · intro y0 y1
    unfold spec_ChordOf.l0
    repeat' first
    | (with_reducible exact ih0 _ _)
    | (with_reducible exact ih1 _ _ _)
    | (with_reducible exact spec_EqualInts.mono _ _ _)
    | (with_reducible exact spec_TonesOf.mono _ _ _)
    | (with_reducible exact LeO.refl _)
    | (with_reducible exact LeO.none _)
    | (with_reducible refine LeO.ite ?_ ?_)
    | (with_reducible refine LeO.bind ?_ (fun _ => ?_))
    | exact ih0 _ _
    | exact ih1 _ _ _
    | exact spec_EqualInts.mono _ _ _
    | exact spec_TonesOf.mono _ _ _
    | exact LeO.none _
    | refine LeO.ite ?_ ?_
    | refine LeO.bind ?_ (fun _ => ?_)
  · intro y0 y1 y2
    unfold spec_ChordOf.l1
    repeat' first
    | (with_reducible exact ih0 _ _)
    | (with_reducible exact ih1 _ _ _)
    | (with_reducible exact spec_EqualInts.mono _ _ _)
    | (with_reducible exact spec_TonesOf.mono _ _ _)
    | (with_reducible exact LeO.refl _)
    | (with_reducible exact LeO.none _)
    | (with_reducible refine LeO.ite ?_ ?_)
    | (with_reducible refine LeO.bind ?_ (fun _ => ?_))
    | exact ih0 _ _
    | exact ih1 _ _ _
    | exact spec_EqualInts.mono _ _ _
    | exact spec_TonesOf.mono _ _ _
    | exact LeO.none _
    | refine LeO.ite ?_ ?_
    | refine LeO.bind ?_ (fun _ => ?_)
theorem spec_ChordOf.mono : ∀ a0 k, LeO (spec_ChordOf.f k a0) (spec_ChordOf.f (k + 1) a0) := by
 intro a0 k; obtain ⟨ih0, ih1⟩ := spec_ChordOf.mono_l k; unfold spec_ChordOf.f
 repeat' first
  | (with_reducible exact ih0 _ _)
  | (with_reducible exact ih1 _ _ _)
  | (with_reducible exact spec_EqualInts.mono _ _ _)
  | (with_reducible exact spec_TonesOf.mono _ _ _)
  | (with_reducible exact LeO.refl _)
  | (with_reducible exact LeO.none _)
  | (with_reducible refine LeO.ite ?_ ?_)
  | (with_reducible refine LeO.bind ?_ (fun _ => ?_))
  | exact ih0 _ _
  | exact ih1 _ _ _
  | exact spec_EqualInts.mono _ _ _
  | exact spec_TonesOf.mono _ _ _
  | exact LeO.none _
  | refine LeO.ite ?_ ?_
  | refine LeO.bind ?_ (fun _ => ?_)
set_option maxHeartbeats 8000000 in
set_option maxRecDepth 100000 in
theorem spec_ChordOf.calls (k : Nat) (A0 : Option Addr) (c0 : Nat) (l0 : List Int) (r1 : Int) (r2 : Int) (r3 : Bool) (w : World) (hr0 : Kd.C (Kd.int .i64) w A0 l0.length l0) (hc0 : l0.length ≤ c0) (h : spec_ChordOf.f k l0 = some (r1, r2, r3)) :
 Calls Try.prog 18 #[.slice A0 l0.length c0] w fun e w' => e = .returned (.tuple #[.agg #[.int .i64 r1, .int .i64 r2], .bool r3]) ∧ Below w.heap.size w w' := by
 have hu30 := Try.underlying30; have HR0 := q0_3 hr0; have HC0 := q0_3 hc0; clear hr0 hc0; have HB := q0_3 (Below.refl w.heap.size w); (have H : (spec_ChordOf.l0 k l0 1) = some (r1, r2, r3) := h); clear h; (have H' := q0_3 H); clear H; go_enter Try.func18, Try.ntmps18; (go_wp2_with (first | ((with_reducible refine gate_dst (N := 2) rfl ?_); refine box_event ?hg (N := 2) ?hd (cs := #[.int .i64 0, .int .i64 0]) (t := 30) ?hr ?_; (case hd => rfl); (case hg => rfl); (case hr => first | (go_simp; done) | (go_simp; rfl)); intro qa hg w2 hbox hb; have n0_ := q0_3 (below_step (qf_3) hb); have n1_ := q0_3 (hbox); have n2_ := q0_3 ((by rw [hg]; exact (below_size (qf_3)) : w.heap.size ≤ qa)); have n3_ := q0_3 ((by rw [hg]; exact (below_size (qf_3)) : w.heap.size ≤ qa)); clear HB; have HB := n0_; have q2 := n1_; have GW190 := n2_; have z09 := n3_; clear n0_ n1_ n2_ n3_; clear hb hbox hg))); (go_loopg [4] k (fun kq v4 w' => ∃ (x4_1 : Int) (x191000_1 : Int) (x191001_1 : Int), v4 = .int .i64 x4_1 ∧ Aside0 (spec_ChordOf.l0 kq l0 x4_1 = some (r1, r2, r3)) ∧ Aside0 (kq ≤ k) ∧ Aside0 (w'.heap[qa]? = some (.cells #[.int .i64 x191000_1, .int .i64 x191001_1] 30 (0, 0))) ∧ Aside0 (Below w.heap.size w w')))
 case atStart => exact ⟨(1), (0), (0), (by first | rfl | (simp; done) | (simp [*]; done)), H', ⟨Nat.le_refl _⟩, ⟨by refine ba ?_; exact q2.out⟩, ⟨by exact (qc_3)⟩⟩
 case round =>
  clear H'; (try clear c1); (try clear p2); obtain ⟨x4_1, x191000_1, x191001_1, rfl, HA, HK1, q2, HB⟩ := hrel
  cases gk with
  | zero => exact absurd HA.out (by simp [spec_ChordOf.l0])
  | succ k1 =>
   have H := HA.out; clear HA; (simp only [spec_ChordOf.l0] at H)
   by_cases c3 : x4_1 ≤ 5
   · rw [if_pos c3] at H
     (have c3b0 : decide (x4_1 ≤ 5) = true := decide_eq_true c3); clear c3; (have H' := q0_3 H); clear H; (go_wp2); (go_loopg [5] k1 (fun kq v5 w' => ∃ (x5_2 : Int) (x191000_2 : Int) (x191001_2 : Int), v5 = .int .i64 x5_2 ∧ Aside0 (spec_ChordOf.l1 kq l0 x4_1 x5_2 = some (r1, r2, r3)) ∧ Aside0 (kq ≤ k1) ∧ Aside0 (w'.heap[qa]? = some (.cells #[.int .i64 x191000_2, .int .i64 x191001_2] 30 (0, 0))) ∧ Aside0 (Below w.heap.size w w')))
     case atStart => exact ⟨(0), (x191000_1), (x191001_1), (by first | rfl | (simp; done) | (simp [*]; done)), H', ⟨Nat.le_refl _⟩, ⟨by refine ba ?_; exact q2.out⟩, ⟨by exact (qc_3)⟩⟩
     case round =>
      clear H'; (try clear c1); (try clear p2); (try clear c3); (try clear c3b0); (try clear p2); obtain ⟨x5_2, x191000_2, x191001_2, rfl, HA, HK2, q2, HB⟩ := hrel
      cases gk with
      | zero => exact absurd HA.out (by simp [spec_ChordOf.l1])
      | succ k2 =>
       have H := HA.out; clear HA; (simp only [spec_ChordOf.l1] at H)
       by_cases c4 : x5_2 < 12
       · rw [if_pos c4] at H
         (have c4b0 : decide (x5_2 < 12) = true := decide_eq_true c4); clear c4; replace H := Option.bind_eq_some_iff.mp H; obtain ⟨t192, A50, H⟩ := H; replace H : ((spec_EqualInts.f k2 t192 l0).bind fun t195 => (if t195 = true then (some (x5_2, x4_1, true)) else (spec_ChordOf.l1 k2 l0 x4_1 (wrap64 (x5_2 + 1))))) = some (r1, r2, r3) := H; have A5 := q0_3 A50; clear A50; replace H := Option.bind_eq_some_iff.mp H; obtain ⟨t195, A60, H⟩ := H; replace H : (if t195 = true then (some (x5_2, x4_1, true)) else (spec_ChordOf.l1 k2 l0 x4_1 (wrap64 (x5_2 + 1)))) = some (r1, r2, r3) := H; have A6 := q0_3 A60; clear A60
         by_cases c7 : t195 = true
         · subst c7
           have H1 : (some (x5_2, x4_1, true)) = some (r1, r2, r3) := by rw [if_pos rfl] at H; exact H
           clear H; have H := H1; clear H1; (simp only [Option.some.injEq, Prod.mk.injEq] at H); obtain ⟨rfl, rfl, rfl⟩ := H
           (go_wp2_with (first | ((with_reducible refine gate_dst (N := 6) rfl ?_); refine box_event ?hg (N := 6) ?hd (cs := #[.int .i64 0, .int .i64 0]) (t := 30) ?hr ?_; (case hd => rfl); (case hg => rfl); (case hr => first | (go_simp; done) | (go_simp; rfl)); intro q7 hg w8 hbox hb; have n0_ := q0_3 (bb q2.out hb); have n1_ := q0_3 (below_step (qc_3) hb); have n2_ := q0_3 (hbox); have n3_ := q0_3 ((by rw [hg]; exact (below_size (qc_3)) : w.heap.size ≤ q7)); have n4_ := q0_3 ((by rw [hg]; exact (below_size (qc_3)) : w.heap.size ≤ q7)); have n5_ := q0_3 ((by rw [hg]; exact Nat.ne_of_lt (bl q2.out) : qa ≠ q7)); have n6_ := q0_3 ((by rw [hg]; exact Nat.ne_of_gt (bl q2.out) : q7 ≠ qa)); clear q2; clear HB; have q2 := n0_; have HB := n1_; have q4 := n2_; have GW191 := n3_; have z06 := n4_; have q8 := n5_; have qk := n6_; clear n0_ n1_ n2_ n3_ n4_ n5_ n6_; clear hb hbox hg; have hnb9 := qk.out; have hnc9 := q8.out; have hcz10_0 : w8.cell? ⟨q7, 0, none⟩ = some (.int .i64 0) := (blk_cell q4.out 0).trans rfl; have hcz10_1 : w8.cell? ⟨q7, 1, none⟩ = some (.int .i64 0) := (blk_cell q4.out 1).trans rfl; have hfz10_0 := blk_frozen q4.out 0; have hfz10_1 := blk_frozen q4.out 1) | ((with_reducible refine gate_callee (f := 15) rfl ?_); refine goesL_ (some 19) rfl rfl Try.func15 (by kernel_rfl) rfl #[.agg #[.int .i64 x5_2, .int .i64 x4_1]] rfl ma ?_; (with_reducible refine (spec_TonesOf.calls k2 x5_2 x4_1 t192 _ A5.out).mono ?_); rintro e w11 ⟨v193, rfl, ho0, hb⟩; refine ⟨_, rfl, ?_⟩; have n0_ := q0_3 (Kd.R_lower ho0 (below_size (q6_3))); have n1_ := q0_3 (blk_below (g := qa) (o := .cells #[.int .i64 x191000_2, .int .i64 x191001_2] 30 (0, 0)) (by refine ba ?_; refine blk_far ?_ q8.out _; refine ba ?_; refine blk_far ?_ q8.out _; refine ba ?_; exact q2.out) hb); have n2_ := q0_3 (blk_below (g := q7) (o := .cells #[.int .i64 x5_2, .int .i64 x4_1] 30 (0, 0)) (by refine ba ?_; refine blk_put (cs := #[.int .i64 x5_2, .int .i64 0]) ?_ 1 _ rfl; refine ba ?_; refine blk_put (cs := #[.int .i64 0, .int .i64 0]) ?_ 0 _ rfl; refine ba ?_; exact q4.out) hb); have n3_ := q0_3 (below_step (q6_3) hb); clear q2; clear q4; clear HB; have qh := n0_; have q2 := n1_; have q4 := n2_; have HB := n3_; clear n0_ n1_ n2_ n3_; (try clear hb); (try clear hb2); (try clear hk); (try clear hi); (try clear ho0); obtain ⟨z07, z08, eo12⟩ := Kd.R_slice qh.out; subst eo12) | ((with_reducible refine gate_callee (f := 42) rfl ?_); refine goesL_ (some 21) rfl rfl Try.func42 (by kernel_rfl) rfl #[.slice z07 t192.length z08, .slice A0 l0.length c0] rfl ma ?_; (with_reducible refine (spec_EqualInts.calls k2 _ _ t192 _ _ l0 true _ ?side1 ?side2 ?side3 ?side4 A6.out).mono ?_); (case side1 => exact ca (Kd.R_reads' qh.out).2.2); (case side2 => exact (Kd.R_reads' qh.out).2.1); (case side3 => exact ca (Kd.C_below HR0.out HB.out)); (case side4 => exact HC0.out); rintro e w' ⟨rfl, ⟨nd, rfl⟩⟩; refine ⟨_, rfl, ?_⟩; (repeat (rw [drewN_self w11]; generalize hq_ : World.drewN w11 _ = w11; have n0_ : Aside0 (Kd.R (Kd.int .i64) 3 w11 w.heap.size (fun _ => True) (.slice z07 t192.length z08) t192) := ⟨by rw [← hq_]; exact (ra qh.out)⟩; have n1_ : Aside0 (w11.heap[qa]? = some (.cells #[.int .i64 x191000_2, .int .i64 x191001_2] 30 (0, 0))) := ⟨by rw [← hq_]; exact (ba q2.out)⟩; have n2_ : Aside0 (w11.heap[q7]? = some (.cells #[.int .i64 x5_2, .int .i64 x4_1] 30 (0, 0))) := ⟨by rw [← hq_]; exact (ba q4.out)⟩; have n3_ : Aside0 (Below w.heap.size w w11) := ⟨by rw [← hq_]; exact (q6_3)⟩; clear qh q2 q4 HB hq_; have qh := n0_; have q2 := n1_; have q4 := n2_; have HB := n3_; clear n0_ n1_ n2_ n3_)); have hcz13_0 : w11.cell? ⟨q7, 0, none⟩ = some (.int .i64 x5_2) := (blk_cell q4.out 0).trans rfl; have hcz13_1 : w11.cell? ⟨q7, 1, none⟩ = some (.int .i64 x4_1) := (blk_cell q4.out 1).trans rfl; have hfz13_0 := blk_frozen q4.out 0; have hfz13_1 := blk_frozen q4.out 1; have hcz14_0 : w11.cell? ⟨qa, 0, none⟩ = some (.int .i64 x191000_2) := (blk_cell q2.out 0).trans rfl; have hcz14_1 : w11.cell? ⟨qa, 1, none⟩ = some (.int .i64 x191001_2) := (blk_cell q2.out 1).trans rfl; have hfz14_0 := blk_frozen q2.out 0; have hfz14_1 := blk_frozen q2.out 1)))
           refine bodyPost_ret (results_ct rfl _ _ qa 30 #[.int .i64 x5_2, .int .i64 x4_1] (0, 0) _ rfl (by refine ba ?_; refine blk_put (cs := #[.int .i64 x5_2, .int .i64 x191001_2]) ?_ 1 _ rfl; refine ba ?_; refine blk_put (cs := #[.int .i64 x191000_2, .int .i64 x191001_2]) ?_ 0 _ rfl; refine ba ?_; exact q2.out) Try.underlying30 rfl (by kernel_rfl)) rfl ?_; (exact ⟨by first | rfl | (simp [errW_none, errW_some] <;> rfl) | (simp [*, errW_none, errW_some] <;> rfl), by exact (q6_3)⟩)
         · replace c7 := Bool.eq_false_iff.mpr c7
           subst c7; (have H1 : (spec_ChordOf.l1 k2 l0 x4_1 (wrap64 (x5_2 + 1))) = some (r1, r2, r3) := by rw [if_neg (show ¬ (false = true) by decide)] at H; exact H); clear H; have H := H1; clear H1; (have H' := q0_3 H); clear H
           (go_wp2_with (first | ((with_reducible refine gate_dst (N := 6) rfl ?_); refine box_event ?hg (N := 6) ?hd (cs := #[.int .i64 0, .int .i64 0]) (t := 30) ?hr ?_; (case hd => rfl); (case hg => rfl); (case hr => first | (go_simp; done) | (go_simp; rfl)); intro q7 hg w15 hbox hb; have n0_ := q0_3 (bb q2.out hb); have n1_ := q0_3 (below_step (qc_3) hb); have n2_ := q0_3 (hbox); have n3_ := q0_3 ((by rw [hg]; exact (below_size (qc_3)) : w.heap.size ≤ q7)); have n4_ := q0_3 ((by rw [hg]; exact (below_size (qc_3)) : w.heap.size ≤ q7)); have n5_ := q0_3 ((by rw [hg]; exact Nat.ne_of_lt (bl q2.out) : qa ≠ q7)); have n6_ := q0_3 ((by rw [hg]; exact Nat.ne_of_gt (bl q2.out) : q7 ≠ qa)); clear q2; clear HB; have q2 := n0_; have HB := n1_; have q4 := n2_; have GW191 := n3_; have z06 := n4_; have q8 := n5_; have qk := n6_; clear n0_ n1_ n2_ n3_ n4_ n5_ n6_; clear hb hbox hg; have hnb16 := qk.out; have hnc16 := q8.out; have hcz17_0 : w15.cell? ⟨q7, 0, none⟩ = some (.int .i64 0) := (blk_cell q4.out 0).trans rfl; have hcz17_1 : w15.cell? ⟨q7, 1, none⟩ = some (.int .i64 0) := (blk_cell q4.out 1).trans rfl; have hfz17_0 := blk_frozen q4.out 0; have hfz17_1 := blk_frozen q4.out 1) | ((with_reducible refine gate_callee (f := 15) rfl ?_); refine goesL_ (some 19) rfl rfl Try.func15 (by kernel_rfl) rfl #[.agg #[.int .i64 x5_2, .int .i64 x4_1]] rfl ma ?_; (with_reducible refine (spec_TonesOf.calls k2 x5_2 x4_1 t192 _ A5.out).mono ?_); rintro e w18 ⟨v193, rfl, ho0, hb⟩; refine ⟨_, rfl, ?_⟩; have n0_ := q0_3 (Kd.R_lower ho0 (below_size (q6_3))); have n1_ := q0_3 (blk_below (g := qa) (o := .cells #[.int .i64 x191000_2, .int .i64 x191001_2] 30 (0, 0)) (by refine ba ?_; refine blk_far ?_ q8.out _; refine ba ?_; refine blk_far ?_ q8.out _; refine ba ?_; exact q2.out) hb); have n2_ := q0_3 (blk_below (g := q7) (o := .cells #[.int .i64 x5_2, .int .i64 x4_1] 30 (0, 0)) (by refine ba ?_; refine blk_put (cs := #[.int .i64 x5_2, .int .i64 0]) ?_ 1 _ rfl; refine ba ?_; refine blk_put (cs := #[.int .i64 0, .int .i64 0]) ?_ 0 _ rfl; refine ba ?_; exact q4.out) hb); have n3_ := q0_3 (below_step (q6_3) hb); clear q2; clear q4; clear HB; have qh := n0_; have q2 := n1_; have q4 := n2_; have HB := n3_; clear n0_ n1_ n2_ n3_; (try clear hb); (try clear hb2); (try clear hk); (try clear hi); (try clear ho0); obtain ⟨qp, qq, eo19⟩ := Kd.R_slice qh.out; subst eo19) | ((with_reducible refine gate_callee (f := 42) rfl ?_); refine goesL_ (some 21) rfl rfl Try.func42 (by kernel_rfl) rfl #[.slice qp t192.length qq, .slice A0 l0.length c0] rfl ma ?_; (with_reducible refine (spec_EqualInts.calls k2 _ _ t192 _ _ l0 false _ ?side1 ?side2 ?side3 ?side4 A6.out).mono ?_); (case side1 => exact ca (Kd.R_reads' qh.out).2.2); (case side2 => exact (Kd.R_reads' qh.out).2.1); (case side3 => exact ca (Kd.C_below HR0.out HB.out)); (case side4 => exact HC0.out); rintro e w' ⟨rfl, ⟨nd, rfl⟩⟩; refine ⟨_, rfl, ?_⟩)))
           (go_roundg k2)
           case measure => have := HK1.out; have := HK2.out; omega
           case rel => exact ⟨(wrap64 (x5_2 + 1)), (x191000_2), (x191001_2), (by first | rfl | (simp; done) | (simp [*]; done)), H', ⟨by have := HK1.out; have := HK2.out; omega⟩, ⟨by refine ba ?_; exact q2.out⟩, ⟨by exact (q6_3)⟩⟩
       · rw [if_neg c4] at H
         (have c4b0 : decide (x5_2 < 12) = false := decide_eq_false c4); clear c4; (have H' := q0_3 H); clear H; (go_wp2); (go_roundg k2)
         case measure => have := HK1.out; have := HK2.out; omega
         case rel => exact ⟨(wrap64 (x4_1 + 1)), (x191000_2), (x191001_2), (by first | rfl | (simp; done) | (simp [*]; done)), H', ⟨by have := HK1.out; have := HK2.out; omega⟩, ⟨by refine ba ?_; exact q2.out⟩, ⟨by exact (qc_3)⟩⟩
   · rw [if_neg c3] at H
     (have c3b0 : decide (x4_1 ≤ 5) = false := decide_eq_false c3); clear c3; (simp only [Option.some.injEq, Prod.mk.injEq] at H); obtain ⟨rfl, rfl, rfl⟩ := H; (have hcz20_0 : wr.cell? ⟨qa, 0, none⟩ = some (.int .i64 x191000_1) := (blk_cell q2.out 0).trans rfl); (have hcz20_1 : wr.cell? ⟨qa, 1, none⟩ = some (.int .i64 x191001_1) := (blk_cell q2.out 1).trans rfl); have hfz20_0 := blk_frozen q2.out 0; have hfz20_1 := blk_frozen q2.out 1; (go_wp2); refine bodyPost_ret (results_ct rfl _ _ qa 30 #[.int .i64 0, .int .i64 0] (0, 0) _ rfl (by refine ba ?_; refine blk_put (cs := #[.int .i64 0, .int .i64 x191001_1]) ?_ 1 _ rfl; refine ba ?_; refine blk_put (cs := #[.int .i64 x191000_1, .int .i64 x191001_1]) ?_ 0 _ rfl; refine ba ?_; exact q2.out) Try.underlying30 rfl (by kernel_rfl)) rfl ?_; (exact ⟨by first | rfl | (simp [errW_none, errW_some] <;> rfl) | (simp [*, errW_none, errW_some] <;> rfl), by exact (qc_3)⟩)
end Go.Proofs.Ytpdhhpgdjbeaeaa.PFnExactChordAt
