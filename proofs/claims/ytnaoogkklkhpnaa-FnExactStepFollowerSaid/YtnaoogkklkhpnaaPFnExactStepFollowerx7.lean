-- Written for this claim by a program of this repository (wip/tools/print2.py), out of the translation; Lean checks it.
import Derived.Test.YtnaoogkklkhpnaaPFnExactStepFollowerx0
import Derived.Test.YtnaoogkklkhpnaaPFnExactStepFollowerx1
import Derived.Test.YtnaoogkklkhpnaaPFnExactStepFollowerx3
import Derived.Test.YtnaoogkklkhpnaaPFnExactStepFollowerx5
import Derived.Test.YtnaoogkklkhpnaaPFnExactStepFollowerx6
namespace Go.Proofs.Ytnaoogkklkhpnaa.PFnExactStepFollower
open Go.RowKit Go.Proofs.YtnaoogkklkhpnaaW.PrintWords Go.Proofs.YtnaoogkklkhpnaaW.PrintLast Go.Proofs.YtnaoogkklkhpnaaW.PrintMore
attribute [local go_sem] max2_int min2_int max_two min_two max_three min_three max_four min_four   -- for this text's walks alone
set_option linter.unusedVariables false
set_option linter.unusedSimpArgs false

/-! ### laws_FnExactStepFollower: function 5 -/
def laws_FnExactStepFollower.j0 : Nat → List Int → Int → Bool → List Int → Int → List Int → Int → List Int → Int → Option (Bool)
  | 0, _, _, _, _, _, _, _, _, _ => none
  | k + 1, x0, x2, x65, x191000, x191001, x204000, x204001, x217000, x217001 => if x65 = true then (some false) else ((laws_markFollower.f k x217000 x217001 1).bind fun bt232 => ((laws_heldFollower.f k bt232.2 x217001 1).bind fun t234 => (if t234 < 0 then (some false) else (if t234 = bt232.1 then ((laws_toIntS.f k x0).bind fun t235 => ((laws_toFollower.f k x191000 x191001).bind fun bt238 => ((impl_StepFollower.f k t235 bt238.1 bt238.2 x2).bind fun bt242 => ((laws_eqFollower.f k bt242.1 bt242.2 x204000 x204001).bind fun t247 => (if t247 = true then ((laws_heldFollower.f k bt232.2 x217001 1).bind fun t248 => (if t248 < 0 then (some false) else (if t248 = bt232.1 then (some true) else (some false)))) else (some false)))))) else (some false)))))
def laws_FnExactStepFollower.f (k : Nat) (l0 : List Int) (l1_0 : List Int) (a1_1 : Int) (a2 : Int) : Option (Bool) := if (l0.length : Int) > 1048576 then (some true) else ((laws_szFollower.f l1_0 a1_1 1048576).bind fun t191 => (if t191 < 0 then (some true) else ((laws_toIntS.f k l0).bind fun t192 => ((laws_toFollower.f k l1_0 a1_1).bind fun bt195 => ((spec_StepFollower.f k t192 bt195.1 bt195.2 a2).bind fun bt199 => ((laws_toIntS.f k l0).bind fun t204 => ((laws_toFollower.f k l1_0 a1_1).bind fun bt207 => ((impl_StepFollower.f k t204 bt207.1 bt207.2 a2).bind fun bt212 => ((laws_eqFollower.f k bt212.1 bt212.2 bt199.1 bt199.2).bind fun t217 => (if t217 = true then ((laws_toIntS.f k l0).bind fun t218 => ((laws_eqIntS.f k t204 t218).bind fun t221 => (if t221 = true then ((laws_toFollower.f k l1_0 a1_1).bind fun bt222 => ((laws_eqFollower.f k bt207.1 bt207.2 bt222.1 bt222.2).bind fun t226 => (if t226 = true then ((laws_markIntS.f k t204 1).bind fun bt227 => ((laws_markFollower.f k bt207.1 bt207.2 bt227.1).bind fun bt229 => (if bt229.1 < 0 then (laws_FnExactStepFollower.j0 k l0 a2 true l1_0 a1_1 bt199.1 bt199.2 bt212.1 bt212.2) else ((laws_eqFollower.f k bt212.1 bt212.2 bt199.1 bt199.2).bind fun t231 => (laws_FnExactStepFollower.j0 k l0 a2 (!t231) l1_0 a1_1 bt199.1 bt199.2 bt212.1 bt212.2))))) else (some false)))) else (some false)))) else (some false)))))))))))
theorem laws_FnExactStepFollower.mono_l : ∀ k, (∀ y0 y1 y2 y3 y4 y5 y6 y7 y8, LeO (laws_FnExactStepFollower.j0 k y0 y1 y2 y3 y4 y5 y6 y7 y8) (laws_FnExactStepFollower.j0 (k + 1) y0 y1 y2 y3 y4 y5 y6 y7 y8))
  | 0 => fun _ _ _ _ _ _ _ _ _ r h => by simp [laws_FnExactStepFollower.j0] at h
  | k + 1 => by
    have ih0 := laws_FnExactStepFollower.mono_l k
    · intro y0 y1 y2 y3 y4 y5 y6 y7 y8
      unfold laws_FnExactStepFollower.j0
      repeat' first
      | (with_reducible exact ih0 _ _ _ _ _ _ _ _ _)
      | (with_reducible exact impl_StepFollower.mono _ _ _ _ _)
      | (with_reducible exact laws_eqFollower.mono _ _ _ _ _)
      | (with_reducible exact laws_eqIntS.mono _ _ _)
      | (with_reducible exact laws_heldFollower.mono _ _ _ _)
      | (with_reducible exact laws_markFollower.mono _ _ _ _)
      | (with_reducible exact laws_markIntS.mono _ _ _)
      | (with_reducible exact laws_toFollower.mono _ _ _)
      | (with_reducible exact laws_toIntS.mono _ _)
      | (with_reducible exact spec_StepFollower.mono _ _ _ _ _)
      | (with_reducible exact LeO.refl _)
      | (with_reducible exact LeO.none _)
      | (with_reducible refine LeO.ite ?_ ?_)
      | (with_reducible refine LeO.bind ?_ (fun _ => ?_))
      | exact ih0 _ _ _ _ _ _ _ _ _
      | exact impl_StepFollower.mono _ _ _ _ _
      | exact laws_eqFollower.mono _ _ _ _ _
      | exact laws_eqIntS.mono _ _ _
      | exact laws_heldFollower.mono _ _ _ _
      | exact laws_markFollower.mono _ _ _ _
      | exact laws_markIntS.mono _ _ _
      | exact laws_toFollower.mono _ _ _
      | exact laws_toIntS.mono _ _
      | exact spec_StepFollower.mono _ _ _ _ _
      | exact LeO.none _
      | refine LeO.ite ?_ ?_
      | refine LeO.bind ?_ (fun _ => ?_)
theorem laws_FnExactStepFollower.mono : ∀ a0 a1 a2 a3 k, LeO (laws_FnExactStepFollower.f k a0 a1 a2 a3) (laws_FnExactStepFollower.f (k + 1) a0 a1 a2 a3) := by
  intro a0 a1 a2 a3 k
  have ih0 := laws_FnExactStepFollower.mono_l k
  unfold laws_FnExactStepFollower.f
  repeat' first
      | (with_reducible exact ih0 _ _ _ _ _ _ _ _ _)
      | (with_reducible exact impl_StepFollower.mono _ _ _ _ _)
      | (with_reducible exact laws_eqFollower.mono _ _ _ _ _)
      | (with_reducible exact laws_eqIntS.mono _ _ _)
      | (with_reducible exact laws_heldFollower.mono _ _ _ _)
      | (with_reducible exact laws_markFollower.mono _ _ _ _)
      | (with_reducible exact laws_markIntS.mono _ _ _)
      | (with_reducible exact laws_toFollower.mono _ _ _)
      | (with_reducible exact laws_toIntS.mono _ _)
      | (with_reducible exact spec_StepFollower.mono _ _ _ _ _)
      | (with_reducible exact LeO.refl _)
      | (with_reducible exact LeO.none _)
      | (with_reducible refine LeO.ite ?_ ?_)
      | (with_reducible refine LeO.bind ?_ (fun _ => ?_))
      | exact ih0 _ _ _ _ _ _ _ _ _
      | exact impl_StepFollower.mono _ _ _ _ _
      | exact laws_eqFollower.mono _ _ _ _ _
      | exact laws_eqIntS.mono _ _ _
      | exact laws_heldFollower.mono _ _ _ _
      | exact laws_markFollower.mono _ _ _ _
      | exact laws_markIntS.mono _ _ _
      | exact laws_toFollower.mono _ _ _
      | exact laws_toIntS.mono _ _
      | exact spec_StepFollower.mono _ _ _ _ _
      | exact LeO.none _
      | refine LeO.ite ?_ ?_
      | refine LeO.bind ?_ (fun _ => ?_)
def laws_FnExactStepFollower.T7 : Bool × List (List Nat × List Nat) := (true, [([], []), ([0], [0]), ([], []), ([2, 1], [2]), ([], []), ([1, 3, 4, 3], [1, 3, 4]), ([], []), ([6, 5, 5, 0, 1, 2, 3, 4, 5, 6], [5, 6])])
def laws_FnExactStepFollower.B7 : List Nat := [0, 1, 0, 7, 0, 31, 0, 127]
theorem laws_FnExactStepFollower.tab7 : rtab .any (opsOf Try.f5 7) = laws_FnExactStepFollower.T7 := by kernel_rfl
theorem laws_FnExactStepFollower.bits7 : waitsOk laws_FnExactStepFollower.T7.2 laws_FnExactStepFollower.B7 = true := by kernel_rfl
def laws_FnExactStepFollower.T30 : Bool × List (List Nat × List Nat) := (true, [([], []), ([0], [0]), ([], []), ([2, 1], [2]), ([], []), ([1, 3, 4, 3], [1, 3, 4]), ([], []), ([6, 5, 5, 0, 1, 2, 3, 4, 5, 6], [5, 6])])
def laws_FnExactStepFollower.B30 : List Nat := [0, 1, 0, 7, 0, 31, 0, 127]
theorem laws_FnExactStepFollower.tab30 : rtab .any (opsOf Try.f5 30) = laws_FnExactStepFollower.T30 := by kernel_rfl
theorem laws_FnExactStepFollower.bits30 : waitsOk laws_FnExactStepFollower.T30.2 laws_FnExactStepFollower.B30 = true := by kernel_rfl
theorem ra {p q : Prop} (h : q) (f : q → p := by intro h_; (with_reducible repeat (first | apply Kd.R_alloc | apply Kd.R_drewN | apply Kd.R_drew)); exact h_) : p := f h
theorem ba {p q : Prop} (h : q) (f : q → p := by intro h_; (with_reducible repeat (first | refine blk_drewN ?_ _ | refine blk_drew ?_ | refine blk_alloc ?_ _)); exact h_) : p := f h
theorem hbz {p : Prop} (f : p := by repeat (first | (with_reducible first | exact HB.out | apply below_alloc | apply pw_below_drewN | apply below_drew1) | exact HB.out)) : p := f
theorem qx {p : Prop} (f : p := by repeat (first | (with_reducible first | exact HB.out | apply below_alloc | apply pw_below_drewN | apply below_drew1 | refine below_set ?_ z13.out) | exact HB.out)) : p := f
theorem qe {p : Prop} (f : p := by repeat (first | (with_reducible first | exact HB.out | apply below_alloc | apply pw_below_drewN | apply below_drew1 | refine below_set ?_ z13.out | refine below_set ?_ z0t.out) | exact HB.out)) : p := f
theorem z07 {p : Prop} (f : p := by repeat (first | (with_reducible first | exact HB.out | apply below_alloc | apply pw_below_drewN | apply below_drew1 | refine below_set ?_ z13.out | refine below_set ?_ z0t.out | refine below_set ?_ z18.out) | exact HB.out)) : p := f
theorem q3 {p : Prop} (f : p := by repeat (first | (with_reducible first | exact HB.out | apply below_alloc | apply pw_below_drewN | apply below_drew1 | refine below_set ?_ z13.out | refine below_set ?_ z0t.out | refine below_set ?_ z18.out | refine below_set ?_ z19.out) | exact HB.out)) : p := f
theorem q8 {p : Prop} (f : p := by repeat (first | (with_reducible first | exact HB.out | apply below_alloc | apply pw_below_drewN | apply below_drew1 | refine below_set ?_ z13.out | refine below_set ?_ z0t.out | refine below_set ?_ z18.out | refine below_set ?_ z19.out | refine below_set ?_ z0u.out) | exact HB.out)) : p := f
theorem pa {p : Prop} (f : p := by first | (simp only [putAll, Act.put, List.setIfInBounds_toArray, List.set_cons_zero, List.set_cons_succ]; done) | (simp only [putAll, Act.put, List.setIfInBounds_toArray, List.set_cons_zero, List.set_cons_succ]; rfl)) : p := f
theorem ma {p : Prop} (f : p := by (try simp only [List.map_toArray, List.map_cons, List.map_nil]); first | done | rfl | (simp only [List.length_drop, List.length_take]; rfl)) : p := f
theorem ca {p q : Prop} (h : q) (f : q → p := by intro h_; repeat (first | exact h_ | (with_reducible refine Kd.C_alloc ?_ _) | (with_reducible refine Kd.C_drewN ?_ _) | (with_reducible refine Kd.C_drew ?_))) : p := f h
theorem bb {w w1 : World} {g : Nat} {o : Obj} {q : Prop} (h : q) (hb : Below w.heap.size w w1) (f : q → w.heap[g]? = some o := by intro h_; (with_reducible repeat (first | refine blk_drewN ?_ _ | refine blk_drew ?_ | refine blk_alloc ?_ _)); exact h_) : w1.heap[g]? = some o := blk_below (f h) hb
theorem bl {w : World} {g : Nat} {o : Obj} {q : Prop} (h : q) (f : q → w.heap[g]? = some o := by intro h_; (with_reducible repeat (first | refine blk_drewN ?_ _ | refine blk_drew ?_ | refine blk_alloc ?_ _)); exact h_) : g < w.heap.size := blk_lt (f h)
theorem pq {P Q : Prop} (h : P) (f : P → Q := by intro h_; (try dsimp only at h_); (try dsimp only); simp only [h_, ne_eq, not_false_eq_true]) : Q := f h
theorem pk {P Q : Nat → Prop} (f : ∀ k_, P k_ → Q k_ := by intro k_ h_; (try dsimp only at h_); (try dsimp only); (repeat' (apply And.intro)) <;> simp only [h_, ne_eq, not_false_eq_true, and_self]) : ∀ k_, P k_ → Q k_ := f
theorem q0 {p : Prop} (h : p) : Aside0 p := ⟨h⟩
set_option maxHeartbeats 8000000 in
set_option maxRecDepth 100000 in
theorem laws_FnExactStepFollower.calls_true (k : Nat) (A0 : Option Addr) (c0 : Nat) (l0 : List Int) (A1_0 : Option Addr) (c1_0 : Nat) (l1_0 : List Int) (a1_1 : Int) (a2 : Int) (w : World) (hr0 : Kd.C (Kd.int .i64) w A0 l0.length l0) (hc0 : l0.length ≤ c0) (hr1_0 : Kd.C (Kd.int .i64) w A1_0 l1_0.length l1_0) (hc1_0 : l1_0.length ≤ c1_0) (h : laws_FnExactStepFollower.f k l0 l1_0 a1_1 a2 = some true) :
 Calls Try.prog 5 #[.slice A0 l0.length c0, .agg #[.slice A1_0 l1_0.length c1_0, .int .i64 a1_1], .int .i64 a2] w fun e w' => e = .returned (.bool true) ∧ Below w.heap.size w w' := by
 have hu31 := Try.underlying31
 have hu35 := Try.underlying35
 have HR0 := q0 hr0
 have HC0 := q0 hc0
 clear hr0 hc0
 have HR1_0 := q0 hr1_0
 have HC1_0 := q0 hc1_0
 clear hr1_0 hc1_0
 have HB := q0 (Below.refl w.heap.size w)
 have H : (if (l0.length : Int) > 1048576 then (some true) else ((laws_szFollower.f l1_0 a1_1 1048576).bind fun t191 => (if t191 < 0 then (some true) else ((laws_toIntS.f k l0).bind fun t192 => ((laws_toFollower.f k l1_0 a1_1).bind fun bt195 => ((spec_StepFollower.f k t192 bt195.1 bt195.2 a2).bind fun bt199 => ((laws_toIntS.f k l0).bind fun t204 => ((laws_toFollower.f k l1_0 a1_1).bind fun bt207 => ((impl_StepFollower.f k t204 bt207.1 bt207.2 a2).bind fun bt212 => ((laws_eqFollower.f k bt212.1 bt212.2 bt199.1 bt199.2).bind fun t217 => (if t217 = true then ((laws_toIntS.f k l0).bind fun t218 => ((laws_eqIntS.f k t204 t218).bind fun t221 => (if t221 = true then ((laws_toFollower.f k l1_0 a1_1).bind fun bt222 => ((laws_eqFollower.f k bt207.1 bt207.2 bt222.1 bt222.2).bind fun t226 => (if t226 = true then ((laws_markIntS.f k t204 1).bind fun bt227 => ((laws_markFollower.f k bt207.1 bt207.2 bt227.1).bind fun bt229 => (if bt229.1 < 0 then (laws_FnExactStepFollower.j0 k l0 a2 true l1_0 a1_1 bt199.1 bt199.2 bt212.1 bt212.2) else ((laws_eqFollower.f k bt212.1 bt212.2 bt199.1 bt199.2).bind fun t231 => (laws_FnExactStepFollower.j0 k l0 a2 (!t231) l1_0 a1_1 bt199.1 bt199.2 bt212.1 bt212.2))))) else (some false)))) else (some false)))) else (some false)))))))))))) = some true := h
 clear h
 by_cases c4 : (l0.length : Int) > 1048576
 · rw [if_pos c4] at H
   have c4b0 : decide (1048576 < (l0.length : Int)) = true := decide_eq_true c4
   have c4b1 : decide (1048576 < l0.length) = true := decide_eq_true (by omega)
   clear c4 H
   go_enter Try.func5, Try.ntmps5
   go_wp2_with (first | ((with_reducible refine gate_dst (N := 4) rfl ?_); refine box_event ?hg (N := 4) ?hd (cs := #[.slice A1_0 l1_0.length c1_0, .int .i64 a1_1]) (t := 31) ?hr ?_; (case hd => rfl); (case hg => rfl); (case hr => first | (go_simp; done) | (go_simp; rfl)); intro qf hg w5 hbox hb; have n0_ := q0 (below_step (hbz) hb); have n1_ := q0 (hbox); have n2_ := q0 ((by rw [hg]; exact (below_size (hbz)) : w.heap.size ≤ qf)); have n3_ := q0 ((by rw [hg]; exact (below_size (hbz)) : w.heap.size ≤ qf)); clear HB; have HB := n0_; have q1 := n1_; have GW190 := n2_; have z13 := n3_; clear n0_ n1_ n2_ n3_; clear hb hbox hg))
   go_ret
   exact ⟨by first | rfl | (simp [errW_none, errW_some] <;> rfl) | (simp [*, errW_none, errW_some] <;> rfl), by exact (qx)⟩
 · rw [if_neg c4] at H
   have c4b0 : decide (1048576 < (l0.length : Int)) = false := decide_eq_false c4
   have c4b1 : decide (1048576 < l0.length) = false := decide_eq_false (by omega)
   clear c4
   replace H := Option.bind_eq_some_iff.mp H
   obtain ⟨t191, A60, H⟩ := H
   try dsimp only at H
   have A6 := q0 A60
   clear A60
   by_cases c7 : t191 < 0
   · rw [if_pos c7] at H
     have c7b0 : decide (t191 < 0) = true := decide_eq_true c7
     clear c7 H
     go_enter Try.func5, Try.ntmps5
     go_wp2_with (first | ((with_reducible refine gate_dst (N := 4) rfl ?_); refine box_event ?hg (N := 4) ?hd (cs := #[.slice A1_0 l1_0.length c1_0, .int .i64 a1_1]) (t := 31) ?hr ?_; (case hd => rfl); (case hg => rfl); (case hr => first | (go_simp; done) | (go_simp; rfl)); intro qf hg w8 hbox hb; have n0_ := q0 (below_step (hbz) hb); have n1_ := q0 (hbox); have n2_ := q0 ((by rw [hg]; exact (below_size (hbz)) : w.heap.size ≤ qf)); have n3_ := q0 ((by rw [hg]; exact (below_size (hbz)) : w.heap.size ≤ qf)); clear HB; have HB := n0_; have q1 := n1_; have GW190 := n2_; have z13 := n3_; clear n0_ n1_ n2_ n3_; clear hb hbox hg; have hcz9_0 : w8.cell? ⟨qf, 0, none⟩ = some (.slice A1_0 l1_0.length c1_0) := (blk_cell q1.out 0).trans rfl; have hcz9_1 : w8.cell? ⟨qf, 1, none⟩ = some (.int .i64 a1_1) := (blk_cell q1.out 1).trans rfl; have hfz9_0 := blk_frozen q1.out 0; have hfz9_1 := blk_frozen q1.out 1) | ((with_reducible refine gate_callee (f := 20) rfl ?_); refine goesL_ (some 21) rfl rfl Try.func20 (by kernel_rfl) rfl #[.agg #[.slice A1_0 l1_0.length c1_0, .int .i64 a1_1], .int .i64 1048576] rfl ma ?_; (with_reducible refine (laws_szFollower.calls _ _ l1_0 a1_1 1048576 t191 _ ?side1 ?side2 A6.out).mono ?_); (case side1 => exact ca (Kd.C_below HR1_0.out HB.out)); (case side2 => exact HC1_0.out); rintro e w10 ⟨rfl, hb⟩; refine ⟨_, rfl, ?_⟩; have n0_ := q0 (bb q1.out hb); have n1_ := q0 (below_step (qx) hb); clear q1; clear HB; have q1 := n0_; have HB := n1_; clear n0_ n1_; (try clear hb); (try clear hb2); (try clear hk); (try clear hi)))
     go_ret
     exact ⟨by first | rfl | (simp [errW_none, errW_some] <;> rfl) | (simp [*, errW_none, errW_some] <;> rfl), by exact (qx)⟩
   · rw [if_neg c7] at H
     have c7b0 : decide (t191 < 0) = false := decide_eq_false c7
     clear c7
     replace H := Option.bind_eq_some_iff.mp H
     obtain ⟨t192, A110, H⟩ := H
     try dsimp only at H
     have A11 := q0 A110
     clear A110
     replace H := Option.bind_eq_some_iff.mp H
     obtain ⟨⟨t195, t198⟩, A120, H⟩ := H
     try dsimp only at H
     have A12 := q0 A120
     clear A120
     replace H := Option.bind_eq_some_iff.mp H
     obtain ⟨⟨t199, t202⟩, A130, H⟩ := H
     try dsimp only at H
     have A13 := q0 A130
     clear A130
     replace H := Option.bind_eq_some_iff.mp H
     obtain ⟨t204, A140, H⟩ := H
     try dsimp only at H
     have A14 := q0 A140
     clear A140
     replace H := Option.bind_eq_some_iff.mp H
     obtain ⟨⟨t207, t210⟩, A150, H⟩ := H
     try dsimp only at H
     have A15 := q0 A150
     clear A150
     replace H := Option.bind_eq_some_iff.mp H
     obtain ⟨⟨t212, t215⟩, A160, H⟩ := H
     try dsimp only at H
     have A16 := q0 A160
     clear A160
     replace H := Option.bind_eq_some_iff.mp H
     obtain ⟨t217, A170, H⟩ := H
     try dsimp only at H
     have A17 := q0 A170
     clear A170
     by_cases c18 : t217 = true
     · subst c18
       have H1 := H; rw [if_pos rfl] at H1
       clear H
       have H := H1
       clear H1
       replace H := Option.bind_eq_some_iff.mp H
       obtain ⟨t218, A190, H⟩ := H
       try dsimp only at H
       have A19 := q0 A190
       clear A190
       replace H := Option.bind_eq_some_iff.mp H
       obtain ⟨t221, A200, H⟩ := H
       try dsimp only at H
       have A20 := q0 A200
       clear A200
       by_cases c21 : t221 = true
       · subst c21
         have H1 := H; rw [if_pos rfl] at H1
         clear H
         have H := H1
         clear H1
         replace H := Option.bind_eq_some_iff.mp H
         obtain ⟨⟨t222, t225⟩, A220, H⟩ := H
         try dsimp only at H
         have A22 := q0 A220
         clear A220
         replace H := Option.bind_eq_some_iff.mp H
         obtain ⟨t226, A230, H⟩ := H
         try dsimp only at H
         have A23 := q0 A230
         clear A230
         by_cases c24 : t226 = true
         · subst c24
           have H1 := H; rw [if_pos rfl] at H1
           clear H
           have H := H1
           clear H1
           replace H := Option.bind_eq_some_iff.mp H
           obtain ⟨⟨t227, t228⟩, A250, H⟩ := H
           try dsimp only at H
           have A25 := q0 A250
           clear A250
           replace H := Option.bind_eq_some_iff.mp H
           obtain ⟨⟨t229, t230⟩, A260, H⟩ := H
           try dsimp only at H
           have A26 := q0 A260
           clear A260
           have HC27 := q0 H
           clear H
           go_enter Try.func5, Try.ntmps5
           try go_wp2_with (first | ((with_reducible refine gate_dst (N := 4) rfl ?_); refine box_event ?hg (N := 4) ?hd (cs := #[.slice A1_0 l1_0.length c1_0, .int .i64 a1_1]) (t := 31) ?hr ?_; (case hd => rfl); (case hg => rfl); (case hr => first | (go_simp; done) | (go_simp; rfl)); intro qf hg w28 hbox hb; have n0_ := q0 (below_step (hbz) hb); have n1_ := q0 (hbox); have n2_ := q0 ((by rw [hg]; exact (below_size (hbz)) : w.heap.size ≤ qf)); have n3_ := q0 ((by rw [hg]; exact (below_size (hbz)) : w.heap.size ≤ qf)); clear HB; have HB := n0_; have q1 := n1_; have GW190 := n2_; have z13 := n3_; clear n0_ n1_ n2_ n3_; clear hb hbox hg; have hcz29_0 : w28.cell? ⟨qf, 0, none⟩ = some (.slice A1_0 l1_0.length c1_0) := (blk_cell q1.out 0).trans rfl; have hcz29_1 : w28.cell? ⟨qf, 1, none⟩ = some (.int .i64 a1_1) := (blk_cell q1.out 1).trans rfl; have hfz29_0 := blk_frozen q1.out 0; have hfz29_1 := blk_frozen q1.out 1) | ((with_reducible refine gate_callee (f := 20) rfl ?_); refine goesL_ (some 21) rfl rfl Try.func20 (by kernel_rfl) rfl #[.agg #[.slice A1_0 l1_0.length c1_0, .int .i64 a1_1], .int .i64 1048576] rfl ma ?_; (with_reducible refine (laws_szFollower.calls _ _ l1_0 a1_1 1048576 t191 _ ?side1 ?side2 A6.out).mono ?_); (case side1 => exact ca (Kd.C_below HR1_0.out HB.out)); (case side2 => exact HC1_0.out); rintro e w30 ⟨rfl, hb⟩; refine ⟨_, rfl, ?_⟩; have n0_ := q0 (bb q1.out hb); have n1_ := q0 (below_step (qx) hb); clear q1; clear HB; have q1 := n0_; have HB := n1_; clear n0_ n1_; (try clear hb); (try clear hb2); (try clear hk); (try clear hi)))
           have n0_ := q0 (blk_drew q1.out); have n1_ := q0 (below_drew1 HB.out); clear q1 HB; have q1 := n0_; have HB := n1_; clear n0_ n1_
           refine start_ (n := 8) (S := fun w' => w'.cell? ⟨qf, 0, none⟩ = some (.slice A1_0 l1_0.length c1_0) ∧ w'.cell? ⟨qf, 1, none⟩ = some (.int .i64 a1_1)) (ds := []) #[false, false, false, false, false, false, false, false] (by kernel_rfl) rfl rfl ⟨(blk_cell q1.out 0).trans rfl, (blk_cell q1.out 1).trans rfl⟩ (fun hHeld => ?_); refine with_tabW laws_FnExactStepFollower.tab7 laws_FnExactStepFollower.bits7 (fun HT_ HW_ => ?_)
           generalize w30.drew = w31 at q1 HB hHeld ⊢
           refine pure_ (i := 0) (N := some 24) (v := ?_) (a' := ?_) #[true, false, false, false, false, false, false, false] rfl rfl (any_of HT_.out (by kernel_rfl)) (fun _ _ _ h => h) (Or.inl ⟨by rfl, ?_⟩) ?_ ?_
           rotate_left
           · intro w'
             go_simp
             with_reducible rfl
           rotate_left
           · simp only [Act.put, List.setIfInBounds_toArray, List.set_cons_zero, List.set_cons_succ, i64_w, i32_w]
             rfl
           refine pure_ (i := 4) (N := some 28) (v := ?_) (a' := ?_) #[true, false, false, false, true, false, false, false] rfl rfl (any_of HT_.out (by kernel_rfl)) (fun _ _ _ h => h) (Or.inl ⟨by rfl, ?_⟩) ?_ ?_
           rotate_left
           · intro w'
             go_simp
             with_reducible rfl
           rotate_left
           · simp only [Act.put, List.setIfInBounds_toArray, List.set_cons_zero, List.set_cons_succ, i64_w, i32_w]
             rfl
           refine take_ (i := 2) (N := some 26) (v := ?_) (a' := ?_) #[true, false, true, false, true, false, false, false] rfl rfl (take_ofW HT_.out HW_.out (by kernel_rfl)) (fun _ _ _ h => h) (Or.inl ⟨by rfl, ?_⟩) hHeld ?_ ?_
           rotate_left
           · rintro w' ⟨s0, s1⟩
             go_simp
             with_reducible rfl
           rotate_left
           · simp only [Act.put, List.setIfInBounds_toArray, List.set_cons_zero, List.set_cons_succ, i64_w, i32_w]
             rfl
           refine join_ (σ := Value × Value × Value × Nat) 1 #[true, true, true, true, true, true, true, false] (fun s_ => [(25, s_.1), (27, .agg #[s_.2.1, .int .i64 t198]), (29, .agg #[s_.2.2.1, .int .i64 t202]), (8, .pointer (some ⟨s_.2.2.2, 0, none⟩))]) (fun s_ w' => (w'.cell? ⟨qf, 0, none⟩ = some (.slice A1_0 l1_0.length c1_0) ∧ w'.cell? ⟨qf, 1, none⟩ = some (.int .i64 a1_1)) ∧ (Kd.R (Kd.int .i64) 3 w' w.heap.size (fun k_ => some k_ ≠ (s_.2.1 : Value).ownBlock ∧ some k_ ≠ (s_.2.2.1 : Value).ownBlock) s_.1 t192) ∧ (Kd.R (Kd.int .i64) 3 w' w.heap.size (fun k_ => some k_ ≠ (s_.1 : Value).ownBlock ∧ some k_ ≠ (s_.2.2.1 : Value).ownBlock) s_.2.1 t195) ∧ (Kd.R (Kd.int .i64) 3 w' w.heap.size (fun k_ => some k_ ≠ (s_.1 : Value).ownBlock ∧ some k_ ≠ (s_.2.1 : Value).ownBlock) s_.2.2.1 t199) ∧ (w'.heap[qf]? = some (.cells #[.slice A1_0 l1_0.length c1_0, .int .i64 a1_1] 31 (0, 0))) ∧ (w'.heap[s_.2.2.2]? = some (.cells #[.slice none 0 0, .int .i64 0] 35 (0, 0))) ∧ (w.heap.size ≤ s_.2.2.2) ∧ (w.heap.size ≤ s_.2.2.2) ∧ (qf ≠ s_.2.2.2) ∧ (s_.2.2.2 ≠ qf) ∧ (Below w.heap.size w w')) ?_ ?_
           rotate_left
           · intro hCont
             refine two_ (i := 1) (j := 6) (Ni := some 25) (Nj := some 8) #[true, true, true, false, true, false, false, false] #[true, false, true, false, true, false, true, false] rfl rfl rfl rfl (two_of HT_.out (by kernel_rfl)) (by decide) (by decide) (fun K hK => ?_) (fun K hK => ?_)
             · skip
               refine goes_ Try.func22 (by kernel_rfl) rfl #[.slice A0 l0.length c0] (by rfl) rfl rfl ma ?_
               with_reducible refine (laws_toIntS.calls k _ _ l0 t192 _ ?side1 ?side2 A11.out).mono ?_
               (case side1 => exact ca (Kd.C_below HR0.out HB.out))
               (case side2 => exact HC0.out)
               rintro e w32 ⟨v193, rfl, ho0, hb⟩
               refine ⟨_, rfl, ?_⟩
               have n0_ := q0 (Kd.R_lower ho0 (below_size (qx))); have n1_ := q0 (bb q1.out hb); have n2_ := q0 (below_step (qx) hb); clear q1 HB; have qa := n0_; have q1 := n1_; have HB := n2_; clear n0_ n1_ n2_; (try clear hb); (try clear hb2); (try clear hk); (try clear hi); (try clear ho0)
               refine hK.out _ _ ⟨(blk_cell q1.out 0).trans rfl, (blk_cell q1.out 1).trans rfl⟩ (fun hHeld => ?_)
               clear hK K
               refine norm_ (a' := ?_) ?_ ?_
               rotate_left
               · show Act.put _ (some 25) _ = _
                 simp only [Act.put, List.setIfInBounds_toArray, List.set_cons_zero, List.set_cons_succ, i64_w, i32_w]
                 rfl
               refine two_ (i := 3) (j := 6) (Ni := some 27) (Nj := some 8) #[true, true, true, true, true, false, false, false] #[true, true, true, false, true, false, true, false] rfl rfl rfl rfl (two_of HT_.out (by kernel_rfl)) (by decide) (by decide) (fun K hK => ?_) (fun K hK => ?_)
               · skip
                 refine goes_ Try.func23 (by kernel_rfl) rfl #[.agg #[.slice A1_0 l1_0.length c1_0, .int .i64 a1_1]] (by rfl) rfl rfl ma ?_
                 with_reducible refine (laws_toFollower.calls k _ _ l1_0 a1_1 t195 t198 _ ?side1 ?side2 A12.out).mono ?_
                 (case side1 => exact ca (Kd.C_below HR1_0.out HB.out))
                 (case side2 => exact HC1_0.out)
                 rintro e w33 ⟨v196, rfl, ho0, hb⟩
                 refine ⟨_, rfl, ?_⟩
                 have n0_ := q0 (Kd.R_elder' (ra qa.out) (Kd.R_base ho0) hb); have n1_ := q0 (Kd.R_lower (Kd.R_new' ho0 (Kd.R_lt (ra qa.out))) (below_size (qx))); have n2_ := q0 (bb q1.out hb); have n3_ := q0 (below_step (qx) hb); clear qa q1 HB; have qa := n0_; have qb := n1_; have q1 := n2_; have HB := n3_; clear n0_ n1_ n2_ n3_; (try clear hb); (try clear hb2); (try clear hk); (try clear hi); (try clear ho0)
                 obtain ⟨z16, z17, eo34⟩ := Kd.R_slice qa.out
                 (first | subst eo34 | (injection eo34 with f1_ f2_ f3_; have f4_ := f1_.symm; have f5_ := f3_.symm; clear f1_ f2_ f3_; subst f4_; subst f5_))
                 obtain ⟨z0x, z0y, eo35⟩ := Kd.R_slice qb.out
                 (first | subst eo35 | (injection eo35 with f1_ f2_ f3_; have f4_ := f1_.symm; have f5_ := f3_.symm; clear f1_ f2_ f3_; subst f4_; subst f5_))
                 refine hK.out _ _ ⟨(blk_cell q1.out 0).trans rfl, (blk_cell q1.out 1).trans rfl⟩ (fun hHeld => ?_)
                 clear hK K
                 refine norm_ (a' := ?_) ?_ ?_
                 rotate_left
                 · show Act.put _ (some 27) _ = _
                   simp only [Act.put, List.setIfInBounds_toArray, List.set_cons_zero, List.set_cons_succ, i64_w, i32_w]
                   rfl
                 refine two_ (i := 5) (j := 6) (Ni := some 29) (Nj := some 8) #[true, true, true, true, true, true, false, false] #[true, true, true, true, true, false, true, false] rfl rfl rfl rfl (two_of HT_.out (by kernel_rfl)) (by decide) (by decide) (fun K hK => ?_) (fun K hK => ?_)
                 · skip
                   refine goes_ Try.func27 (by kernel_rfl) rfl #[.slice z16 t192.length z17, .agg #[.slice z0x t195.length z0y, .int .i64 t198], .int .i64 a2] (by rfl) rfl rfl ma ?_
                   with_reducible refine (spec_StepFollower.calls k _ _ t192 _ _ t195 t198 a2 t199 t202 _ ?side1 ?side2 ?side3 ?side4 A13.out).mono ?_
                   (case side1 => exact ca (Kd.R_reads' qa.out).2.2)
                   (case side2 => exact (Kd.R_reads' qa.out).2.1)
                   (case side3 => exact ca (Kd.R_reads' qb.out).2.2)
                   (case side4 => exact (Kd.R_reads' qb.out).2.1)
                   rintro e w36 ⟨v200, rfl, ho0, hb⟩
                   refine ⟨_, rfl, ?_⟩
                   have n0_ := q0 (Kd.R_elder' (ra qa.out) (Kd.R_base ho0) hb); have n1_ := q0 (Kd.R_elder' (ra qb.out) (Kd.R_base ho0) hb); have n2_ := q0 (Kd.R_lower (Kd.R_new' (Kd.R_new' ho0 (Kd.R_lt (ra qa.out))) (Kd.R_lt (ra qb.out))) (below_size (qx))); have n3_ := q0 (bb q1.out hb); have n4_ := q0 (below_step (qx) hb); clear qa qb q1 HB; have qa := n0_; have qb := n1_; have qg := n2_; have q1 := n3_; have HB := n4_; clear n0_ n1_ n2_ n3_ n4_; (try clear hb); (try clear hb2); (try clear hk); (try clear hi); (try clear ho0)
                   refine hK.out _ _ ⟨(blk_cell q1.out 0).trans rfl, (blk_cell q1.out 1).trans rfl⟩ (fun hHeld => ?_)
                   clear hK K
                   refine norm_ (a' := ?_) ?_ ?_
                   rotate_left
                   · show Act.put _ (some 29) _ = _
                     simp only [Act.put, List.setIfInBounds_toArray, List.set_cons_zero, List.set_cons_succ, i64_w, i32_w]
                     rfl
                   refine one_ (i := 6) (N := some 8) #[true, true, true, true, true, true, true, false] rfl rfl (one_of HT_.out (by kernel_rfl)) (by decide) (fun K hK => ?_)
                   refine box_step ?hg (N := 8) ?hd (cs := #[.slice none 0 0, .int .i64 0]) (t := 35) ?hr ?_; (case hd => rfl); (case hg => rfl); (case hr => first | (go_simp; done) | (go_simp; rfl))
                   intro qd hg w37 hbox hb
                   have n0_ := q0 (Kd.R_below (ra qa.out) hb); have n1_ := q0 (Kd.R_below (ra qb.out) hb); have n2_ := q0 (Kd.R_below (ra qg.out) hb); have n3_ := q0 (bb q1.out hb); have n4_ := q0 (below_step (qx) hb); have n5_ := q0 (hbox); have n6_ := q0 ((by rw [hg]; exact (below_size (qx)) : w.heap.size ≤ qd)); have n7_ := q0 ((by rw [hg]; exact (below_size (qx)) : w.heap.size ≤ qd)); have n8_ := q0 ((by rw [hg]; exact Nat.ne_of_lt (bl q1.out) : qf ≠ qd)); have n9_ := q0 ((by rw [hg]; exact Nat.ne_of_gt (bl q1.out) : qd ≠ qf)); clear qa qb qg q1 HB; have qa := n0_; have qb := n1_; have qg := n2_; have q1 := n3_; have HB := n4_; have q5 := n5_; have GW203 := n6_; have z0t := n7_; have qo := n8_; have qy := n9_; clear n0_ n1_ n2_ n3_ n4_ n5_ n6_ n7_ n8_ n9_ hb hbox hg
                   refine hK.out _ _ ⟨(blk_cell q1.out 0).trans rfl, (blk_cell q1.out 1).trans rfl⟩ (fun hHeld => ?_)
                   clear hK K
                   refine norm_ (a' := ?_) ?_ ?_
                   rotate_left
                   · show Act.put _ (some 8) _ = _
                     simp only [Act.put, List.setIfInBounds_toArray, List.set_cons_zero, List.set_cons_succ, i64_w, i32_w]
                     rfl
                   exact norm_ (by simp only [putAll, Act.put, List.setIfInBounds_toArray, List.set_cons_zero, List.set_cons_succ]) (hCont (.slice z16 t192.length z17, .slice z0x t195.length z0y, v200, qd) _ ⟨hHeld, (by refine ra ?_; exact Kd.R_mono qa.out (fun _ hk => ⟨hk.1.2, hk.2⟩)), (by refine ra ?_; exact Kd.R_mono qb.out (fun _ hk => ⟨hk.1.2, hk.2⟩)), (by refine ra ?_; exact Kd.R_mono qg.out (fun _ hk => ⟨hk.1.2, hk.2⟩)), (ba q1.out), (ba q5.out), GW203.out, z0t.out, qo.out, qy.out, (qe)⟩)
                 · skip
                   refine box_step ?hg (N := 8) ?hd (cs := #[.slice none 0 0, .int .i64 0]) (t := 35) ?hr ?_; (case hd => rfl); (case hg => rfl); (case hr => first | (go_simp; done) | (go_simp; rfl))
                   intro qd hg w34 hbox hb
                   have n0_ := q0 (Kd.R_below (ra qa.out) hb); have n1_ := q0 (Kd.R_below (ra qb.out) hb); have n2_ := q0 (bb q1.out hb); have n3_ := q0 (below_step (qx) hb); have n4_ := q0 (hbox); have n5_ := q0 ((by rw [hg]; exact (below_size (qx)) : w.heap.size ≤ qd)); have n6_ := q0 ((by rw [hg]; exact (below_size (qx)) : w.heap.size ≤ qd)); have n7_ := q0 ((by rw [hg]; exact Nat.ne_of_lt (bl q1.out) : qf ≠ qd)); have n8_ := q0 ((by rw [hg]; exact Nat.ne_of_gt (bl q1.out) : qd ≠ qf)); clear qa qb q1 HB; have qa := n0_; have qb := n1_; have q1 := n2_; have HB := n3_; have q5 := n4_; have GW203 := n5_; have z0t := n6_; have qo := n7_; have qy := n8_; clear n0_ n1_ n2_ n3_ n4_ n5_ n6_ n7_ n8_ hb hbox hg
                   obtain ⟨z0x, z0y, eo35⟩ := Kd.R_slice qa.out
                   (first | subst eo35 | (injection eo35 with f1_ f2_ f3_; have f4_ := f1_.symm; have f5_ := f3_.symm; clear f1_ f2_ f3_; subst f4_; subst f5_))
                   obtain ⟨z0z, z10, eo36⟩ := Kd.R_slice qb.out
                   (first | subst eo36 | (injection eo36 with f1_ f2_ f3_; have f4_ := f1_.symm; have f5_ := f3_.symm; clear f1_ f2_ f3_; subst f4_; subst f5_))
                   refine hK.out _ _ ⟨(blk_cell q1.out 0).trans rfl, (blk_cell q1.out 1).trans rfl⟩ (fun hHeld => ?_)
                   clear hK K
                   refine norm_ (a' := ?_) ?_ ?_
                   rotate_left
                   · show Act.put _ (some 8) _ = _
                     simp only [Act.put, List.setIfInBounds_toArray, List.set_cons_zero, List.set_cons_succ, i64_w, i32_w]
                     rfl
                   refine one_ (i := 5) (N := some 29) #[true, true, true, true, true, true, true, false] rfl rfl (one_of HT_.out (by kernel_rfl)) (by decide) (fun K hK => ?_)
                   refine goes_ Try.func27 (by kernel_rfl) rfl #[.slice z0x t192.length z0y, .agg #[.slice z0z t195.length z10, .int .i64 t198], .int .i64 a2] (by rfl) rfl rfl ma ?_
                   with_reducible refine (spec_StepFollower.calls k _ _ t192 _ _ t195 t198 a2 t199 t202 _ ?side1 ?side2 ?side3 ?side4 A13.out).mono ?_
                   (case side1 => exact ca (Kd.R_reads' qa.out).2.2)
                   (case side2 => exact (Kd.R_reads' qa.out).2.1)
                   (case side3 => exact ca (Kd.R_reads' qb.out).2.2)
                   (case side4 => exact (Kd.R_reads' qb.out).2.1)
                   rintro e w37 ⟨v200, rfl, ho0, hb⟩
                   refine ⟨_, rfl, ?_⟩
                   have n0_ := q0 (Kd.R_elder' (ra qa.out) (Kd.R_base ho0) hb); have n1_ := q0 (Kd.R_elder' (ra qb.out) (Kd.R_base ho0) hb); have n2_ := q0 (Kd.R_lower (Kd.R_new' (Kd.R_new' ho0 (Kd.R_lt (ra qa.out))) (Kd.R_lt (ra qb.out))) (below_size (qe))); have n3_ := q0 (bb q1.out hb); have n4_ := q0 (bb q5.out hb); have n5_ := q0 (below_step (qe) hb); clear qa qb q1 q5 HB; have qa := n0_; have qb := n1_; have qg := n2_; have q1 := n3_; have q5 := n4_; have HB := n5_; clear n0_ n1_ n2_ n3_ n4_ n5_; (try clear hb); (try clear hb2); (try clear hk); (try clear hi); (try clear ho0)
                   refine hK.out _ _ ⟨(blk_cell q1.out 0).trans rfl, (blk_cell q1.out 1).trans rfl⟩ (fun hHeld => ?_)
                   clear hK K
                   refine norm_ (a' := ?_) ?_ ?_
                   rotate_left
                   · show Act.put _ (some 29) _ = _
                     simp only [Act.put, List.setIfInBounds_toArray, List.set_cons_zero, List.set_cons_succ, i64_w, i32_w]
                     rfl
                   exact norm_ (by simp only [putAll, Act.put, List.setIfInBounds_toArray, List.set_cons_zero, List.set_cons_succ]) (hCont (.slice z0x t192.length z0y, .slice z0z t195.length z10, v200, qd) _ ⟨hHeld, (by refine ra ?_; exact Kd.R_mono qa.out (fun _ hk => ⟨hk.1.2, hk.2⟩)), (by refine ra ?_; exact Kd.R_mono qb.out (fun _ hk => ⟨hk.1.2, hk.2⟩)), (by refine ra ?_; exact Kd.R_mono qg.out (fun _ hk => ⟨hk.1.2, hk.2⟩)), (ba q1.out), (ba q5.out), GW203.out, z0t.out, qo.out, qy.out, (qe)⟩)
               · skip
                 refine box_step ?hg (N := 8) ?hd (cs := #[.slice none 0 0, .int .i64 0]) (t := 35) ?hr ?_; (case hd => rfl); (case hg => rfl); (case hr => first | (go_simp; done) | (go_simp; rfl))
                 intro qd hg w33 hbox hb
                 have n0_ := q0 (Kd.R_below (ra qa.out) hb); have n1_ := q0 (bb q1.out hb); have n2_ := q0 (below_step (qx) hb); have n3_ := q0 (hbox); have n4_ := q0 ((by rw [hg]; exact (below_size (qx)) : w.heap.size ≤ qd)); have n5_ := q0 ((by rw [hg]; exact (below_size (qx)) : w.heap.size ≤ qd)); have n6_ := q0 ((by rw [hg]; exact Nat.ne_of_lt (bl q1.out) : qf ≠ qd)); have n7_ := q0 ((by rw [hg]; exact Nat.ne_of_gt (bl q1.out) : qd ≠ qf)); clear qa q1 HB; have qa := n0_; have q1 := n1_; have HB := n2_; have q5 := n3_; have GW203 := n4_; have z0t := n5_; have qo := n6_; have qy := n7_; clear n0_ n1_ n2_ n3_ n4_ n5_ n6_ n7_ hb hbox hg
                 refine hK.out _ _ ⟨(blk_cell q1.out 0).trans rfl, (blk_cell q1.out 1).trans rfl⟩ (fun hHeld => ?_)
                 clear hK K
                 refine norm_ (a' := ?_) ?_ ?_
                 rotate_left
                 · show Act.put _ (some 8) _ = _
                   simp only [Act.put, List.setIfInBounds_toArray, List.set_cons_zero, List.set_cons_succ, i64_w, i32_w]
                   rfl
                 refine one_ (i := 3) (N := some 27) #[true, true, true, true, true, false, true, false] rfl rfl (one_of HT_.out (by kernel_rfl)) (by decide) (fun K hK => ?_)
                 refine goes_ Try.func23 (by kernel_rfl) rfl #[.agg #[.slice A1_0 l1_0.length c1_0, .int .i64 a1_1]] (by rfl) rfl rfl ma ?_
                 with_reducible refine (laws_toFollower.calls k _ _ l1_0 a1_1 t195 t198 _ ?side1 ?side2 A12.out).mono ?_
                 (case side1 => exact ca (Kd.C_below HR1_0.out HB.out))
                 (case side2 => exact HC1_0.out)
                 rintro e w34 ⟨v196, rfl, ho0, hb⟩
                 refine ⟨_, rfl, ?_⟩
                 have n0_ := q0 (Kd.R_elder' (ra qa.out) (Kd.R_base ho0) hb); have n1_ := q0 (Kd.R_lower (Kd.R_new' ho0 (Kd.R_lt (ra qa.out))) (below_size (qe))); have n2_ := q0 (bb q1.out hb); have n3_ := q0 (bb q5.out hb); have n4_ := q0 (below_step (qe) hb); clear qa q1 q5 HB; have qa := n0_; have qb := n1_; have q1 := n2_; have q5 := n3_; have HB := n4_; clear n0_ n1_ n2_ n3_ n4_; (try clear hb); (try clear hb2); (try clear hk); (try clear hi); (try clear ho0)
                 obtain ⟨z0x, z0y, eo35⟩ := Kd.R_slice qa.out
                 (first | subst eo35 | (injection eo35 with f1_ f2_ f3_; have f4_ := f1_.symm; have f5_ := f3_.symm; clear f1_ f2_ f3_; subst f4_; subst f5_))
                 obtain ⟨z0z, z10, eo36⟩ := Kd.R_slice qb.out
                 (first | subst eo36 | (injection eo36 with f1_ f2_ f3_; have f4_ := f1_.symm; have f5_ := f3_.symm; clear f1_ f2_ f3_; subst f4_; subst f5_))
                 refine hK.out _ _ ⟨(blk_cell q1.out 0).trans rfl, (blk_cell q1.out 1).trans rfl⟩ (fun hHeld => ?_)
                 clear hK K
                 refine norm_ (a' := ?_) ?_ ?_
                 rotate_left
                 · show Act.put _ (some 27) _ = _
                   simp only [Act.put, List.setIfInBounds_toArray, List.set_cons_zero, List.set_cons_succ, i64_w, i32_w]
                   rfl
                 refine one_ (i := 5) (N := some 29) #[true, true, true, true, true, true, true, false] rfl rfl (one_of HT_.out (by kernel_rfl)) (by decide) (fun K hK => ?_)
                 refine goes_ Try.func27 (by kernel_rfl) rfl #[.slice z0x t192.length z0y, .agg #[.slice z0z t195.length z10, .int .i64 t198], .int .i64 a2] (by rfl) rfl rfl ma ?_
                 with_reducible refine (spec_StepFollower.calls k _ _ t192 _ _ t195 t198 a2 t199 t202 _ ?side1 ?side2 ?side3 ?side4 A13.out).mono ?_
                 (case side1 => exact ca (Kd.R_reads' qa.out).2.2)
                 (case side2 => exact (Kd.R_reads' qa.out).2.1)
                 (case side3 => exact ca (Kd.R_reads' qb.out).2.2)
                 (case side4 => exact (Kd.R_reads' qb.out).2.1)
                 rintro e w37 ⟨v200, rfl, ho0, hb⟩
                 refine ⟨_, rfl, ?_⟩
                 have n0_ := q0 (Kd.R_elder' (ra qa.out) (Kd.R_base ho0) hb); have n1_ := q0 (Kd.R_elder' (ra qb.out) (Kd.R_base ho0) hb); have n2_ := q0 (Kd.R_lower (Kd.R_new' (Kd.R_new' ho0 (Kd.R_lt (ra qa.out))) (Kd.R_lt (ra qb.out))) (below_size (qe))); have n3_ := q0 (bb q1.out hb); have n4_ := q0 (bb q5.out hb); have n5_ := q0 (below_step (qe) hb); clear qa qb q1 q5 HB; have qa := n0_; have qb := n1_; have qg := n2_; have q1 := n3_; have q5 := n4_; have HB := n5_; clear n0_ n1_ n2_ n3_ n4_ n5_; (try clear hb); (try clear hb2); (try clear hk); (try clear hi); (try clear ho0)
                 refine hK.out _ _ ⟨(blk_cell q1.out 0).trans rfl, (blk_cell q1.out 1).trans rfl⟩ (fun hHeld => ?_)
                 clear hK K
                 refine norm_ (a' := ?_) ?_ ?_
                 rotate_left
                 · show Act.put _ (some 29) _ = _
                   simp only [Act.put, List.setIfInBounds_toArray, List.set_cons_zero, List.set_cons_succ, i64_w, i32_w]
                   rfl
                 exact norm_ (by simp only [putAll, Act.put, List.setIfInBounds_toArray, List.set_cons_zero, List.set_cons_succ]) (hCont (.slice z0x t192.length z0y, .slice z0z t195.length z10, v200, qd) _ ⟨hHeld, (by refine ra ?_; exact Kd.R_mono qa.out (fun _ hk => ⟨hk.1.2, hk.2⟩)), (by refine ra ?_; exact Kd.R_mono qb.out (fun _ hk => ⟨hk.1.2, hk.2⟩)), (by refine ra ?_; exact Kd.R_mono qg.out (fun _ hk => ⟨hk.1.2, hk.2⟩)), (ba q1.out), (ba q5.out), GW203.out, z0t.out, qo.out, qy.out, (qe)⟩)
             · skip
               refine box_step ?hg (N := 8) ?hd (cs := #[.slice none 0 0, .int .i64 0]) (t := 35) ?hr ?_; (case hd => rfl); (case hg => rfl); (case hr => first | (go_simp; done) | (go_simp; rfl))
               intro qd hg w32 hbox hb
               have n0_ := q0 (bb q1.out hb); have n1_ := q0 (below_step (qx) hb); have n2_ := q0 (hbox); have n3_ := q0 ((by rw [hg]; exact (below_size (qx)) : w.heap.size ≤ qd)); have n4_ := q0 ((by rw [hg]; exact (below_size (qx)) : w.heap.size ≤ qd)); have n5_ := q0 ((by rw [hg]; exact Nat.ne_of_lt (bl q1.out) : qf ≠ qd)); have n6_ := q0 ((by rw [hg]; exact Nat.ne_of_gt (bl q1.out) : qd ≠ qf)); clear q1 HB; have q1 := n0_; have HB := n1_; have q5 := n2_; have GW203 := n3_; have z0t := n4_; have qo := n5_; have qy := n6_; clear n0_ n1_ n2_ n3_ n4_ n5_ n6_ hb hbox hg
               refine hK.out _ _ ⟨(blk_cell q1.out 0).trans rfl, (blk_cell q1.out 1).trans rfl⟩ (fun hHeld => ?_)
               clear hK K
               refine norm_ (a' := ?_) ?_ ?_
               rotate_left
               · show Act.put _ (some 8) _ = _
                 simp only [Act.put, List.setIfInBounds_toArray, List.set_cons_zero, List.set_cons_succ, i64_w, i32_w]
                 rfl
               refine one_ (i := 1) (N := some 25) #[true, true, true, false, true, false, true, false] rfl rfl (one_of HT_.out (by kernel_rfl)) (by decide) (fun K hK => ?_)
               refine goes_ Try.func22 (by kernel_rfl) rfl #[.slice A0 l0.length c0] (by rfl) rfl rfl ma ?_
               with_reducible refine (laws_toIntS.calls k _ _ l0 t192 _ ?side1 ?side2 A11.out).mono ?_
               (case side1 => exact ca (Kd.C_below HR0.out HB.out))
               (case side2 => exact HC0.out)
               rintro e w33 ⟨v193, rfl, ho0, hb⟩
               refine ⟨_, rfl, ?_⟩
               have n0_ := q0 (Kd.R_lower ho0 (below_size (qe))); have n1_ := q0 (bb q1.out hb); have n2_ := q0 (bb q5.out hb); have n3_ := q0 (below_step (qe) hb); clear q1 q5 HB; have qa := n0_; have q1 := n1_; have q5 := n2_; have HB := n3_; clear n0_ n1_ n2_ n3_; (try clear hb); (try clear hb2); (try clear hk); (try clear hi); (try clear ho0)
               refine hK.out _ _ ⟨(blk_cell q1.out 0).trans rfl, (blk_cell q1.out 1).trans rfl⟩ (fun hHeld => ?_)
               clear hK K
               refine norm_ (a' := ?_) ?_ ?_
               rotate_left
               · show Act.put _ (some 25) _ = _
                 simp only [Act.put, List.setIfInBounds_toArray, List.set_cons_zero, List.set_cons_succ, i64_w, i32_w]
                 rfl
               refine one_ (i := 3) (N := some 27) #[true, true, true, true, true, false, true, false] rfl rfl (one_of HT_.out (by kernel_rfl)) (by decide) (fun K hK => ?_)
               refine goes_ Try.func23 (by kernel_rfl) rfl #[.agg #[.slice A1_0 l1_0.length c1_0, .int .i64 a1_1]] (by rfl) rfl rfl ma ?_
               with_reducible refine (laws_toFollower.calls k _ _ l1_0 a1_1 t195 t198 _ ?side1 ?side2 A12.out).mono ?_
               (case side1 => exact ca (Kd.C_below HR1_0.out HB.out))
               (case side2 => exact HC1_0.out)
               rintro e w34 ⟨v196, rfl, ho0, hb⟩
               refine ⟨_, rfl, ?_⟩
               have n0_ := q0 (Kd.R_elder' (ra qa.out) (Kd.R_base ho0) hb); have n1_ := q0 (Kd.R_lower (Kd.R_new' ho0 (Kd.R_lt (ra qa.out))) (below_size (qe))); have n2_ := q0 (bb q1.out hb); have n3_ := q0 (bb q5.out hb); have n4_ := q0 (below_step (qe) hb); clear qa q1 q5 HB; have qa := n0_; have qb := n1_; have q1 := n2_; have q5 := n3_; have HB := n4_; clear n0_ n1_ n2_ n3_ n4_; (try clear hb); (try clear hb2); (try clear hk); (try clear hi); (try clear ho0)
               obtain ⟨z0x, z0y, eo35⟩ := Kd.R_slice qa.out
               (first | subst eo35 | (injection eo35 with f1_ f2_ f3_; have f4_ := f1_.symm; have f5_ := f3_.symm; clear f1_ f2_ f3_; subst f4_; subst f5_))
               obtain ⟨z0z, z10, eo36⟩ := Kd.R_slice qb.out
               (first | subst eo36 | (injection eo36 with f1_ f2_ f3_; have f4_ := f1_.symm; have f5_ := f3_.symm; clear f1_ f2_ f3_; subst f4_; subst f5_))
               refine hK.out _ _ ⟨(blk_cell q1.out 0).trans rfl, (blk_cell q1.out 1).trans rfl⟩ (fun hHeld => ?_)
               clear hK K
               refine norm_ (a' := ?_) ?_ ?_
               rotate_left
               · show Act.put _ (some 27) _ = _
                 simp only [Act.put, List.setIfInBounds_toArray, List.set_cons_zero, List.set_cons_succ, i64_w, i32_w]
                 rfl
               refine one_ (i := 5) (N := some 29) #[true, true, true, true, true, true, true, false] rfl rfl (one_of HT_.out (by kernel_rfl)) (by decide) (fun K hK => ?_)
               refine goes_ Try.func27 (by kernel_rfl) rfl #[.slice z0x t192.length z0y, .agg #[.slice z0z t195.length z10, .int .i64 t198], .int .i64 a2] (by rfl) rfl rfl ma ?_
               with_reducible refine (spec_StepFollower.calls k _ _ t192 _ _ t195 t198 a2 t199 t202 _ ?side1 ?side2 ?side3 ?side4 A13.out).mono ?_
               (case side1 => exact ca (Kd.R_reads' qa.out).2.2)
               (case side2 => exact (Kd.R_reads' qa.out).2.1)
               (case side3 => exact ca (Kd.R_reads' qb.out).2.2)
               (case side4 => exact (Kd.R_reads' qb.out).2.1)
               rintro e w37 ⟨v200, rfl, ho0, hb⟩
               refine ⟨_, rfl, ?_⟩
               have n0_ := q0 (Kd.R_elder' (ra qa.out) (Kd.R_base ho0) hb); have n1_ := q0 (Kd.R_elder' (ra qb.out) (Kd.R_base ho0) hb); have n2_ := q0 (Kd.R_lower (Kd.R_new' (Kd.R_new' ho0 (Kd.R_lt (ra qa.out))) (Kd.R_lt (ra qb.out))) (below_size (qe))); have n3_ := q0 (bb q1.out hb); have n4_ := q0 (bb q5.out hb); have n5_ := q0 (below_step (qe) hb); clear qa qb q1 q5 HB; have qa := n0_; have qb := n1_; have qg := n2_; have q1 := n3_; have q5 := n4_; have HB := n5_; clear n0_ n1_ n2_ n3_ n4_ n5_; (try clear hb); (try clear hb2); (try clear hk); (try clear hi); (try clear ho0)
               refine hK.out _ _ ⟨(blk_cell q1.out 0).trans rfl, (blk_cell q1.out 1).trans rfl⟩ (fun hHeld => ?_)
               clear hK K
               refine norm_ (a' := ?_) ?_ ?_
               rotate_left
               · show Act.put _ (some 29) _ = _
                 simp only [Act.put, List.setIfInBounds_toArray, List.set_cons_zero, List.set_cons_succ, i64_w, i32_w]
                 rfl
               exact norm_ (by simp only [putAll, Act.put, List.setIfInBounds_toArray, List.set_cons_zero, List.set_cons_succ]) (hCont (.slice z0x t192.length z0y, .slice z0z t195.length z10, v200, qd) _ ⟨hHeld, (by refine ra ?_; exact Kd.R_mono qa.out (fun _ hk => ⟨hk.1.2, hk.2⟩)), (by refine ra ?_; exact Kd.R_mono qb.out (fun _ hk => ⟨hk.1.2, hk.2⟩)), (by refine ra ?_; exact Kd.R_mono qg.out (fun _ hk => ⟨hk.1.2, hk.2⟩)), (ba q1.out), (ba q5.out), GW203.out, z0t.out, qo.out, qy.out, (qe)⟩)
           rintro ⟨v193, v196, v200, qd⟩ w38 ⟨hS_, h0_, h1_, h2_, h3_, h4_, h5_, h6_, h7_, h8_, h9_⟩
           have n0_ : Aside0 (Kd.R (Kd.int .i64) 3 w38 w.heap.size (fun k_ => some k_ ≠ (v196 : Value).ownBlock ∧ some k_ ≠ (v200 : Value).ownBlock) v193 t192) := ⟨h0_⟩
           have n1_ : Aside0 (Kd.R (Kd.int .i64) 3 w38 w.heap.size (fun k_ => some k_ ≠ (v193 : Value).ownBlock ∧ some k_ ≠ (v200 : Value).ownBlock) v196 t195) := ⟨h1_⟩
           have n2_ : Aside0 (Kd.R (Kd.int .i64) 3 w38 w.heap.size (fun k_ => some k_ ≠ (v193 : Value).ownBlock ∧ some k_ ≠ (v196 : Value).ownBlock) v200 t199) := ⟨h2_⟩
           have n3_ : Aside0 (w38.heap[qf]? = some (.cells #[.slice A1_0 l1_0.length c1_0, .int .i64 a1_1] 31 (0, 0))) := ⟨h3_⟩
           have n4_ : Aside0 (w38.heap[qd]? = some (.cells #[.slice none 0 0, .int .i64 0] 35 (0, 0))) := ⟨h4_⟩
           have n5_ : Aside0 (w.heap.size ≤ qd) := ⟨h5_⟩
           have n6_ : Aside0 (w.heap.size ≤ qd) := ⟨h6_⟩
           have n7_ : Aside0 (qf ≠ qd) := ⟨h7_⟩
           have n8_ : Aside0 (qd ≠ qf) := ⟨h8_⟩
           have n9_ : Aside0 (Below w.heap.size w w38) := ⟨h9_⟩
           clear q1 HB h0_ h1_ h2_ h3_ h4_ h5_ h6_ h7_ h8_ h9_; have qa := n0_; have qb := n1_; have qg := n2_; have q1 := n3_; have q5 := n4_; have GW203 := n5_; have z0t := n6_; have qo := n7_; have qy := n8_; have HB := n9_; clear n0_ n1_ n2_ n3_ n4_ n5_ n6_ n7_ n8_ n9_
           have hHeld : w38.cell? ⟨qf, 0, none⟩ = some (.slice A1_0 l1_0.length c1_0) ∧ w38.cell? ⟨qf, 1, none⟩ = some (.int .i64 a1_1) := hS_
           obtain ⟨qv, qu, eo39⟩ := Kd.R_slice qg.out
           (first | subst eo39 | (injection eo39 with f1_ f2_ f3_; have f4_ := f1_.symm; have f5_ := f3_.symm; clear f1_ f2_ f3_; subst f4_; subst f5_))
           refine norm_ (a' := ?_) ?_ ?_
           rotate_left
           · simp only [putAll, Act.put, List.setIfInBounds_toArray, List.set_cons_zero, List.set_cons_succ]
             rfl
           refine one_ (i := 7) (N := none) #[true, true, true, true, true, true, true, true] rfl rfl (one_of HT_.out (by kernel_rfl)) (by decide) (fun K hK => ?_)
           have hs40 : w38.cell? ⟨qd, 0, none⟩ = some (.slice none 0 0) := (blk_cell q5.out 0).trans rfl
           have hfs40 := blk_frozen q5.out 0
           have hns40_0 := qo.out
           have hms40_0 := qy.out
           have hs41 : w38.cell? ⟨qd, 1, none⟩ = some (.int .i64 0) := (blk_cell q5.out 1).trans rfl
           have hfs41 := blk_frozen q5.out 1
           have hns41_0 := qo.out
           have hms41_0 := qy.out
           refine skip_ (w1 := ?_) (by rfl) rfl ?_ ?_
           rotate_left
           · go_simp
             rfl
           refine hK.out _ _ ⟨((cell_far (p := ⟨qd, _, none⟩) qo.out _).trans (((cell_far (p := ⟨qd, _, none⟩) qo.out _).trans (hHeld.1)))), ((cell_far (p := ⟨qd, _, none⟩) qo.out _).trans (((cell_far (p := ⟨qd, _, none⟩) qo.out _).trans (hHeld.2))))⟩ (fun hHeld => ?_)
           clear hK K
           refine done_ (done_of HT_.out (by kernel_rfl)) ?_
           try go_wp2_with (first | ((with_reducible refine gate_callee (f := 22) rfl ?_); refine goesL_ (some 31) rfl rfl Try.func22 (by kernel_rfl) rfl #[.slice A0 l0.length c0] rfl ma ?_; (with_reducible refine (laws_toIntS.calls k _ _ l0 t204 _ ?side1 ?side2 A14.out).mono ?_); (case side1 => exact Kd.C_below HR0.out (qe)); (case side2 => exact HC0.out); rintro e w42 ⟨v205, rfl, ho0, hb⟩; refine ⟨_, rfl, ?_⟩; have n0_ := q0 (Kd.R_elder' (by refine ra ?_; exact (Kd.R_mono (Kd.R_far (p := ⟨qd, 1, none⟩) (Kd.R_far (p := ⟨qd, 0, none⟩) (Kd.R_types qa.out q5.out (by decide)) (fun _ hk => hk.2) (.slice qv t199.length qu)) (fun _ hk => hk.2) (.int .i64 t202)) (fun _ h_ => h_.1))) (Kd.R_base ho0) hb); have n1_ := q0 (Kd.R_elder' (by refine ra ?_; exact (Kd.R_mono (Kd.R_far (p := ⟨qd, 1, none⟩) (Kd.R_far (p := ⟨qd, 0, none⟩) (Kd.R_types qb.out q5.out (by decide)) (fun _ hk => hk.2) (.slice qv t199.length qu)) (fun _ hk => hk.2) (.int .i64 t202)) (fun _ h_ => h_.1))) (Kd.R_base ho0) hb); have n2_ := q0 (Kd.R_elder' (by refine ra ?_; exact (Kd.R_mono (Kd.R_far (p := ⟨qd, 1, none⟩) (Kd.R_far (p := ⟨qd, 0, none⟩) (Kd.R_types qg.out q5.out (by decide)) (fun _ hk => hk.2) (.slice qv t199.length qu)) (fun _ hk => hk.2) (.int .i64 t202)) (fun _ h_ => h_.1))) (Kd.R_base ho0) hb); have n3_ := q0 (Kd.R_lower (Kd.R_new' (Kd.R_new' (Kd.R_new' ho0 (Kd.R_lt (by refine ra ?_; exact (Kd.R_mono (Kd.R_far (p := ⟨qd, 1, none⟩) (Kd.R_far (p := ⟨qd, 0, none⟩) (Kd.R_types qa.out q5.out (by decide)) (fun _ hk => hk.2) (.slice qv t199.length qu)) (fun _ hk => hk.2) (.int .i64 t202)) (fun _ h_ => h_.1))))) (Kd.R_lt (by refine ra ?_; exact (Kd.R_mono (Kd.R_far (p := ⟨qd, 1, none⟩) (Kd.R_far (p := ⟨qd, 0, none⟩) (Kd.R_types qb.out q5.out (by decide)) (fun _ hk => hk.2) (.slice qv t199.length qu)) (fun _ hk => hk.2) (.int .i64 t202)) (fun _ h_ => h_.1))))) (Kd.R_lt (by refine ra ?_; exact (Kd.R_mono (Kd.R_far (p := ⟨qd, 1, none⟩) (Kd.R_far (p := ⟨qd, 0, none⟩) (Kd.R_types qg.out q5.out (by decide)) (fun _ hk => hk.2) (.slice qv t199.length qu)) (fun _ hk => hk.2) (.int .i64 t202)) (fun _ h_ => h_.1))))) (below_size (qe))); have n4_ := q0 (blk_below (g := qf) (o := .cells #[.slice A1_0 l1_0.length c1_0, .int .i64 a1_1] 31 (0, 0)) (by refine ba ?_; refine blk_far ?_ qo.out _; refine ba ?_; refine blk_far ?_ qo.out _; refine ba ?_; exact q1.out) hb); have n5_ := q0 (blk_below (g := qd) (o := .cells #[.slice qv t199.length qu, .int .i64 t202] 35 (0, 0)) (by refine ba ?_; refine blk_put (cs := #[.slice qv t199.length qu, .int .i64 0]) ?_ 1 _ rfl; refine ba ?_; refine blk_put (cs := #[.slice none 0 0, .int .i64 0]) ?_ 0 _ rfl; refine ba ?_; exact q5.out) hb); have n6_ := q0 (below_step (qe) hb); clear qa; clear qb; clear qg; clear q1; clear q5; clear HB; have qa := n0_; have qb := n1_; have qg := n2_; have qj := n3_; have q1 := n4_; have q5 := n5_; have HB := n6_; clear n0_ n1_ n2_ n3_ n4_ n5_ n6_; (try clear hb); (try clear hb2); (try clear hk); (try clear hi); (try clear ho0); have hnb43 := qo.out; have hnc43 := qy.out; have hcz44_0 : w42.cell? ⟨qf, 0, none⟩ = some (.slice A1_0 l1_0.length c1_0) := (blk_cell q1.out 0).trans rfl; have hcz44_1 : w42.cell? ⟨qf, 1, none⟩ = some (.int .i64 a1_1) := (blk_cell q1.out 1).trans rfl; have hfz44_0 := blk_frozen q1.out 0; have hfz44_1 := blk_frozen q1.out 1) | ((with_reducible refine gate_callee (f := 23) rfl ?_); refine goesL_ (some 33) rfl rfl Try.func23 (by kernel_rfl) rfl #[.agg #[.slice A1_0 l1_0.length c1_0, .int .i64 a1_1]] rfl ma ?_; (with_reducible refine (laws_toFollower.calls k _ _ l1_0 a1_1 t207 t210 _ ?side1 ?side2 A15.out).mono ?_); (case side1 => exact ca (Kd.C_below HR1_0.out HB.out)); (case side2 => exact HC1_0.out); rintro e w45 ⟨v208, rfl, ho0, hb⟩; refine ⟨_, rfl, ?_⟩; have n0_ := q0 (Kd.R_elder' (ra qa.out) (Kd.R_base ho0) hb); have n1_ := q0 (Kd.R_elder' (ra qb.out) (Kd.R_base ho0) hb); have n2_ := q0 (Kd.R_elder' (ra qg.out) (Kd.R_base ho0) hb); have n3_ := q0 (Kd.R_elder' (ra qj.out) (Kd.R_base ho0) hb); have n4_ := q0 (Kd.R_lower (Kd.R_new' (Kd.R_new' (Kd.R_new' (Kd.R_new' ho0 (Kd.R_lt (ra qa.out))) (Kd.R_lt (ra qb.out))) (Kd.R_lt (ra qg.out))) (Kd.R_lt (ra qj.out))) (below_size (qe))); have n5_ := q0 (bb q1.out hb); have n6_ := q0 (bb q5.out hb); have n7_ := q0 (below_step (qe) hb); clear qa; clear qb; clear qg; clear qj; clear q1; clear q5; clear HB; have qa := n0_; have qb := n1_; have qg := n2_; have qj := n3_; have ql := n4_; have q1 := n5_; have q5 := n6_; have HB := n7_; clear n0_ n1_ n2_ n3_ n4_ n5_ n6_ n7_; (try clear hb); (try clear hb2); (try clear hk); (try clear hi); (try clear ho0)) | ((with_reducible refine gate_dst (N := 10) rfl ?_); refine box_event ?hg (N := 10) ?hd (cs := #[.slice none 0 0, .int .i64 0]) (t := 35) ?hr ?_; (case hd => rfl); (case hg => rfl); (case hr => first | (go_simp; done) | (go_simp; rfl)); intro qi hg w46 hbox hb; have n0_ := q0 (Kd.R_below (ra qa.out) hb); have n1_ := q0 (Kd.R_below (ra qb.out) hb); have n2_ := q0 (Kd.R_below (ra qg.out) hb); have n3_ := q0 (Kd.R_below (ra qj.out) hb); have n4_ := q0 (Kd.R_below (ra ql.out) hb); have n5_ := q0 (bb q1.out hb); have n6_ := q0 (bb q5.out hb); have n7_ := q0 (below_step (qe) hb); have n8_ := q0 (hbox); have n9_ := q0 ((by rw [hg]; exact (below_size (qe)) : w.heap.size ≤ qi)); have n10_ := q0 ((by rw [hg]; exact (below_size (qe)) : w.heap.size ≤ qi)); have n11_ := q0 ((by rw [hg]; exact Nat.ne_of_lt (bl q1.out) : qf ≠ qi)); have n12_ := q0 ((by rw [hg]; exact Nat.ne_of_gt (bl q1.out) : qi ≠ qf)); have n13_ := q0 ((by rw [hg]; exact Nat.ne_of_lt (bl q5.out) : qd ≠ qi)); have n14_ := q0 ((by rw [hg]; exact Nat.ne_of_gt (bl q5.out) : qi ≠ qd)); clear qa; clear qb; clear qg; clear qj; clear ql; clear q1; clear q5; clear HB; have qa := n0_; have qb := n1_; have qg := n2_; have qj := n3_; have ql := n4_; have q1 := n5_; have q5 := n6_; have HB := n7_; have q7 := n8_; have GW211 := n9_; have z18 := n10_; have z0m := n11_; have z11 := n12_; have z0c := n13_; have z0n := n14_; clear n0_ n1_ n2_ n3_ n4_ n5_ n6_ n7_ n8_ n9_ n10_ n11_ n12_ n13_ n14_; clear hb hbox hg; obtain ⟨qq, qp, eo47⟩ := Kd.R_slice ql.out; subst eo47; have hnb48 := z11.out; have hnc48 := z0m.out; have hnb49 := z0n.out; have hnc49 := z0c.out; have hcz50_0 : w46.cell? ⟨qi, 0, none⟩ = some (.slice none 0 0) := (blk_cell q7.out 0).trans rfl; have hcz50_1 : w46.cell? ⟨qi, 1, none⟩ = some (.int .i64 0) := (blk_cell q7.out 1).trans rfl; have hfz50_0 := blk_frozen q7.out 0; have hfz50_1 := blk_frozen q7.out 1; obtain ⟨z0a, z09, eo51⟩ := Kd.R_slice qj.out; subst eo51) | ((with_reducible refine gate_callee (f := 28) rfl ?_); refine goesL_ (some 37) rfl rfl Try.func28 (by kernel_rfl) rfl #[.slice z0a t204.length z09, .agg #[.slice qq t207.length qp, .int .i64 t210], .int .i64 a2] rfl ma ?_; (with_reducible refine (impl_StepFollower.calls k _ _ t204 _ _ t207 t210 a2 t212 t215 _ ?side1 ?side2 ?side3 ?side4 A16.out).mono ?_); (case side1 => refine (Kd.R_reads' (e := 3) (base := w.heap.size) (ok := fun k_ => ((((True ∧ some k_ ≠ (v193 : Value).ownBlock) ∧ some k_ ≠ (v196 : Value).ownBlock) ∧ some k_ ≠ (.slice qv t199.length qu : Value).ownBlock) ∧ some k_ ≠ (.slice qq t207.length qp : Value).ownBlock)) (n := t204.length) (c := z09) ?_).2.2; exact (by refine ra ?_; exact (Kd.R_mono (Kd.R_far (p := ⟨qi, 1, none⟩) (Kd.R_far (p := ⟨qi, 0, none⟩) (Kd.R_types qj.out q7.out (by decide)) (fun _ hk => hk.2) (.slice qq t207.length qp)) (fun _ hk => hk.2) (.int .i64 t210)) (fun _ h_ => h_.1)))); (case side2 => exact (Kd.R_reads' qj.out).2.1); (case side3 => refine (Kd.R_reads' (e := 3) (base := w.heap.size) (ok := fun k_ => ((((True ∧ some k_ ≠ (v193 : Value).ownBlock) ∧ some k_ ≠ (v196 : Value).ownBlock) ∧ some k_ ≠ (.slice qv t199.length qu : Value).ownBlock) ∧ some k_ ≠ (.slice z0a t204.length z09 : Value).ownBlock)) (n := t207.length) (c := qp) ?_).2.2; exact (by refine ra ?_; exact (Kd.R_mono (Kd.R_far (p := ⟨qi, 1, none⟩) (Kd.R_far (p := ⟨qi, 0, none⟩) (Kd.R_types ql.out q7.out (by decide)) (fun _ hk => hk.2) (.slice qq t207.length qp)) (fun _ hk => hk.2) (.int .i64 t210)) (fun _ h_ => h_.1)))); (case side4 => exact (Kd.R_reads' ql.out).2.1); rintro e w52 ⟨v213, rfl, ho0, hb⟩; refine ⟨_, rfl, ?_⟩; have n0_ := q0 (Kd.R_elder' (by refine ra ?_; exact (Kd.R_mono (Kd.R_far (p := ⟨qi, 1, none⟩) (Kd.R_far (p := ⟨qi, 0, none⟩) (Kd.R_types qa.out q7.out (by decide)) (fun _ hk => hk.2) (.slice qq t207.length qp)) (fun _ hk => hk.2) (.int .i64 t210)) (fun _ h_ => h_.1))) (Kd.R_base ho0) hb); have n1_ := q0 (Kd.R_elder' (by refine ra ?_; exact (Kd.R_mono (Kd.R_far (p := ⟨qi, 1, none⟩) (Kd.R_far (p := ⟨qi, 0, none⟩) (Kd.R_types qb.out q7.out (by decide)) (fun _ hk => hk.2) (.slice qq t207.length qp)) (fun _ hk => hk.2) (.int .i64 t210)) (fun _ h_ => h_.1))) (Kd.R_base ho0) hb); have n2_ := q0 (Kd.R_elder' (by refine ra ?_; exact (Kd.R_mono (Kd.R_far (p := ⟨qi, 1, none⟩) (Kd.R_far (p := ⟨qi, 0, none⟩) (Kd.R_types qg.out q7.out (by decide)) (fun _ hk => hk.2) (.slice qq t207.length qp)) (fun _ hk => hk.2) (.int .i64 t210)) (fun _ h_ => h_.1))) (Kd.R_base ho0) hb); have n3_ := q0 (Kd.R_elder' (by refine ra ?_; exact (Kd.R_mono (Kd.R_far (p := ⟨qi, 1, none⟩) (Kd.R_far (p := ⟨qi, 0, none⟩) (Kd.R_types qj.out q7.out (by decide)) (fun _ hk => hk.2) (.slice qq t207.length qp)) (fun _ hk => hk.2) (.int .i64 t210)) (fun _ h_ => h_.1))) (Kd.R_base ho0) hb); have n4_ := q0 (Kd.R_elder' (by refine ra ?_; exact (Kd.R_mono (Kd.R_far (p := ⟨qi, 1, none⟩) (Kd.R_far (p := ⟨qi, 0, none⟩) (Kd.R_types ql.out q7.out (by decide)) (fun _ hk => hk.2) (.slice qq t207.length qp)) (fun _ hk => hk.2) (.int .i64 t210)) (fun _ h_ => h_.1))) (Kd.R_base ho0) hb); have n5_ := q0 (Kd.R_lower (Kd.R_new' (Kd.R_new' (Kd.R_new' (Kd.R_new' (Kd.R_new' ho0 (Kd.R_lt (by refine ra ?_; exact (Kd.R_mono (Kd.R_far (p := ⟨qi, 1, none⟩) (Kd.R_far (p := ⟨qi, 0, none⟩) (Kd.R_types qa.out q7.out (by decide)) (fun _ hk => hk.2) (.slice qq t207.length qp)) (fun _ hk => hk.2) (.int .i64 t210)) (fun _ h_ => h_.1))))) (Kd.R_lt (by refine ra ?_; exact (Kd.R_mono (Kd.R_far (p := ⟨qi, 1, none⟩) (Kd.R_far (p := ⟨qi, 0, none⟩) (Kd.R_types qb.out q7.out (by decide)) (fun _ hk => hk.2) (.slice qq t207.length qp)) (fun _ hk => hk.2) (.int .i64 t210)) (fun _ h_ => h_.1))))) (Kd.R_lt (by refine ra ?_; exact (Kd.R_mono (Kd.R_far (p := ⟨qi, 1, none⟩) (Kd.R_far (p := ⟨qi, 0, none⟩) (Kd.R_types qg.out q7.out (by decide)) (fun _ hk => hk.2) (.slice qq t207.length qp)) (fun _ hk => hk.2) (.int .i64 t210)) (fun _ h_ => h_.1))))) (Kd.R_lt (by refine ra ?_; exact (Kd.R_mono (Kd.R_far (p := ⟨qi, 1, none⟩) (Kd.R_far (p := ⟨qi, 0, none⟩) (Kd.R_types qj.out q7.out (by decide)) (fun _ hk => hk.2) (.slice qq t207.length qp)) (fun _ hk => hk.2) (.int .i64 t210)) (fun _ h_ => h_.1))))) (Kd.R_lt (by refine ra ?_; exact (Kd.R_mono (Kd.R_far (p := ⟨qi, 1, none⟩) (Kd.R_far (p := ⟨qi, 0, none⟩) (Kd.R_types ql.out q7.out (by decide)) (fun _ hk => hk.2) (.slice qq t207.length qp)) (fun _ hk => hk.2) (.int .i64 t210)) (fun _ h_ => h_.1))))) (below_size (z07))); have n6_ := q0 (blk_below (g := qf) (o := .cells #[.slice A1_0 l1_0.length c1_0, .int .i64 a1_1] 31 (0, 0)) (by refine ba ?_; refine blk_far ?_ z0m.out _; refine ba ?_; refine blk_far ?_ z0m.out _; refine ba ?_; exact q1.out) hb); have n7_ := q0 (blk_below (g := qd) (o := .cells #[.slice qv t199.length qu, .int .i64 t202] 35 (0, 0)) (by refine ba ?_; refine blk_far ?_ z0c.out _; refine ba ?_; refine blk_far ?_ z0c.out _; refine ba ?_; exact q5.out) hb); have n8_ := q0 (blk_below (g := qi) (o := .cells #[.slice qq t207.length qp, .int .i64 t210] 35 (0, 0)) (by refine ba ?_; refine blk_put (cs := #[.slice qq t207.length qp, .int .i64 0]) ?_ 1 _ rfl; refine ba ?_; refine blk_put (cs := #[.slice none 0 0, .int .i64 0]) ?_ 0 _ rfl; refine ba ?_; exact q7.out) hb); have n9_ := q0 (below_step (z07) hb); clear qa; clear qb; clear qg; clear qj; clear ql; clear q1; clear q5; clear q7; clear HB; have qa := n0_; have qb := n1_; have qg := n2_; have qj := n3_; have ql := n4_; have qw := n5_; have q1 := n6_; have q5 := n7_; have q7 := n8_; have HB := n9_; clear n0_ n1_ n2_ n3_ n4_ n5_ n6_ n7_ n8_ n9_; (try clear hb); (try clear hb2); (try clear hk); (try clear hi); (try clear ho0)) | ((with_reducible refine gate_dst (N := 11) rfl ?_); refine box_event ?hg (N := 11) ?hd (cs := #[.slice none 0 0, .int .i64 0]) (t := 35) ?hr ?_; (case hd => rfl); (case hg => rfl); (case hr => first | (go_simp; done) | (go_simp; rfl)); intro qk hg w53 hbox hb; have n0_ := q0 (Kd.R_below (ra qa.out) hb); have n1_ := q0 (Kd.R_below (ra qb.out) hb); have n2_ := q0 (Kd.R_below (ra qg.out) hb); have n3_ := q0 (Kd.R_below (ra qj.out) hb); have n4_ := q0 (Kd.R_below (ra ql.out) hb); have n5_ := q0 (Kd.R_below (ra qw.out) hb); have n6_ := q0 (bb q1.out hb); have n7_ := q0 (bb q5.out hb); have n8_ := q0 (bb q7.out hb); have n9_ := q0 (below_step (z07) hb); have n10_ := q0 (hbox); have n11_ := q0 ((by rw [hg]; exact (below_size (z07)) : w.heap.size ≤ qk)); have n12_ := q0 ((by rw [hg]; exact (below_size (z07)) : w.heap.size ≤ qk)); have n13_ := q0 ((by rw [hg]; exact Nat.ne_of_lt (bl q1.out) : qf ≠ qk)); have n14_ := q0 ((by rw [hg]; exact Nat.ne_of_gt (bl q1.out) : qk ≠ qf)); have n15_ := q0 ((by rw [hg]; exact Nat.ne_of_lt (bl q5.out) : qd ≠ qk)); have n16_ := q0 ((by rw [hg]; exact Nat.ne_of_gt (bl q5.out) : qk ≠ qd)); have n17_ := q0 ((by rw [hg]; exact Nat.ne_of_lt (bl q7.out) : qi ≠ qk)); have n18_ := q0 ((by rw [hg]; exact Nat.ne_of_gt (bl q7.out) : qk ≠ qi)); clear qa; clear qb; clear qg; clear qj; clear ql; clear qw; clear q1; clear q5; clear q7; clear HB; have qa := n0_; have qb := n1_; have qg := n2_; have qj := n3_; have ql := n4_; have qw := n5_; have q1 := n6_; have q5 := n7_; have q7 := n8_; have HB := n9_; have q9 := n10_; have GW216 := n11_; have z19 := n12_; have z0d := n13_; have z0o := n14_; have z0e := n15_; have z0p := n16_; have z0f := n17_; have z0q := n18_; clear n0_ n1_ n2_ n3_ n4_ n5_ n6_ n7_ n8_ n9_ n10_ n11_ n12_ n13_ n14_ n15_ n16_ n17_ n18_; clear hb hbox hg; obtain ⟨qs, qr, eo54⟩ := Kd.R_slice qw.out; subst eo54; have hnb55 := z0o.out; have hnc55 := z0d.out; have hnb56 := z0p.out; have hnc56 := z0e.out; have hnb57 := z0q.out; have hnc57 := z0f.out; have hcz58_0 : w53.cell? ⟨qk, 0, none⟩ = some (.slice none 0 0) := (blk_cell q9.out 0).trans rfl; have hcz58_1 : w53.cell? ⟨qk, 1, none⟩ = some (.int .i64 0) := (blk_cell q9.out 1).trans rfl; have hfz58_0 := blk_frozen q9.out 0; have hfz58_1 := blk_frozen q9.out 1; have hcz59_0 : w53.cell? ⟨qd, 0, none⟩ = some (.slice qv t199.length qu) := (blk_cell q5.out 0).trans rfl; have hcz59_1 : w53.cell? ⟨qd, 1, none⟩ = some (.int .i64 t202) := (blk_cell q5.out 1).trans rfl; have hfz59_0 := blk_frozen q5.out 0; have hfz59_1 := blk_frozen q5.out 1) | ((with_reducible refine gate_callee (f := 26) rfl ?_); refine goesL_ (some 40) rfl rfl Try.func26 (by kernel_rfl) rfl #[.agg #[.slice qs t212.length qr, .int .i64 t215], .agg #[.slice qv t199.length qu, .int .i64 t202]] rfl ma ?_; (with_reducible refine (laws_eqFollower.calls k _ _ t212 t215 _ _ t199 t202 true _ ?side1 ?side2 ?side3 ?side4 A17.out).mono ?_); (case side1 => refine (Kd.R_reads' (e := 3) (base := w.heap.size) (ok := fun k_ => (((((True ∧ some k_ ≠ (v193 : Value).ownBlock) ∧ some k_ ≠ (v196 : Value).ownBlock) ∧ some k_ ≠ (.slice qv t199.length qu : Value).ownBlock) ∧ some k_ ≠ (.slice z0a t204.length z09 : Value).ownBlock) ∧ some k_ ≠ (.slice qq t207.length qp : Value).ownBlock)) (n := t212.length) (c := qr) ?_).2.2; exact (by refine ra ?_; exact (Kd.R_mono (Kd.R_far (p := ⟨qk, 1, none⟩) (Kd.R_far (p := ⟨qk, 0, none⟩) (Kd.R_types qw.out q9.out (by decide)) (fun _ hk => hk.2) (.slice qs t212.length qr)) (fun _ hk => hk.2) (.int .i64 t215)) (fun _ h_ => h_.1)))); (case side2 => exact (Kd.R_reads' qw.out).2.1); (case side3 => refine (Kd.R_reads' (e := 3) (base := w.heap.size) (ok := fun k_ => ((((some k_ ≠ (v193 : Value).ownBlock ∧ some k_ ≠ (v196 : Value).ownBlock) ∧ some k_ ≠ (.slice z0a t204.length z09 : Value).ownBlock) ∧ some k_ ≠ (.slice qq t207.length qp : Value).ownBlock) ∧ some k_ ≠ (.slice qs t212.length qr : Value).ownBlock)) (n := t199.length) (c := qu) ?_).2.2; exact (by refine ra ?_; exact (Kd.R_mono (Kd.R_far (p := ⟨qk, 1, none⟩) (Kd.R_far (p := ⟨qk, 0, none⟩) (Kd.R_types qg.out q9.out (by decide)) (fun _ hk => hk.2) (.slice qs t212.length qr)) (fun _ hk => hk.2) (.int .i64 t215)) (fun _ h_ => h_.1)))); (case side4 => exact (Kd.R_reads' qg.out).2.1); rintro e w60 ⟨rfl, hb⟩; refine ⟨_, rfl, ?_⟩; have n0_ := q0 (Kd.R_below (by refine ra ?_; exact (Kd.R_mono (Kd.R_far (p := ⟨qk, 1, none⟩) (Kd.R_far (p := ⟨qk, 0, none⟩) (Kd.R_types qa.out q9.out (by decide)) (fun _ hk => hk.2) (.slice qs t212.length qr)) (fun _ hk => hk.2) (.int .i64 t215)) (fun _ h_ => h_.1))) hb); have n1_ := q0 (Kd.R_below (by refine ra ?_; exact (Kd.R_mono (Kd.R_far (p := ⟨qk, 1, none⟩) (Kd.R_far (p := ⟨qk, 0, none⟩) (Kd.R_types qb.out q9.out (by decide)) (fun _ hk => hk.2) (.slice qs t212.length qr)) (fun _ hk => hk.2) (.int .i64 t215)) (fun _ h_ => h_.1))) hb); have n2_ := q0 (Kd.R_below (by refine ra ?_; exact (Kd.R_mono (Kd.R_far (p := ⟨qk, 1, none⟩) (Kd.R_far (p := ⟨qk, 0, none⟩) (Kd.R_types qg.out q9.out (by decide)) (fun _ hk => hk.2) (.slice qs t212.length qr)) (fun _ hk => hk.2) (.int .i64 t215)) (fun _ h_ => h_.1))) hb); have n3_ := q0 (Kd.R_below (by refine ra ?_; exact (Kd.R_mono (Kd.R_far (p := ⟨qk, 1, none⟩) (Kd.R_far (p := ⟨qk, 0, none⟩) (Kd.R_types qj.out q9.out (by decide)) (fun _ hk => hk.2) (.slice qs t212.length qr)) (fun _ hk => hk.2) (.int .i64 t215)) (fun _ h_ => h_.1))) hb); have n4_ := q0 (Kd.R_below (by refine ra ?_; exact (Kd.R_mono (Kd.R_far (p := ⟨qk, 1, none⟩) (Kd.R_far (p := ⟨qk, 0, none⟩) (Kd.R_types ql.out q9.out (by decide)) (fun _ hk => hk.2) (.slice qs t212.length qr)) (fun _ hk => hk.2) (.int .i64 t215)) (fun _ h_ => h_.1))) hb); have n5_ := q0 (Kd.R_below (by refine ra ?_; exact (Kd.R_mono (Kd.R_far (p := ⟨qk, 1, none⟩) (Kd.R_far (p := ⟨qk, 0, none⟩) (Kd.R_types qw.out q9.out (by decide)) (fun _ hk => hk.2) (.slice qs t212.length qr)) (fun _ hk => hk.2) (.int .i64 t215)) (fun _ h_ => h_.1))) hb); have n6_ := q0 (blk_below (g := qf) (o := .cells #[.slice A1_0 l1_0.length c1_0, .int .i64 a1_1] 31 (0, 0)) (by refine ba ?_; refine blk_far ?_ z0d.out _; refine ba ?_; refine blk_far ?_ z0d.out _; refine ba ?_; exact q1.out) hb); have n7_ := q0 (blk_below (g := qd) (o := .cells #[.slice qv t199.length qu, .int .i64 t202] 35 (0, 0)) (by refine ba ?_; refine blk_far ?_ z0e.out _; refine ba ?_; refine blk_far ?_ z0e.out _; refine ba ?_; exact q5.out) hb); have n8_ := q0 (blk_below (g := qi) (o := .cells #[.slice qq t207.length qp, .int .i64 t210] 35 (0, 0)) (by refine ba ?_; refine blk_far ?_ z0f.out _; refine ba ?_; refine blk_far ?_ z0f.out _; refine ba ?_; exact q7.out) hb); have n9_ := q0 (blk_below (g := qk) (o := .cells #[.slice qs t212.length qr, .int .i64 t215] 35 (0, 0)) (by refine ba ?_; refine blk_put (cs := #[.slice qs t212.length qr, .int .i64 0]) ?_ 1 _ rfl; refine ba ?_; refine blk_put (cs := #[.slice none 0 0, .int .i64 0]) ?_ 0 _ rfl; refine ba ?_; exact q9.out) hb); have n10_ := q0 (below_step (q3) hb); clear qa; clear qb; clear qg; clear qj; clear ql; clear qw; clear q1; clear q5; clear q7; clear q9; clear HB; have qa := n0_; have qb := n1_; have qg := n2_; have qj := n3_; have ql := n4_; have qw := n5_; have q1 := n6_; have q5 := n7_; have q7 := n8_; have q9 := n9_; have HB := n10_; clear n0_ n1_ n2_ n3_ n4_ n5_ n6_ n7_ n8_ n9_ n10_; (try clear hb); (try clear hb2); (try clear hk); (try clear hi)) | ((with_reducible refine gate_callee (f := 22) rfl ?_); refine goesL_ (some 44) rfl rfl Try.func22 (by kernel_rfl) rfl #[.slice A0 l0.length c0] rfl ma ?_; (with_reducible refine (laws_toIntS.calls k _ _ l0 t218 _ ?side1 ?side2 A19.out).mono ?_); (case side1 => exact ca (Kd.C_below HR0.out HB.out)); (case side2 => exact HC0.out); rintro e w61 ⟨v219, rfl, ho0, hb⟩; refine ⟨_, rfl, ?_⟩; have n0_ := q0 (Kd.R_elder' (ra qa.out) (Kd.R_base ho0) hb); have n1_ := q0 (Kd.R_elder' (ra qb.out) (Kd.R_base ho0) hb); have n2_ := q0 (Kd.R_elder' (ra qg.out) (Kd.R_base ho0) hb); have n3_ := q0 (Kd.R_elder' (ra qj.out) (Kd.R_base ho0) hb); have n4_ := q0 (Kd.R_elder' (ra ql.out) (Kd.R_base ho0) hb); have n5_ := q0 (Kd.R_elder' (ra qw.out) (Kd.R_base ho0) hb); have n6_ := q0 (Kd.R_lower (Kd.R_new' (Kd.R_new' (Kd.R_new' (Kd.R_new' (Kd.R_new' (Kd.R_new' ho0 (Kd.R_lt (ra qa.out))) (Kd.R_lt (ra qb.out))) (Kd.R_lt (ra qg.out))) (Kd.R_lt (ra qj.out))) (Kd.R_lt (ra ql.out))) (Kd.R_lt (ra qw.out))) (below_size (q3))); have n7_ := q0 (bb q1.out hb); have n8_ := q0 (bb q5.out hb); have n9_ := q0 (bb q7.out hb); have n10_ := q0 (bb q9.out hb); have n11_ := q0 (below_step (q3) hb); clear qa; clear qb; clear qg; clear qj; clear ql; clear qw; clear q1; clear q5; clear q7; clear q9; clear HB; have qa := n0_; have qb := n1_; have qg := n2_; have qj := n3_; have ql := n4_; have qw := n5_; have z06 := n6_; have q1 := n7_; have q5 := n8_; have q7 := n9_; have q9 := n10_; have HB := n11_; clear n0_ n1_ n2_ n3_ n4_ n5_ n6_ n7_ n8_ n9_ n10_ n11_; (try clear hb); (try clear hb2); (try clear hk); (try clear hi); (try clear ho0); obtain ⟨z0g, z0h, eo62⟩ := Kd.R_slice z06.out; subst eo62) | ((with_reducible refine gate_callee (f := 25) rfl ?_); refine goesL_ (some 45) rfl rfl Try.func25 (by kernel_rfl) rfl #[.slice z0a t204.length z09, .slice z0g t218.length z0h] rfl ma ?_; (with_reducible refine (laws_eqIntS.calls k _ _ t204 _ _ t218 true _ ?side1 ?side2 ?side3 ?side4 A20.out).mono ?_); (case side1 => exact ca (Kd.R_reads' qj.out).2.2); (case side2 => exact (Kd.R_reads' qj.out).2.1); (case side3 => exact ca (Kd.R_reads' z06.out).2.2); (case side4 => exact (Kd.R_reads' z06.out).2.1); rintro e w' ⟨rfl, ⟨nd, rfl⟩⟩; refine ⟨_, rfl, ?_⟩))
           (try (rw [drewN_self w61]; generalize hq_ : World.drewN w61 _ = w61; have n0_ : Aside0 (Kd.R (Kd.int .i64) 3 w61 w.heap.size (fun k_ => some k_ ≠ (v196 : Value).ownBlock ∧ some k_ ≠ (.slice qv t199.length qu : Value).ownBlock ∧ some k_ ≠ (.slice z0a t204.length z09 : Value).ownBlock ∧ some k_ ≠ (.slice qq t207.length qp : Value).ownBlock ∧ some k_ ≠ (.slice qs t212.length qr : Value).ownBlock ∧ some k_ ≠ (.slice z0g t218.length z0h : Value).ownBlock) v193 t192) := ⟨by rw [← hq_]; exact (by refine ra ?_; exact Kd.R_mono qa.out (fun _ hk => ⟨hk.1.1.1.1.1, ⟨hk.1.1.1.1.2, ⟨hk.1.1.1.2, ⟨hk.1.1.2, ⟨hk.1.2, hk.2⟩⟩⟩⟩⟩))⟩; have n1_ : Aside0 (Kd.R (Kd.int .i64) 3 w61 w.heap.size (fun k_ => some k_ ≠ (v193 : Value).ownBlock ∧ some k_ ≠ (.slice qv t199.length qu : Value).ownBlock ∧ some k_ ≠ (.slice z0a t204.length z09 : Value).ownBlock ∧ some k_ ≠ (.slice qq t207.length qp : Value).ownBlock ∧ some k_ ≠ (.slice qs t212.length qr : Value).ownBlock ∧ some k_ ≠ (.slice z0g t218.length z0h : Value).ownBlock) v196 t195) := ⟨by rw [← hq_]; exact (by refine ra ?_; exact Kd.R_mono qb.out (fun _ hk => ⟨hk.1.1.1.1.1, ⟨hk.1.1.1.1.2, ⟨hk.1.1.1.2, ⟨hk.1.1.2, ⟨hk.1.2, hk.2⟩⟩⟩⟩⟩))⟩; have n2_ : Aside0 (Kd.R (Kd.int .i64) 3 w61 w.heap.size (fun k_ => some k_ ≠ (v193 : Value).ownBlock ∧ some k_ ≠ (v196 : Value).ownBlock ∧ some k_ ≠ (.slice z0a t204.length z09 : Value).ownBlock ∧ some k_ ≠ (.slice qq t207.length qp : Value).ownBlock ∧ some k_ ≠ (.slice qs t212.length qr : Value).ownBlock ∧ some k_ ≠ (.slice z0g t218.length z0h : Value).ownBlock) (.slice qv t199.length qu) t199) := ⟨by rw [← hq_]; exact (by refine ra ?_; exact Kd.R_mono qg.out (fun _ hk => ⟨hk.1.1.1.1.1, ⟨hk.1.1.1.1.2, ⟨hk.1.1.1.2, ⟨hk.1.1.2, ⟨hk.1.2, hk.2⟩⟩⟩⟩⟩))⟩; have n3_ : Aside0 (Kd.R (Kd.int .i64) 3 w61 w.heap.size (fun k_ => some k_ ≠ (v193 : Value).ownBlock ∧ some k_ ≠ (v196 : Value).ownBlock ∧ some k_ ≠ (.slice qv t199.length qu : Value).ownBlock ∧ some k_ ≠ (.slice qq t207.length qp : Value).ownBlock ∧ some k_ ≠ (.slice qs t212.length qr : Value).ownBlock ∧ some k_ ≠ (.slice z0g t218.length z0h : Value).ownBlock) (.slice z0a t204.length z09) t204) := ⟨by rw [← hq_]; exact (by refine ra ?_; exact Kd.R_mono qj.out (fun _ hk => ⟨hk.1.1.1.1.1.2, ⟨hk.1.1.1.1.2, ⟨hk.1.1.1.2, ⟨hk.1.1.2, ⟨hk.1.2, hk.2⟩⟩⟩⟩⟩))⟩; have n4_ : Aside0 (Kd.R (Kd.int .i64) 3 w61 w.heap.size (fun k_ => some k_ ≠ (v193 : Value).ownBlock ∧ some k_ ≠ (v196 : Value).ownBlock ∧ some k_ ≠ (.slice qv t199.length qu : Value).ownBlock ∧ some k_ ≠ (.slice z0a t204.length z09 : Value).ownBlock ∧ some k_ ≠ (.slice qs t212.length qr : Value).ownBlock ∧ some k_ ≠ (.slice z0g t218.length z0h : Value).ownBlock) (.slice qq t207.length qp) t207) := ⟨by rw [← hq_]; exact (by refine ra ?_; exact Kd.R_mono ql.out (fun _ hk => ⟨hk.1.1.1.1.1.2, ⟨hk.1.1.1.1.2, ⟨hk.1.1.1.2, ⟨hk.1.1.2, ⟨hk.1.2, hk.2⟩⟩⟩⟩⟩))⟩; have n5_ : Aside0 (Kd.R (Kd.int .i64) 3 w61 w.heap.size (fun k_ => some k_ ≠ (v193 : Value).ownBlock ∧ some k_ ≠ (v196 : Value).ownBlock ∧ some k_ ≠ (.slice qv t199.length qu : Value).ownBlock ∧ some k_ ≠ (.slice z0a t204.length z09 : Value).ownBlock ∧ some k_ ≠ (.slice qq t207.length qp : Value).ownBlock ∧ some k_ ≠ (.slice z0g t218.length z0h : Value).ownBlock) (.slice qs t212.length qr) t212) := ⟨by rw [← hq_]; exact (by refine ra ?_; exact Kd.R_mono qw.out (fun _ hk => ⟨hk.1.1.1.1.1.2, ⟨hk.1.1.1.1.2, ⟨hk.1.1.1.2, ⟨hk.1.1.2, ⟨hk.1.2, hk.2⟩⟩⟩⟩⟩))⟩; have n6_ : Aside0 (Kd.R (Kd.int .i64) 3 w61 w.heap.size (fun k_ => some k_ ≠ (v193 : Value).ownBlock ∧ some k_ ≠ (v196 : Value).ownBlock ∧ some k_ ≠ (.slice qv t199.length qu : Value).ownBlock ∧ some k_ ≠ (.slice z0a t204.length z09 : Value).ownBlock ∧ some k_ ≠ (.slice qq t207.length qp : Value).ownBlock ∧ some k_ ≠ (.slice qs t212.length qr : Value).ownBlock) (.slice z0g t218.length z0h) t218) := ⟨by rw [← hq_]; exact (by refine ra ?_; exact Kd.R_mono z06.out (fun _ hk => ⟨hk.1.1.1.1.1.2, ⟨hk.1.1.1.1.2, ⟨hk.1.1.1.2, ⟨hk.1.1.2, ⟨hk.1.2, hk.2⟩⟩⟩⟩⟩))⟩; have n7_ : Aside0 (w61.heap[qf]? = some (.cells #[.slice A1_0 l1_0.length c1_0, .int .i64 a1_1] 31 (0, 0))) := ⟨by rw [← hq_]; exact (ba q1.out)⟩; have n8_ : Aside0 (w61.heap[qd]? = some (.cells #[.slice qv t199.length qu, .int .i64 t202] 35 (0, 0))) := ⟨by rw [← hq_]; exact (ba q5.out)⟩; have n9_ : Aside0 (w61.heap[qi]? = some (.cells #[.slice qq t207.length qp, .int .i64 t210] 35 (0, 0))) := ⟨by rw [← hq_]; exact (ba q7.out)⟩; have n10_ : Aside0 (w61.heap[qk]? = some (.cells #[.slice qs t212.length qr, .int .i64 t215] 35 (0, 0))) := ⟨by rw [← hq_]; exact (ba q9.out)⟩; have n11_ : Aside0 (Below w.heap.size w w61) := ⟨by rw [← hq_]; exact (q3)⟩; clear qa qb qg qj ql qw z06 q1 q5 q7 q9 HB hq_; have qa := n0_; have qb := n1_; have qg := n2_; have qj := n3_; have ql := n4_; have qw := n5_; have z06 := n6_; have q1 := n7_; have q5 := n8_; have q7 := n9_; have q9 := n10_; have HB := n11_; clear n0_ n1_ n2_ n3_ n4_ n5_ n6_ n7_ n8_ n9_ n10_ n11_))
           have n0_ := q0 (Kd.R_drew qa.out); have n1_ := q0 (Kd.R_drew qb.out); have n2_ := q0 (Kd.R_drew qg.out); have n3_ := q0 (Kd.R_drew qj.out); have n4_ := q0 (Kd.R_drew ql.out); have n5_ := q0 (Kd.R_drew qw.out); have n6_ := q0 (Kd.R_drew z06.out); have n7_ := q0 (blk_drew q1.out); have n8_ := q0 (blk_drew q5.out); have n9_ := q0 (blk_drew q7.out); have n10_ := q0 (blk_drew q9.out); have n11_ := q0 (below_drew1 HB.out); clear qa qb qg qj ql qw z06 q1 q5 q7 q9 HB; have qa := n0_; have qb := n1_; have qg := n2_; have qj := n3_; have ql := n4_; have qw := n5_; have z06 := n6_; have q1 := n7_; have q5 := n8_; have q7 := n9_; have q9 := n10_; have HB := n11_; clear n0_ n1_ n2_ n3_ n4_ n5_ n6_ n7_ n8_ n9_ n10_ n11_
           refine start_ (n := 5) (S := fun w' => w'.cell? ⟨qi, 0, none⟩ = some (.slice qq t207.length qp) ∧ w'.cell? ⟨qi, 1, none⟩ = some (.int .i64 t210) ∧ w'.cell? ⟨qf, 0, none⟩ = some (.slice A1_0 l1_0.length c1_0) ∧ w'.cell? ⟨qf, 1, none⟩ = some (.int .i64 a1_1)) (ds := []) #[false, false, false, false, false] (by kernel_rfl) rfl rfl ⟨(blk_cell q7.out 0).trans rfl, (blk_cell q7.out 1).trans rfl, (blk_cell q1.out 0).trans rfl, (blk_cell q1.out 1).trans rfl⟩ (fun hHeld => ?_)
           generalize w61.drew = w63 at qa qb qg qj ql qw z06 q1 q5 q7 q9 HB hHeld ⊢
           refine take_ (i := 0) (N := some 47) (v := ?_) (a' := ?_) #[true, false, false, false, false] rfl rfl (by kernel_rfl) (fun _ _ _ h => h) (Or.inl ⟨by rfl, ?_⟩) hHeld ?_ ?_
           rotate_left
           · rintro w' ⟨s0, s1, s2, s3⟩
             go_simp
             with_reducible rfl
           rotate_left
           · simp only [Act.put, List.setIfInBounds_toArray, List.set_cons_zero, List.set_cons_succ, i64_w, i32_w]
             rfl
           refine take_ (i := 1) (N := some 48) (v := ?_) (a' := ?_) #[true, true, false, false, false] rfl rfl (by kernel_rfl) (fun _ _ _ h => h) (Or.inl ⟨by rfl, ?_⟩) hHeld ?_ ?_
           rotate_left
           · rintro w' ⟨s0, s1, s2, s3⟩
             go_simp
             with_reducible rfl
           rotate_left
           · simp only [Act.put, List.setIfInBounds_toArray, List.set_cons_zero, List.set_cons_succ, i64_w, i32_w]
             rfl
           refine one_ (i := 2) (N := some 49) #[true, true, true, false, false] rfl rfl (by kernel_rfl) (by decide) (fun K hK => ?_)
           refine goes_ Try.func23 (by kernel_rfl) rfl #[.agg #[.slice A1_0 l1_0.length c1_0, .int .i64 a1_1]] (by rfl) rfl rfl ma ?_
           with_reducible refine (laws_toFollower.calls k _ _ l1_0 a1_1 t222 t225 _ ?side1 ?side2 A22.out).mono ?_
           (case side1 => exact ca (Kd.C_below HR1_0.out HB.out))
           (case side2 => exact HC1_0.out)
           rintro e w64 ⟨v223, rfl, ho0, hb⟩
           refine ⟨_, rfl, ?_⟩
           have n0_ := q0 (Kd.R_elder' (ra qa.out) (Kd.R_base ho0) hb); have n1_ := q0 (Kd.R_elder' (ra qb.out) (Kd.R_base ho0) hb); have n2_ := q0 (Kd.R_elder' (ra qg.out) (Kd.R_base ho0) hb); have n3_ := q0 (Kd.R_elder' (ra qj.out) (Kd.R_base ho0) hb); have n4_ := q0 (Kd.R_elder' (ra ql.out) (Kd.R_base ho0) hb); have n5_ := q0 (Kd.R_elder' (ra qw.out) (Kd.R_base ho0) hb); have n6_ := q0 (Kd.R_elder' (ra z06.out) (Kd.R_base ho0) hb); have n7_ := q0 (Kd.R_lower (Kd.R_new' (Kd.R_new' (Kd.R_new' (Kd.R_new' (Kd.R_new' (Kd.R_new' (Kd.R_new' ho0 (Kd.R_lt (ra qa.out))) (Kd.R_lt (ra qb.out))) (Kd.R_lt (ra qg.out))) (Kd.R_lt (ra qj.out))) (Kd.R_lt (ra ql.out))) (Kd.R_lt (ra qw.out))) (Kd.R_lt (ra z06.out))) (below_size (q3))); have n8_ := q0 (bb q1.out hb); have n9_ := q0 (bb q5.out hb); have n10_ := q0 (bb q7.out hb); have n11_ := q0 (bb q9.out hb); have n12_ := q0 (below_step (q3) hb); clear qa qb qg qj ql qw z06 q1 q5 q7 q9 HB; have qa := n0_; have qb := n1_; have qg := n2_; have qj := n3_; have ql := n4_; have qw := n5_; have z06 := n6_; have z0b := n7_; have q1 := n8_; have q5 := n9_; have q7 := n10_; have q9 := n11_; have HB := n12_; clear n0_ n1_ n2_ n3_ n4_ n5_ n6_ n7_ n8_ n9_ n10_ n11_ n12_; (try clear hb); (try clear hb2); (try clear hk); (try clear hi); (try clear ho0)
           obtain ⟨z0r, z0s, eo65⟩ := Kd.R_slice z0b.out
           (first | subst eo65 | (injection eo65 with f1_ f2_ f3_; have f4_ := f1_.symm; have f5_ := f3_.symm; clear f1_ f2_ f3_; subst f4_; subst f5_))
           refine hK.out _ _ ⟨(blk_cell q7.out 0).trans rfl, (blk_cell q7.out 1).trans rfl, (blk_cell q1.out 0).trans rfl, (blk_cell q1.out 1).trans rfl⟩ (fun hHeld => ?_)
           clear hK K
           refine norm_ (a' := ?_) ?_ ?_
           rotate_left
           · show Act.put _ (some 49) _ = _
             simp only [Act.put, List.setIfInBounds_toArray, List.set_cons_zero, List.set_cons_succ, i64_w, i32_w]
             rfl
           refine one_ (i := 3) (N := some 50) #[true, true, true, true, false] rfl rfl (by kernel_rfl) (by decide) (fun K hK => ?_)
           refine goes_ Try.func26 (by kernel_rfl) rfl #[.agg #[.slice qq t207.length qp, .int .i64 t210], .agg #[.slice z0r t222.length z0s, .int .i64 t225]] (by rfl) rfl rfl ma ?_
           with_reducible refine (laws_eqFollower.calls k _ _ t207 t210 _ _ t222 t225 true _ ?side1 ?side2 ?side3 ?side4 A23.out).mono ?_
           (case side1 => exact ca (Kd.R_reads' ql.out).2.2)
           (case side2 => exact (Kd.R_reads' ql.out).2.1)
           (case side3 => exact ca (Kd.R_reads' z0b.out).2.2)
           (case side4 => exact (Kd.R_reads' z0b.out).2.1)
           rintro e w66 ⟨rfl, hb⟩
           refine ⟨_, rfl, ?_⟩
           have n0_ := q0 (Kd.R_below (ra qa.out) hb); have n1_ := q0 (Kd.R_below (ra qb.out) hb); have n2_ := q0 (Kd.R_below (ra qg.out) hb); have n3_ := q0 (Kd.R_below (ra qj.out) hb); have n4_ := q0 (Kd.R_below (ra ql.out) hb); have n5_ := q0 (Kd.R_below (ra qw.out) hb); have n6_ := q0 (Kd.R_below (ra z06.out) hb); have n7_ := q0 (Kd.R_below (ra z0b.out) hb); have n8_ := q0 (bb q1.out hb); have n9_ := q0 (bb q5.out hb); have n10_ := q0 (bb q7.out hb); have n11_ := q0 (bb q9.out hb); have n12_ := q0 (below_step (q3) hb); clear qa qb qg qj ql qw z06 z0b q1 q5 q7 q9 HB; have qa := n0_; have qb := n1_; have qg := n2_; have qj := n3_; have ql := n4_; have qw := n5_; have z06 := n6_; have z0b := n7_; have q1 := n8_; have q5 := n9_; have q7 := n10_; have q9 := n11_; have HB := n12_; clear n0_ n1_ n2_ n3_ n4_ n5_ n6_ n7_ n8_ n9_ n10_ n11_ n12_; (try clear hb); (try clear hb2); (try clear hk); (try clear hi)
           refine hK.out _ _ ⟨(blk_cell q7.out 0).trans rfl, (blk_cell q7.out 1).trans rfl, (blk_cell q1.out 0).trans rfl, (blk_cell q1.out 1).trans rfl⟩ (fun hHeld => ?_)
           clear hK K
           refine norm_ (a' := ?_) ?_ ?_
           rotate_left
           · show Act.put _ (some 50) _ = _
             simp only [Act.put, List.setIfInBounds_toArray, List.set_cons_zero, List.set_cons_succ, i64_w, i32_w]
             rfl
           refine pure_ (i := 4) (N := some 51) (v := ?_) (a' := ?_) #[true, true, true, true, true] rfl rfl (by kernel_rfl) (fun _ _ _ h => h) (Or.inl ⟨by rfl, ?_⟩) ?_ ?_
           rotate_left
           · intro w'
             go_simp
             with_reducible rfl
           rotate_left
           · simp only [Act.put, List.setIfInBounds_toArray, List.set_cons_zero, List.set_cons_succ, i64_w, i32_w]
             rfl
           refine done_ (by kernel_rfl) ?_
           go_upto_region 20 with (first | ((with_reducible refine gate_callee (f := 29) rfl ?_); refine goesL_ (some 54) rfl rfl Try.func29 (by kernel_rfl) rfl #[.slice z0a t204.length z09, .int .i64 1] rfl ma ?_; (with_reducible refine (laws_markIntS.calls k (fun k_ => some k_ = (.slice z0a t204.length z09 : Value).ownBlock) (.slice z0a t204.length z09) t204 1 t227 t228 w _ ?side1 ?side2 A25.out).mono ?_); (case side1 => exact (q3)); (case side2 => exact Kd.R_tight rfl qj.out); rintro e w67 ⟨rfl, hy0, hb, hkp⟩; refine ⟨_, rfl, ?_⟩; have n0_ := q0 (blk_kept (ba q1.out) hkp (fun hs_ => (fun e_ => (Kd.R_ne qj.out q1.out (by decide)) e_) hs_)); have n1_ := q0 (Kd.R_mono (ok' := fun k_ => some k_ ≠ (v196 : Value).ownBlock ∧ some k_ ≠ (.slice qv t199.length qu : Value).ownBlock ∧ some k_ ≠ (.slice z0a t204.length z09 : Value).ownBlock ∧ some k_ ≠ (.slice qq t207.length qp : Value).ownBlock ∧ some k_ ≠ (.slice qs t212.length qr : Value).ownBlock ∧ some k_ ≠ (.slice z0g t218.length z0h : Value).ownBlock ∧ some k_ ≠ (.slice z0r t222.length z0s : Value).ownBlock) (Kd.R_keptB (qa.out) hkp (fun k_ hk_ hs_ => absurd hs_ (pq hk_))) pk); have n2_ := q0 (Kd.R_mono (ok' := fun k_ => some k_ ≠ (v193 : Value).ownBlock ∧ some k_ ≠ (.slice qv t199.length qu : Value).ownBlock ∧ some k_ ≠ (.slice z0a t204.length z09 : Value).ownBlock ∧ some k_ ≠ (.slice qq t207.length qp : Value).ownBlock ∧ some k_ ≠ (.slice qs t212.length qr : Value).ownBlock ∧ some k_ ≠ (.slice z0g t218.length z0h : Value).ownBlock ∧ some k_ ≠ (.slice z0r t222.length z0s : Value).ownBlock) (Kd.R_keptB (qb.out) hkp (fun k_ hk_ hs_ => absurd hs_ (pq hk_))) pk); have n3_ := q0 (Kd.R_mono (ok' := fun k_ => some k_ ≠ (v193 : Value).ownBlock ∧ some k_ ≠ (v196 : Value).ownBlock ∧ some k_ ≠ (.slice z0a t204.length z09 : Value).ownBlock ∧ some k_ ≠ (.slice qq t207.length qp : Value).ownBlock ∧ some k_ ≠ (.slice qs t212.length qr : Value).ownBlock ∧ some k_ ≠ (.slice z0g t218.length z0h : Value).ownBlock ∧ some k_ ≠ (.slice z0r t222.length z0s : Value).ownBlock) (Kd.R_keptB (qg.out) hkp (fun k_ hk_ hs_ => absurd hs_ (pq hk_))) pk); have n4_ := q0 (blk_kept (ba q5.out) hkp (fun hs_ => (fun e_ => (Kd.R_ne qj.out q5.out (by decide)) e_) hs_)); have n5_ := q0 (Kd.R_reok rfl hy0 (fun k_ e_ => qj.out.1 k_ e_)); have n6_ := q0 (Kd.R_mono (ok' := fun k_ => some k_ ≠ (v193 : Value).ownBlock ∧ some k_ ≠ (v196 : Value).ownBlock ∧ some k_ ≠ (.slice qv t199.length qu : Value).ownBlock ∧ some k_ ≠ (.slice z0a t204.length z09 : Value).ownBlock ∧ some k_ ≠ (.slice qs t212.length qr : Value).ownBlock ∧ some k_ ≠ (.slice z0g t218.length z0h : Value).ownBlock ∧ some k_ ≠ (.slice z0r t222.length z0s : Value).ownBlock) (Kd.R_keptB (ql.out) hkp (fun k_ hk_ hs_ => absurd hs_ (pq hk_))) pk); have n7_ := q0 (blk_kept (ba q7.out) hkp (fun hs_ => (fun e_ => (Kd.R_ne qj.out q7.out (by decide)) e_) hs_)); have n8_ := q0 (Kd.R_mono (ok' := fun k_ => some k_ ≠ (v193 : Value).ownBlock ∧ some k_ ≠ (v196 : Value).ownBlock ∧ some k_ ≠ (.slice qv t199.length qu : Value).ownBlock ∧ some k_ ≠ (.slice z0a t204.length z09 : Value).ownBlock ∧ some k_ ≠ (.slice qq t207.length qp : Value).ownBlock ∧ some k_ ≠ (.slice z0g t218.length z0h : Value).ownBlock ∧ some k_ ≠ (.slice z0r t222.length z0s : Value).ownBlock) (Kd.R_keptB (qw.out) hkp (fun k_ hk_ hs_ => absurd hs_ (pq hk_))) pk); have n9_ := q0 (blk_kept (ba q9.out) hkp (fun hs_ => (fun e_ => (Kd.R_ne qj.out q9.out (by decide)) e_) hs_)); have n10_ := q0 (Kd.R_mono (ok' := fun k_ => some k_ ≠ (v193 : Value).ownBlock ∧ some k_ ≠ (v196 : Value).ownBlock ∧ some k_ ≠ (.slice qv t199.length qu : Value).ownBlock ∧ some k_ ≠ (.slice z0a t204.length z09 : Value).ownBlock ∧ some k_ ≠ (.slice qq t207.length qp : Value).ownBlock ∧ some k_ ≠ (.slice qs t212.length qr : Value).ownBlock ∧ some k_ ≠ (.slice z0r t222.length z0s : Value).ownBlock) (Kd.R_keptB (z06.out) hkp (fun k_ hk_ hs_ => absurd hs_ (pq hk_))) pk); have n11_ := q0 (Kd.R_mono (ok' := fun k_ => some k_ ≠ (v193 : Value).ownBlock ∧ some k_ ≠ (v196 : Value).ownBlock ∧ some k_ ≠ (.slice qv t199.length qu : Value).ownBlock ∧ some k_ ≠ (.slice z0a t204.length z09 : Value).ownBlock ∧ some k_ ≠ (.slice qq t207.length qp : Value).ownBlock ∧ some k_ ≠ (.slice qs t212.length qr : Value).ownBlock ∧ some k_ ≠ (.slice z0g t218.length z0h : Value).ownBlock) (Kd.R_keptB (z0b.out) hkp (fun k_ hk_ hs_ => absurd hs_ (pq hk_))) pk); have n12_ := q0 (hb); clear q1; clear qa; clear qb; clear qg; clear q5; clear qj; clear ql; clear q7; clear qw; clear q9; clear z06; clear z0b; clear HB; have q1 := n0_; have qa := n1_; have qb := n2_; have qg := n3_; have q5 := n4_; have qj := n5_; have ql := n6_; have q7 := n7_; have qw := n8_; have q9 := n9_; have z06 := n10_; have z0b := n11_; have HB := n12_; clear n0_ n1_ n2_ n3_ n4_ n5_ n6_ n7_ n8_ n9_ n10_ n11_ n12_; (try clear hb); (try clear hkp); (try clear hy0); have hcz68_0 : w67.cell? ⟨qi, 0, none⟩ = some (.slice qq t207.length qp) := (blk_cell q7.out 0).trans rfl; have hcz68_1 : w67.cell? ⟨qi, 1, none⟩ = some (.int .i64 t210) := (blk_cell q7.out 1).trans rfl; have hfz68_0 := blk_frozen q7.out 0; have hfz68_1 := blk_frozen q7.out 1) | ((with_reducible refine gate_callee (f := 30) rfl ?_); refine goesL_ (some 57) rfl rfl Try.func30 (by kernel_rfl) rfl #[.agg #[.slice qq t207.length qp, .int .i64 t210], .int .i64 t227] rfl ma ?_; (with_reducible refine (laws_markFollower.calls k (fun k_ => some k_ = (.slice qq t207.length qp : Value).ownBlock) (.slice qq t207.length qp) t207 t210 t227 t229 t230 w _ ?side1 ?side2 A26.out).mono ?_); (case side1 => exact (q3)); (case side2 => exact Kd.R_tight rfl ql.out); rintro e w69 ⟨rfl, hy0, hb, hkp⟩; refine ⟨_, rfl, ?_⟩; have n0_ := q0 (blk_kept (ba q1.out) hkp (fun hs_ => (fun e_ => (Kd.R_ne ql.out q1.out (by decide)) e_) hs_)); have n1_ := q0 (Kd.R_mono (ok' := fun k_ => some k_ ≠ (v196 : Value).ownBlock ∧ some k_ ≠ (.slice qv t199.length qu : Value).ownBlock ∧ some k_ ≠ (.slice z0a t204.length z09 : Value).ownBlock ∧ some k_ ≠ (.slice qq t207.length qp : Value).ownBlock ∧ some k_ ≠ (.slice qs t212.length qr : Value).ownBlock ∧ some k_ ≠ (.slice z0g t218.length z0h : Value).ownBlock ∧ some k_ ≠ (.slice z0r t222.length z0s : Value).ownBlock) (Kd.R_keptB (qa.out) hkp (fun k_ hk_ hs_ => absurd hs_ (pq hk_))) pk); have n2_ := q0 (Kd.R_mono (ok' := fun k_ => some k_ ≠ (v193 : Value).ownBlock ∧ some k_ ≠ (.slice qv t199.length qu : Value).ownBlock ∧ some k_ ≠ (.slice z0a t204.length z09 : Value).ownBlock ∧ some k_ ≠ (.slice qq t207.length qp : Value).ownBlock ∧ some k_ ≠ (.slice qs t212.length qr : Value).ownBlock ∧ some k_ ≠ (.slice z0g t218.length z0h : Value).ownBlock ∧ some k_ ≠ (.slice z0r t222.length z0s : Value).ownBlock) (Kd.R_keptB (qb.out) hkp (fun k_ hk_ hs_ => absurd hs_ (pq hk_))) pk); have n3_ := q0 (Kd.R_mono (ok' := fun k_ => some k_ ≠ (v193 : Value).ownBlock ∧ some k_ ≠ (v196 : Value).ownBlock ∧ some k_ ≠ (.slice z0a t204.length z09 : Value).ownBlock ∧ some k_ ≠ (.slice qq t207.length qp : Value).ownBlock ∧ some k_ ≠ (.slice qs t212.length qr : Value).ownBlock ∧ some k_ ≠ (.slice z0g t218.length z0h : Value).ownBlock ∧ some k_ ≠ (.slice z0r t222.length z0s : Value).ownBlock) (Kd.R_keptB (qg.out) hkp (fun k_ hk_ hs_ => absurd hs_ (pq hk_))) pk); have n4_ := q0 (blk_kept (ba q5.out) hkp (fun hs_ => (fun e_ => (Kd.R_ne ql.out q5.out (by decide)) e_) hs_)); have n5_ := q0 (Kd.R_mono (ok' := fun k_ => some k_ ≠ (v193 : Value).ownBlock ∧ some k_ ≠ (v196 : Value).ownBlock ∧ some k_ ≠ (.slice qv t199.length qu : Value).ownBlock ∧ some k_ ≠ (.slice qq t207.length qp : Value).ownBlock ∧ some k_ ≠ (.slice qs t212.length qr : Value).ownBlock ∧ some k_ ≠ (.slice z0g t218.length z0h : Value).ownBlock ∧ some k_ ≠ (.slice z0r t222.length z0s : Value).ownBlock) (Kd.R_keptB (qj.out) hkp (fun k_ hk_ hs_ => absurd hs_ (pq hk_))) pk); have n6_ := q0 (Kd.R_reok rfl hy0 (fun k_ e_ => ql.out.1 k_ e_)); have n7_ := q0 (blk_kept (ba q7.out) hkp (fun hs_ => (fun e_ => (Kd.R_ne ql.out q7.out (by decide)) e_) hs_)); have n8_ := q0 (Kd.R_mono (ok' := fun k_ => some k_ ≠ (v193 : Value).ownBlock ∧ some k_ ≠ (v196 : Value).ownBlock ∧ some k_ ≠ (.slice qv t199.length qu : Value).ownBlock ∧ some k_ ≠ (.slice z0a t204.length z09 : Value).ownBlock ∧ some k_ ≠ (.slice qq t207.length qp : Value).ownBlock ∧ some k_ ≠ (.slice z0g t218.length z0h : Value).ownBlock ∧ some k_ ≠ (.slice z0r t222.length z0s : Value).ownBlock) (Kd.R_keptB (qw.out) hkp (fun k_ hk_ hs_ => absurd hs_ (pq hk_))) pk); have n9_ := q0 (blk_kept (ba q9.out) hkp (fun hs_ => (fun e_ => (Kd.R_ne ql.out q9.out (by decide)) e_) hs_)); have n10_ := q0 (Kd.R_mono (ok' := fun k_ => some k_ ≠ (v193 : Value).ownBlock ∧ some k_ ≠ (v196 : Value).ownBlock ∧ some k_ ≠ (.slice qv t199.length qu : Value).ownBlock ∧ some k_ ≠ (.slice z0a t204.length z09 : Value).ownBlock ∧ some k_ ≠ (.slice qq t207.length qp : Value).ownBlock ∧ some k_ ≠ (.slice qs t212.length qr : Value).ownBlock ∧ some k_ ≠ (.slice z0r t222.length z0s : Value).ownBlock) (Kd.R_keptB (z06.out) hkp (fun k_ hk_ hs_ => absurd hs_ (pq hk_))) pk); have n11_ := q0 (Kd.R_mono (ok' := fun k_ => some k_ ≠ (v193 : Value).ownBlock ∧ some k_ ≠ (v196 : Value).ownBlock ∧ some k_ ≠ (.slice qv t199.length qu : Value).ownBlock ∧ some k_ ≠ (.slice z0a t204.length z09 : Value).ownBlock ∧ some k_ ≠ (.slice qq t207.length qp : Value).ownBlock ∧ some k_ ≠ (.slice qs t212.length qr : Value).ownBlock ∧ some k_ ≠ (.slice z0g t218.length z0h : Value).ownBlock) (Kd.R_keptB (z0b.out) hkp (fun k_ hk_ hs_ => absurd hs_ (pq hk_))) pk); have n12_ := q0 (hb); clear q1; clear qa; clear qb; clear qg; clear q5; clear qj; clear ql; clear q7; clear qw; clear q9; clear z06; clear z0b; clear HB; have q1 := n0_; have qa := n1_; have qb := n2_; have qg := n3_; have q5 := n4_; have qj := n5_; have ql := n6_; have q7 := n7_; have qw := n8_; have q9 := n9_; have z06 := n10_; have z0b := n11_; have HB := n12_; clear n0_ n1_ n2_ n3_ n4_ n5_ n6_ n7_ n8_ n9_ n10_ n11_ n12_; (try clear hb); (try clear hkp); (try clear hy0)))
           (try simp only [Act.put, List.setIfInBounds_toArray, List.set_cons_zero, List.set_cons_succ])
           go_cut [65] (fun v65 wc => ∃ (kq : Nat) (x65_26 : Bool), v65 = .bool x65_26 ∧ Aside0 (laws_FnExactStepFollower.j0 kq l0 a2 x65_26 l1_0 a1_1 t199 t202 t212 t215 = some true) ∧ Aside0 (kq ≤ k) ∧ Aside0 (Kd.R (Kd.int .i64) 3 wc w.heap.size (fun k_ => some k_ ≠ ((.slice qq t207.length qp) : Value).ownBlock ∧ some k_ ≠ ((.slice qs t212.length qr) : Value).ownBlock) (.slice qv t199.length qu) t199) ∧ Aside0 (Kd.R (Kd.int .i64) 3 wc w.heap.size (fun k_ => some k_ ≠ ((.slice qv t199.length qu) : Value).ownBlock ∧ some k_ ≠ ((.slice qs t212.length qr) : Value).ownBlock) (.slice qq t207.length qp) t230) ∧ Aside0 (Kd.R (Kd.int .i64) 3 wc w.heap.size (fun k_ => some k_ ≠ ((.slice qv t199.length qu) : Value).ownBlock ∧ some k_ ≠ ((.slice qq t207.length qp) : Value).ownBlock) (.slice qs t212.length qr) t212) ∧ Aside0 (wc.heap[qf]? = some (.cells #[(.slice A1_0 l1_0.length c1_0), .int .i64 a1_1] 31 (0, 0))) ∧ Aside0 (wc.heap[qd]? = some (.cells #[(.slice qv t199.length qu), .int .i64 t202] 35 (0, 0))) ∧ Aside0 (wc.heap[qi]? = some (.cells #[(.slice qq t207.length qp), .int .i64 t210] 35 (0, 0))) ∧ Aside0 (wc.heap[qk]? = some (.cells #[(.slice qs t212.length qr), .int .i64 t215] 35 (0, 0))) ∧ Aside0 (Below w.heap.size w wc))
           case first =>
            have H := HC27.out
            clear HC27
            by_cases c70 : t229 < 0
            · rw [if_pos c70] at H
              have c70b0 : decide (t229 < 0) = true := decide_eq_true c70
              clear c70
              (first | rw [c70b0] | (simp only [i64_w, i32_w]; rw [c70b0]) | skip)
              exact absurd H (by cases k <;> simp [laws_FnExactStepFollower.j0])
            · rw [if_neg c70] at H
              have c70b0 : decide (t229 < 0) = false := decide_eq_false c70
              clear c70
              (first | rw [c70b0] | (simp only [i64_w, i32_w]; rw [c70b0]) | skip)
              replace H := Option.bind_eq_some_iff.mp H
              obtain ⟨t231, A710, H⟩ := H
              try dsimp only at H
              have A71 := q0 A710
              clear A710
              have H' := q0 H
              clear H
              have hnb72 := z0o.out
              have hnc72 := z0d.out
              have hnb73 := z0p.out
              have hnc73 := z0e.out
              have hnb74 := z0q.out
              have hnc74 := z0f.out
              have hcz75_0 : w69.cell? ⟨qk, 0, none⟩ = some (.slice qs t212.length qr) := (blk_cell q9.out 0).trans rfl
              have hcz75_1 : w69.cell? ⟨qk, 1, none⟩ = some (.int .i64 t215) := (blk_cell q9.out 1).trans rfl
              have hfz75_0 := blk_frozen q9.out 0
              have hfz75_1 := blk_frozen q9.out 1
              have hnb76 := qy.out
              have hnc76 := qo.out
              have hnb77 := z0c.out
              have hnc77 := z0n.out
              have hcz78_0 : w69.cell? ⟨qd, 0, none⟩ = some (.slice qv t199.length qu) := (blk_cell q5.out 0).trans rfl
              have hcz78_1 : w69.cell? ⟨qd, 1, none⟩ = some (.int .i64 t202) := (blk_cell q5.out 1).trans rfl
              have hfz78_0 := blk_frozen q5.out 0
              have hfz78_1 := blk_frozen q5.out 1
              go_wp2_with (first | (go_at_call 26; (with_reducible refine (laws_eqFollower.calls k _ _ t212 t215 _ _ t199 t202 t231 _ ?side1 ?side2 ?side3 ?side4 A71.out).mono ?_); (case side1 => exact ca (Kd.R_reads' qw.out).2.2); (case side2 => exact (Kd.R_reads' qw.out).2.1); (case side3 => exact ca (Kd.R_reads' qg.out).2.2); (case side4 => exact (Kd.R_reads' qg.out).2.1); rintro e w79 ⟨rfl, hb⟩; have n0_ := q0 (Kd.R_below (ra qa.out) hb); have n1_ := q0 (Kd.R_below (ra qb.out) hb); have n2_ := q0 (Kd.R_below (ra qg.out) hb); have n3_ := q0 (Kd.R_below (ra qj.out) hb); have n4_ := q0 (Kd.R_below (ra ql.out) hb); have n5_ := q0 (Kd.R_below (ra qw.out) hb); have n6_ := q0 (Kd.R_below (ra z06.out) hb); have n7_ := q0 (Kd.R_below (ra z0b.out) hb); have n8_ := q0 (bb q1.out hb); have n9_ := q0 (bb q5.out hb); have n10_ := q0 (bb q7.out hb); have n11_ := q0 (bb q9.out hb); have n12_ := q0 (below_step (q3) hb); clear qa; clear qb; clear qg; clear qj; clear ql; clear qw; clear z06; clear z0b; clear q1; clear q5; clear q7; clear q9; clear HB; have qa := n0_; have qb := n1_; have qg := n2_; have qj := n3_; have ql := n4_; have qw := n5_; have z06 := n6_; have z0b := n7_; have q1 := n8_; have q5 := n9_; have q7 := n10_; have q9 := n11_; have HB := n12_; clear n0_ n1_ n2_ n3_ n4_ n5_ n6_ n7_ n8_ n9_ n10_ n11_ n12_; (try clear hb); (try clear hb2); (try clear hk); (try clear hi)))
              go_meet
              case rel => exact ⟨_, (!t231), (by first | rfl | (simp; done) | (simp [*]; done)), H', ⟨by first | omega | exact Nat.le_refl _⟩, ⟨by refine ra ?_; exact Kd.R_mono qg.out (fun _ hk => ⟨hk.2.2.2.1, hk.2.2.2.2.1⟩)⟩, ⟨by refine ra ?_; exact Kd.R_mono ql.out (fun _ hk => ⟨hk.2.2.1, hk.2.2.2.2.1⟩)⟩, ⟨by refine ra ?_; exact Kd.R_mono qw.out (fun _ hk => ⟨hk.2.2.1, hk.2.2.2.2.1⟩)⟩, ⟨by refine ba ?_; exact q1.out⟩, ⟨by refine ba ?_; exact q5.out⟩, ⟨by refine ba ?_; exact q7.out⟩, ⟨by refine ba ?_; exact q9.out⟩, ⟨by exact (q3)⟩⟩
           case rest =>
            clear HC27
            try clear c1
            try clear c2
            try clear p2
            try clear c3
            try clear c4
            try clear c5
            try clear c7
            try clear c22
            try clear c23
            try clear c25
            try clear c26
            try clear c27
            try clear c28
            try clear c29
            try clear c30
            try clear c43
            try clear c48
            try clear c49
            try clear c55
            try clear c56
            try clear c57
            try clear c70
            try clear c70b0
            try clear c72
            try clear c73
            try clear c74
            try clear c76
            try clear c77
            try clear hcz44_0
            try clear hcz44_1
            try clear hcz50_0
            try clear hcz50_1
            try clear hcz58_0
            try clear hcz58_1
            try clear hcz59_0
            try clear hcz59_1
            try clear hcz68_0
            try clear hcz68_1
            try clear hcz75_0
            try clear hcz75_1
            try clear hcz78_0
            try clear hcz78_1
            try clear hfz44_0
            try clear hfz44_1
            try clear hfz50_0
            try clear hfz50_1
            try clear hfz58_0
            try clear hfz58_1
            try clear hfz59_0
            try clear hfz59_1
            try clear hfz68_0
            try clear hfz68_1
            try clear hfz75_0
            try clear hfz75_1
            try clear hfz78_0
            try clear hfz78_1
            obtain ⟨kq, x65_26, rfl, HA, HJ26, q4, q6, q2, q1, q5, q7, q9, HB⟩ := hcut
            have hl212000_26 := (Kd.R_reads' q6.out).1
            rw [hl212000_26] at q6
            (try simp only [hl212000_26])
            (try simp only [hl212000_26] at q1)
            (try simp only [hl212000_26] at q5)
            (try simp only [hl212000_26] at q7)
            (try simp only [hl212000_26] at q9)
            (try simp only [hl212000_26] at q4)
            (try simp only [hl212000_26] at q2)
            cases kq with
            | zero => exact absurd HA.out (by simp [laws_FnExactStepFollower.j0])
            | succ kj26 =>
             have H := HA.out
             clear HA
             simp only [laws_FnExactStepFollower.j0] at H
             by_cases c80 : x65_26 = true
             · subst c80
               have H1 := H; rw [if_pos rfl] at H1
               clear H
               have H := H1
               clear H1
               exact absurd H (by simp)
             · replace c80 := Bool.eq_false_iff.mpr c80
               subst c80
               have H1 : ((laws_markFollower.f kj26 t212 t215 1).bind fun bt232 => ((laws_heldFollower.f kj26 bt232.2 t215 1).bind fun t234 => (if t234 < 0 then (some false) else (if t234 = bt232.1 then ((laws_toIntS.f kj26 l0).bind fun t235 => ((laws_toFollower.f kj26 l1_0 a1_1).bind fun bt238 => ((impl_StepFollower.f kj26 t235 bt238.1 bt238.2 a2).bind fun bt242 => ((laws_eqFollower.f kj26 bt242.1 bt242.2 t199 t202).bind fun t247 => (if t247 = true then ((laws_heldFollower.f kj26 bt232.2 t215 1).bind fun t248 => (if t248 < 0 then (some false) else (if t248 = bt232.1 then (some true) else (some false)))) else (some false)))))) else (some false))))) = some true := by rw [if_neg (show ¬ (false = true) by decide)] at H; exact H
               clear H
               have H := H1
               clear H1
               replace H := Option.bind_eq_some_iff.mp H
               obtain ⟨⟨t232, t233⟩, A810, H⟩ := H
               try dsimp only at H
               have A81 := q0 A810
               clear A810
               replace H := Option.bind_eq_some_iff.mp H
               obtain ⟨t234, A820, H⟩ := H
               try dsimp only at H
               have A82 := q0 A820
               clear A820
               by_cases c83 : t234 < 0
               · rw [if_pos c83] at H
                 have c83b0 : decide (t234 < 0) = true := decide_eq_true c83
                 clear c83
                 exact absurd H (by simp)
               · rw [if_neg c83] at H
                 have c83b0 : decide (t234 < 0) = false := decide_eq_false c83
                 clear c83
                 by_cases c91 : t234 = t232
                 · rw [if_pos c91] at H
                   have c91b0 : (t234 == t232) = true := beq_iff_eq.mpr c91
                   have c91b1 : (t234 != t232) = false := bne_eq_false_iff_eq.mpr c91
                   clear c91
                   replace H := Option.bind_eq_some_iff.mp H
                   obtain ⟨t235, A920, H⟩ := H
                   try dsimp only at H
                   have A92 := q0 A920
                   clear A920
                   replace H := Option.bind_eq_some_iff.mp H
                   obtain ⟨⟨t238, t241⟩, A930, H⟩ := H
                   try dsimp only at H
                   have A93 := q0 A930
                   clear A930
                   replace H := Option.bind_eq_some_iff.mp H
                   obtain ⟨⟨t242, t245⟩, A940, H⟩ := H
                   try dsimp only at H
                   have A94 := q0 A940
                   clear A940
                   replace H := Option.bind_eq_some_iff.mp H
                   obtain ⟨t247, A950, H⟩ := H
                   try dsimp only at H
                   have A95 := q0 A950
                   clear A950
                   by_cases c96 : t247 = true
                   · subst c96
                     have H1 := H; rw [if_pos rfl] at H1
                     clear H
                     have H := H1
                     clear H1
                     replace H := Option.bind_eq_some_iff.mp H
                     obtain ⟨t248, A970, H⟩ := H
                     try dsimp only at H
                     have A97 := q0 A970
                     clear A970
                     by_cases c98 : t248 < 0
                     · rw [if_pos c98] at H
                       have c98b0 : decide (t248 < 0) = true := decide_eq_true c98
                       clear c98
                       exact absurd H (by simp)
                     · rw [if_neg c98] at H
                       have c98b0 : decide (t248 < 0) = false := decide_eq_false c98
                       clear c98
                       by_cases c128 : t248 = t232
                       · rw [if_pos c128] at H
                         have c128b0 : (t248 == t232) = true := beq_iff_eq.mpr c128
                         have c128b1 : (t248 != t232) = false := bne_eq_false_iff_eq.mpr c128
                         clear c128 H
                         have hnb129 := z0o.out
                         have hnc129 := z0d.out
                         have hnb130 := z0p.out
                         have hnc130 := z0e.out
                         have hnb131 := z0q.out
                         have hnc131 := z0f.out
                         have hcz132_0 : wc.cell? ⟨qk, 0, none⟩ = some (.slice qs t212.length qr) := (blk_cell q9.out 0).trans rfl
                         have hcz132_1 : wc.cell? ⟨qk, 1, none⟩ = some (.int .i64 t215) := (blk_cell q9.out 1).trans rfl
                         have hfz132_0 := blk_frozen q9.out 0
                         have hfz132_1 := blk_frozen q9.out 1
                         try go_wp2_with (first | ((with_reducible refine gate_callee (f := 30) rfl ?_); refine goesL_ (some 68) rfl rfl Try.func30 (by kernel_rfl) rfl #[.agg #[.slice qs t212.length qr, .int .i64 t215], .int .i64 1] rfl ma ?_; (with_reducible refine (laws_markFollower.calls kj26 (fun k_ => some k_ = (.slice qs t212.length qr : Value).ownBlock) (.slice qs t212.length qr) t212 t215 1 t232 t233 w _ ?side1 ?side2 A81.out).mono ?_); (case side1 => exact (q3)); (case side2 => exact Kd.R_tight rfl q2.out); rintro e w133 ⟨rfl, hy0, hb, hkp⟩; refine ⟨_, rfl, ?_⟩; have n0_ := q0 (Kd.R_mono (ok' := fun k_ => some k_ ≠ (.slice qq t230.length qp : Value).ownBlock ∧ some k_ ≠ (.slice qs t212.length qr : Value).ownBlock) (Kd.R_keptB (q4.out) hkp (fun k_ hk_ hs_ => absurd hs_ (pq hk_))) pk); have n1_ := q0 (Kd.R_mono (ok' := fun k_ => some k_ ≠ (.slice qv t199.length qu : Value).ownBlock ∧ some k_ ≠ (.slice qs t212.length qr : Value).ownBlock) (Kd.R_keptB (q6.out) hkp (fun k_ hk_ hs_ => absurd hs_ (pq hk_))) pk); have n2_ := q0 (Kd.R_reok rfl hy0 (fun k_ e_ => q2.out.1 k_ e_)); have n3_ := q0 (blk_kept (ba q1.out) hkp (fun hs_ => (fun e_ => (Kd.R_ne q2.out q1.out (by decide)) e_) hs_)); have n4_ := q0 (blk_kept (ba q5.out) hkp (fun hs_ => (fun e_ => (Kd.R_ne q2.out q5.out (by decide)) e_) hs_)); have n5_ := q0 (blk_kept (ba q7.out) hkp (fun hs_ => (fun e_ => (Kd.R_ne q2.out q7.out (by decide)) e_) hs_)); have n6_ := q0 (blk_kept (ba q9.out) hkp (fun hs_ => (fun e_ => (Kd.R_ne q2.out q9.out (by decide)) e_) hs_)); have n7_ := q0 (hb); clear q4; clear q6; clear q2; clear q1; clear q5; clear q7; clear q9; clear HB; have q4 := n0_; have q6 := n1_; have q2 := n2_; have q1 := n3_; have q5 := n4_; have q7 := n5_; have q9 := n6_; have HB := n7_; clear n0_ n1_ n2_ n3_ n4_ n5_ n6_ n7_; (try clear hb); (try clear hkp); (try clear hy0); have hcz134_0 : w133.cell? ⟨qk, 0, none⟩ = some (.slice qs t212.length qr) := (blk_cell q9.out 0).trans rfl; have hcz134_1 : w133.cell? ⟨qk, 1, none⟩ = some (.int .i64 t215) := (blk_cell q9.out 1).trans rfl; have hfz134_0 := blk_frozen q9.out 0; have hfz134_1 := blk_frozen q9.out 1) | ((with_reducible refine gate_callee (f := 31) rfl ?_); refine goesL_ (some 71) rfl rfl Try.func31 (by kernel_rfl) rfl #[.agg #[.slice qs t233.length qr, .int .i64 t215], .int .i64 1] rfl (by (try simp only [List.map_toArray, List.map_cons, List.map_nil]); first | done | (rw [show t233.length = t212.length from (Kd.R_reads' q2.out).1.symm] <;> rfl) | rfl | (simp only [List.length_drop, List.length_take]; rfl)) ?_; (with_reducible refine (laws_heldFollower.calls kj26 _ _ t233 t215 1 t234 _ ?side1 ?side2 A82.out).mono ?_); (case side1 => exact ca (Kd.R_reads' q2.out).2.2); (case side2 => rw [show t233.length = t212.length from (Kd.R_reads' q2.out).1.symm]; exact (Kd.R_reads' q2.out).2.1); rintro e w135 ⟨rfl, hb⟩; refine ⟨_, rfl, ?_⟩; have n0_ := q0 (Kd.R_below (ra q4.out) hb); have n1_ := q0 (Kd.R_below (ra q6.out) hb); have n2_ := q0 (Kd.R_below (ra q2.out) hb); have n3_ := q0 (bb q1.out hb); have n4_ := q0 (bb q5.out hb); have n5_ := q0 (bb q7.out hb); have n6_ := q0 (bb q9.out hb); have n7_ := q0 (below_step (q3) hb); clear q4; clear q6; clear q2; clear q1; clear q5; clear q7; clear q9; clear HB; have q4 := n0_; have q6 := n1_; have q2 := n2_; have q1 := n3_; have q5 := n4_; have q7 := n5_; have q9 := n6_; have HB := n7_; clear n0_ n1_ n2_ n3_ n4_ n5_ n6_ n7_; (try clear hb); (try clear hb2); (try clear hk); (try clear hi)))
                         have n0_ := q0 (Kd.R_drew q4.out); have n1_ := q0 (Kd.R_drew q6.out); have n2_ := q0 (Kd.R_drew q2.out); have n3_ := q0 (blk_drew q1.out); have n4_ := q0 (blk_drew q5.out); have n5_ := q0 (blk_drew q7.out); have n6_ := q0 (blk_drew q9.out); have n7_ := q0 (below_drew1 HB.out); clear q4 q6 q2 q1 q5 q7 q9 HB; have q4 := n0_; have q6 := n1_; have q2 := n2_; have q1 := n3_; have q5 := n4_; have q7 := n5_; have q9 := n6_; have HB := n7_; clear n0_ n1_ n2_ n3_ n4_ n5_ n6_ n7_
                         refine start_ (n := 8) (S := fun w' => w'.cell? ⟨qf, 0, none⟩ = some (.slice A1_0 l1_0.length c1_0) ∧ w'.cell? ⟨qf, 1, none⟩ = some (.int .i64 a1_1)) (ds := []) #[false, false, false, false, false, false, false, false] (by kernel_rfl) rfl rfl ⟨(blk_cell q1.out 0).trans rfl, (blk_cell q1.out 1).trans rfl⟩ (fun hHeld => ?_); refine with_tabW laws_FnExactStepFollower.tab30 laws_FnExactStepFollower.bits30 (fun HT_ HW_ => ?_)
                         generalize w135.drew = w136 at q4 q6 q2 q1 q5 q7 q9 HB hHeld ⊢
                         refine pure_ (i := 0) (N := some 77) (v := ?_) (a' := ?_) #[true, false, false, false, false, false, false, false] rfl rfl (any_of HT_.out (by kernel_rfl)) (fun _ _ _ h => h) (Or.inl ⟨by rfl, ?_⟩) ?_ ?_
                         rotate_left
                         · intro w'
                           go_simp
                           with_reducible rfl
                         rotate_left
                         · simp only [Act.put, List.setIfInBounds_toArray, List.set_cons_zero, List.set_cons_succ, i64_w, i32_w]
                           rfl
                         refine pure_ (i := 4) (N := some 81) (v := ?_) (a' := ?_) #[true, false, false, false, true, false, false, false] rfl rfl (any_of HT_.out (by kernel_rfl)) (fun _ _ _ h => h) (Or.inl ⟨by rfl, ?_⟩) ?_ ?_
                         rotate_left
                         · intro w'
                           go_simp
                           with_reducible rfl
                         rotate_left
                         · simp only [Act.put, List.setIfInBounds_toArray, List.set_cons_zero, List.set_cons_succ, i64_w, i32_w]
                           rfl
                         refine take_ (i := 2) (N := some 79) (v := ?_) (a' := ?_) #[true, false, true, false, true, false, false, false] rfl rfl (take_ofW HT_.out HW_.out (by kernel_rfl)) (fun _ _ _ h => h) (Or.inl ⟨by rfl, ?_⟩) hHeld ?_ ?_
                         rotate_left
                         · rintro w' ⟨s0, s1⟩
                           go_simp
                           with_reducible rfl
                         rotate_left
                         · simp only [Act.put, List.setIfInBounds_toArray, List.set_cons_zero, List.set_cons_succ, i64_w, i32_w]
                           rfl
                         refine join_ (σ := Value × Value × Value × Nat) 1 #[true, true, true, true, true, true, true, false] (fun s_ => [(78, s_.1), (80, .agg #[s_.2.1, .int .i64 t241]), (82, .agg #[s_.2.2.1, .int .i64 t245]), (15, .pointer (some ⟨s_.2.2.2, 0, none⟩))]) (fun s_ w' => (w'.cell? ⟨qf, 0, none⟩ = some (.slice A1_0 l1_0.length c1_0) ∧ w'.cell? ⟨qf, 1, none⟩ = some (.int .i64 a1_1)) ∧ (Kd.R (Kd.int .i64) 3 w' w.heap.size (fun k_ => some k_ ≠ (s_.2.1 : Value).ownBlock ∧ some k_ ≠ (s_.2.2.1 : Value).ownBlock ∧ some k_ ≠ (.slice qv t199.length qu : Value).ownBlock ∧ some k_ ≠ (.slice qq t230.length qp : Value).ownBlock ∧ some k_ ≠ (.slice qs t212.length qr : Value).ownBlock) s_.1 t235) ∧ (Kd.R (Kd.int .i64) 3 w' w.heap.size (fun k_ => some k_ ≠ (s_.1 : Value).ownBlock ∧ some k_ ≠ (s_.2.2.1 : Value).ownBlock ∧ some k_ ≠ (.slice qv t199.length qu : Value).ownBlock ∧ some k_ ≠ (.slice qq t230.length qp : Value).ownBlock ∧ some k_ ≠ (.slice qs t212.length qr : Value).ownBlock) s_.2.1 t238) ∧ (Kd.R (Kd.int .i64) 3 w' w.heap.size (fun k_ => some k_ ≠ (s_.1 : Value).ownBlock ∧ some k_ ≠ (s_.2.1 : Value).ownBlock ∧ some k_ ≠ (.slice qv t199.length qu : Value).ownBlock ∧ some k_ ≠ (.slice qq t230.length qp : Value).ownBlock ∧ some k_ ≠ (.slice qs t212.length qr : Value).ownBlock) s_.2.2.1 t242) ∧ (Kd.R (Kd.int .i64) 3 w' w.heap.size (fun k_ => some k_ ≠ (s_.1 : Value).ownBlock ∧ some k_ ≠ (s_.2.1 : Value).ownBlock ∧ some k_ ≠ (s_.2.2.1 : Value).ownBlock ∧ some k_ ≠ (.slice qq t230.length qp : Value).ownBlock ∧ some k_ ≠ (.slice qs t212.length qr : Value).ownBlock) (.slice qv t199.length qu) t199) ∧ (Kd.R (Kd.int .i64) 3 w' w.heap.size (fun k_ => some k_ ≠ (s_.1 : Value).ownBlock ∧ some k_ ≠ (s_.2.1 : Value).ownBlock ∧ some k_ ≠ (s_.2.2.1 : Value).ownBlock ∧ some k_ ≠ (.slice qv t199.length qu : Value).ownBlock ∧ some k_ ≠ (.slice qs t212.length qr : Value).ownBlock) (.slice qq t230.length qp) t230) ∧ (Kd.R (Kd.int .i64) 3 w' w.heap.size (fun k_ => some k_ ≠ (s_.1 : Value).ownBlock ∧ some k_ ≠ (s_.2.1 : Value).ownBlock ∧ some k_ ≠ (s_.2.2.1 : Value).ownBlock ∧ some k_ ≠ (.slice qv t199.length qu : Value).ownBlock ∧ some k_ ≠ (.slice qq t230.length qp : Value).ownBlock) (.slice qs t212.length qr) t233) ∧ (w'.heap[qf]? = some (.cells #[.slice A1_0 l1_0.length c1_0, .int .i64 a1_1] 31 (0, 0))) ∧ (w'.heap[qd]? = some (.cells #[.slice qv t199.length qu, .int .i64 t202] 35 (0, 0))) ∧ (w'.heap[qi]? = some (.cells #[.slice qq t230.length qp, .int .i64 t210] 35 (0, 0))) ∧ (w'.heap[qk]? = some (.cells #[.slice qs t212.length qr, .int .i64 t215] 35 (0, 0))) ∧ (w'.heap[s_.2.2.2]? = some (.cells #[.slice none 0 0, .int .i64 0] 35 (0, 0))) ∧ (w.heap.size ≤ s_.2.2.2) ∧ (w.heap.size ≤ s_.2.2.2) ∧ (qf ≠ s_.2.2.2) ∧ (s_.2.2.2 ≠ qf) ∧ (qd ≠ s_.2.2.2) ∧ (s_.2.2.2 ≠ qd) ∧ (qi ≠ s_.2.2.2) ∧ (s_.2.2.2 ≠ qi) ∧ (qk ≠ s_.2.2.2) ∧ (s_.2.2.2 ≠ qk) ∧ (Below w.heap.size w w')) ?_ ?_
                         rotate_left
                         · intro hCont
                           refine two_ (i := 1) (j := 6) (Ni := some 78) (Nj := some 15) #[true, true, true, false, true, false, false, false] #[true, false, true, false, true, false, true, false] rfl rfl rfl rfl (two_of HT_.out (by kernel_rfl)) (by decide) (by decide) (fun K hK => ?_) (fun K hK => ?_)
                           · skip
                             refine goes_ Try.func22 (by kernel_rfl) rfl #[.slice A0 l0.length c0] (by rfl) rfl rfl ma ?_
                             with_reducible refine (laws_toIntS.calls kj26 _ _ l0 t235 _ ?side1 ?side2 A92.out).mono ?_
                             (case side1 => exact ca (Kd.C_below HR0.out HB.out))
                             (case side2 => exact HC0.out)
                             rintro e w137 ⟨v236, rfl, ho0, hb⟩
                             refine ⟨_, rfl, ?_⟩
                             have n0_ := q0 (Kd.R_elder' (ra q4.out) (Kd.R_base ho0) hb); have n1_ := q0 (Kd.R_elder' (ra q6.out) (Kd.R_base ho0) hb); have n2_ := q0 (Kd.R_elder' (ra q2.out) (Kd.R_base ho0) hb); have n3_ := q0 (Kd.R_lower (Kd.R_new' (Kd.R_new' (Kd.R_new' ho0 (Kd.R_lt (ra q4.out))) (Kd.R_lt (ra q6.out))) (Kd.R_lt (ra q2.out))) (below_size (q3))); have n4_ := q0 (bb q1.out hb); have n5_ := q0 (bb q5.out hb); have n6_ := q0 (bb q7.out hb); have n7_ := q0 (bb q9.out hb); have n8_ := q0 (below_step (q3) hb); clear q4 q6 q2 q1 q5 q7 q9 HB; have q4 := n0_; have q6 := n1_; have q2 := n2_; have qh := n3_; have q1 := n4_; have q5 := n5_; have q7 := n6_; have q9 := n7_; have HB := n8_; clear n0_ n1_ n2_ n3_ n4_ n5_ n6_ n7_ n8_; (try clear hb); (try clear hb2); (try clear hk); (try clear hi); (try clear ho0)
                             refine hK.out _ _ ⟨(blk_cell q1.out 0).trans rfl, (blk_cell q1.out 1).trans rfl⟩ (fun hHeld => ?_)
                             clear hK K
                             refine norm_ (a' := ?_) ?_ ?_
                             rotate_left
                             · show Act.put _ (some 78) _ = _
                               simp only [Act.put, List.setIfInBounds_toArray, List.set_cons_zero, List.set_cons_succ, i64_w, i32_w]
                               rfl
                             refine two_ (i := 3) (j := 6) (Ni := some 80) (Nj := some 15) #[true, true, true, true, true, false, false, false] #[true, true, true, false, true, false, true, false] rfl rfl rfl rfl (two_of HT_.out (by kernel_rfl)) (by decide) (by decide) (fun K hK => ?_) (fun K hK => ?_)
                             · skip
                               refine goes_ Try.func23 (by kernel_rfl) rfl #[.agg #[.slice A1_0 l1_0.length c1_0, .int .i64 a1_1]] (by rfl) rfl rfl ma ?_
                               with_reducible refine (laws_toFollower.calls kj26 _ _ l1_0 a1_1 t238 t241 _ ?side1 ?side2 A93.out).mono ?_
                               (case side1 => exact ca (Kd.C_below HR1_0.out HB.out))
                               (case side2 => exact HC1_0.out)
                               rintro e w138 ⟨v239, rfl, ho0, hb⟩
                               refine ⟨_, rfl, ?_⟩
                               have n0_ := q0 (Kd.R_elder' (ra q4.out) (Kd.R_base ho0) hb); have n1_ := q0 (Kd.R_elder' (ra q6.out) (Kd.R_base ho0) hb); have n2_ := q0 (Kd.R_elder' (ra q2.out) (Kd.R_base ho0) hb); have n3_ := q0 (Kd.R_elder' (ra qh.out) (Kd.R_base ho0) hb); have n4_ := q0 (Kd.R_lower (Kd.R_new' (Kd.R_new' (Kd.R_new' (Kd.R_new' ho0 (Kd.R_lt (ra q4.out))) (Kd.R_lt (ra q6.out))) (Kd.R_lt (ra q2.out))) (Kd.R_lt (ra qh.out))) (below_size (q3))); have n5_ := q0 (bb q1.out hb); have n6_ := q0 (bb q5.out hb); have n7_ := q0 (bb q7.out hb); have n8_ := q0 (bb q9.out hb); have n9_ := q0 (below_step (q3) hb); clear q4 q6 q2 qh q1 q5 q7 q9 HB; have q4 := n0_; have q6 := n1_; have q2 := n2_; have qh := n3_; have qn := n4_; have q1 := n5_; have q5 := n6_; have q7 := n7_; have q9 := n8_; have HB := n9_; clear n0_ n1_ n2_ n3_ n4_ n5_ n6_ n7_ n8_ n9_; (try clear hb); (try clear hb2); (try clear hk); (try clear hi); (try clear ho0)
                               obtain ⟨z14, z15, eo139⟩ := Kd.R_slice qh.out
                               (first | subst eo139 | (injection eo139 with f1_ f2_ f3_; have f4_ := f1_.symm; have f5_ := f3_.symm; clear f1_ f2_ f3_; subst f4_; subst f5_))
                               obtain ⟨z0k, z0l, eo140⟩ := Kd.R_slice qn.out
                               (first | subst eo140 | (injection eo140 with f1_ f2_ f3_; have f4_ := f1_.symm; have f5_ := f3_.symm; clear f1_ f2_ f3_; subst f4_; subst f5_))
                               refine hK.out _ _ ⟨(blk_cell q1.out 0).trans rfl, (blk_cell q1.out 1).trans rfl⟩ (fun hHeld => ?_)
                               clear hK K
                               refine norm_ (a' := ?_) ?_ ?_
                               rotate_left
                               · show Act.put _ (some 80) _ = _
                                 simp only [Act.put, List.setIfInBounds_toArray, List.set_cons_zero, List.set_cons_succ, i64_w, i32_w]
                                 rfl
                               refine two_ (i := 5) (j := 6) (Ni := some 82) (Nj := some 15) #[true, true, true, true, true, true, false, false] #[true, true, true, true, true, false, true, false] rfl rfl rfl rfl (two_of HT_.out (by kernel_rfl)) (by decide) (by decide) (fun K hK => ?_) (fun K hK => ?_)
                               · skip
                                 refine goes_ Try.func28 (by kernel_rfl) rfl #[.slice z14 t235.length z15, .agg #[.slice z0k t238.length z0l, .int .i64 t241], .int .i64 a2] (by rfl) rfl rfl ma ?_
                                 with_reducible refine (impl_StepFollower.calls kj26 _ _ t235 _ _ t238 t241 a2 t242 t245 _ ?side1 ?side2 ?side3 ?side4 A94.out).mono ?_
                                 (case side1 => exact ca (Kd.R_reads' qh.out).2.2)
                                 (case side2 => exact (Kd.R_reads' qh.out).2.1)
                                 (case side3 => exact ca (Kd.R_reads' qn.out).2.2)
                                 (case side4 => exact (Kd.R_reads' qn.out).2.1)
                                 rintro e w141 ⟨v243, rfl, ho0, hb⟩
                                 refine ⟨_, rfl, ?_⟩
                                 have n0_ := q0 (Kd.R_elder' (ra q4.out) (Kd.R_base ho0) hb); have n1_ := q0 (Kd.R_elder' (ra q6.out) (Kd.R_base ho0) hb); have n2_ := q0 (Kd.R_elder' (ra q2.out) (Kd.R_base ho0) hb); have n3_ := q0 (Kd.R_elder' (ra qh.out) (Kd.R_base ho0) hb); have n4_ := q0 (Kd.R_elder' (ra qn.out) (Kd.R_base ho0) hb); have n5_ := q0 (Kd.R_lower (Kd.R_new' (Kd.R_new' (Kd.R_new' (Kd.R_new' (Kd.R_new' ho0 (Kd.R_lt (ra q4.out))) (Kd.R_lt (ra q6.out))) (Kd.R_lt (ra q2.out))) (Kd.R_lt (ra qh.out))) (Kd.R_lt (ra qn.out))) (below_size (q3))); have n6_ := q0 (bb q1.out hb); have n7_ := q0 (bb q5.out hb); have n8_ := q0 (bb q7.out hb); have n9_ := q0 (bb q9.out hb); have n10_ := q0 (below_step (q3) hb); clear q4 q6 q2 qh qn q1 q5 q7 q9 HB; have q4 := n0_; have q6 := n1_; have q2 := n2_; have qh := n3_; have qn := n4_; have z08 := n5_; have q1 := n6_; have q5 := n7_; have q7 := n8_; have q9 := n9_; have HB := n10_; clear n0_ n1_ n2_ n3_ n4_ n5_ n6_ n7_ n8_ n9_ n10_; (try clear hb); (try clear hb2); (try clear hk); (try clear hi); (try clear ho0)
                                 refine hK.out _ _ ⟨(blk_cell q1.out 0).trans rfl, (blk_cell q1.out 1).trans rfl⟩ (fun hHeld => ?_)
                                 clear hK K
                                 refine norm_ (a' := ?_) ?_ ?_
                                 rotate_left
                                 · show Act.put _ (some 82) _ = _
                                   simp only [Act.put, List.setIfInBounds_toArray, List.set_cons_zero, List.set_cons_succ, i64_w, i32_w]
                                   rfl
                                 refine one_ (i := 6) (N := some 15) #[true, true, true, true, true, true, true, false] rfl rfl (one_of HT_.out (by kernel_rfl)) (by decide) (fun K hK => ?_)
                                 refine box_step ?hg (N := 15) ?hd (cs := #[.slice none 0 0, .int .i64 0]) (t := 35) ?hr ?_; (case hd => rfl); (case hg => rfl); (case hr => first | (go_simp; done) | (go_simp; rfl))
                                 intro qc hg w142 hbox hb
                                 have n0_ := q0 (Kd.R_below (ra q4.out) hb); have n1_ := q0 (Kd.R_below (ra q6.out) hb); have n2_ := q0 (Kd.R_below (ra q2.out) hb); have n3_ := q0 (Kd.R_below (ra qh.out) hb); have n4_ := q0 (Kd.R_below (ra qn.out) hb); have n5_ := q0 (Kd.R_below (ra z08.out) hb); have n6_ := q0 (bb q1.out hb); have n7_ := q0 (bb q5.out hb); have n8_ := q0 (bb q7.out hb); have n9_ := q0 (bb q9.out hb); have n10_ := q0 (below_step (q3) hb); have n11_ := q0 (hbox); have n12_ := q0 ((by rw [hg]; exact (below_size (q3)) : w.heap.size ≤ qc)); have n13_ := q0 ((by rw [hg]; exact (below_size (q3)) : w.heap.size ≤ qc)); have n14_ := q0 ((by rw [hg]; exact Nat.ne_of_lt (bl q1.out) : qf ≠ qc)); have n15_ := q0 ((by rw [hg]; exact Nat.ne_of_gt (bl q1.out) : qc ≠ qf)); have n16_ := q0 ((by rw [hg]; exact Nat.ne_of_lt (bl q5.out) : qd ≠ qc)); have n17_ := q0 ((by rw [hg]; exact Nat.ne_of_gt (bl q5.out) : qc ≠ qd)); have n18_ := q0 ((by rw [hg]; exact Nat.ne_of_lt (bl q7.out) : qi ≠ qc)); have n19_ := q0 ((by rw [hg]; exact Nat.ne_of_gt (bl q7.out) : qc ≠ qi)); have n20_ := q0 ((by rw [hg]; exact Nat.ne_of_lt (bl q9.out) : qk ≠ qc)); have n21_ := q0 ((by rw [hg]; exact Nat.ne_of_gt (bl q9.out) : qc ≠ qk)); clear q4 q6 q2 qh qn z08 q1 q5 q7 q9 HB; have q4 := n0_; have q6 := n1_; have q2 := n2_; have qh := n3_; have qn := n4_; have z08 := n5_; have q1 := n6_; have q5 := n7_; have q7 := n8_; have q9 := n9_; have HB := n10_; have qm := n11_; have GW246 := n12_; have z0u := n13_; have qt := n14_; have z02 := n15_; have qz := n16_; have z03 := n17_; have z00 := n18_; have z04 := n19_; have z01 := n20_; have z05 := n21_; clear n0_ n1_ n2_ n3_ n4_ n5_ n6_ n7_ n8_ n9_ n10_ n11_ n12_ n13_ n14_ n15_ n16_ n17_ n18_ n19_ n20_ n21_ hb hbox hg
                                 refine hK.out _ _ ⟨(blk_cell q1.out 0).trans rfl, (blk_cell q1.out 1).trans rfl⟩ (fun hHeld => ?_)
                                 clear hK K
                                 refine norm_ (a' := ?_) ?_ ?_
                                 rotate_left
                                 · show Act.put _ (some 15) _ = _
                                   simp only [Act.put, List.setIfInBounds_toArray, List.set_cons_zero, List.set_cons_succ, i64_w, i32_w]
                                   rfl
                                 exact norm_ (by simp only [putAll, Act.put, List.setIfInBounds_toArray, List.set_cons_zero, List.set_cons_succ]) (hCont (.slice z14 t235.length z15, .slice z0k t238.length z0l, v243, qc) _ ⟨hHeld, (by refine ra ?_; exact Kd.R_mono qh.out (fun _ hk => ⟨hk.1.2, ⟨hk.2, ⟨hk.1.1.1.1.2, ⟨hk.1.1.1.2, hk.1.1.2⟩⟩⟩⟩)), (by refine ra ?_; exact Kd.R_mono qn.out (fun _ hk => ⟨hk.1.2, ⟨hk.2, ⟨hk.1.1.1.1.2, ⟨hk.1.1.1.2, hk.1.1.2⟩⟩⟩⟩)), (by refine ra ?_; exact Kd.R_mono z08.out (fun _ hk => ⟨hk.1.2, ⟨hk.2, ⟨hk.1.1.1.1.2, ⟨hk.1.1.1.2, hk.1.1.2⟩⟩⟩⟩)), (by refine ra ?_; exact Kd.R_mono q4.out (fun _ hk => ⟨hk.1.1.2, ⟨hk.1.2, ⟨hk.2, ⟨hk.1.1.1.1, hk.1.1.1.2⟩⟩⟩⟩)), (by refine ra ?_; exact Kd.R_mono q6.out (fun _ hk => ⟨hk.1.1.2, ⟨hk.1.2, ⟨hk.2, ⟨hk.1.1.1.1, hk.1.1.1.2⟩⟩⟩⟩)), (by refine ra ?_; exact Kd.R_mono q2.out (fun _ hk => ⟨hk.1.1.2, ⟨hk.1.2, ⟨hk.2, ⟨hk.1.1.1.1, hk.1.1.1.2⟩⟩⟩⟩)), (ba q1.out), (ba q5.out), (ba q7.out), (ba q9.out), (ba qm.out), GW246.out, z0u.out, qt.out, z02.out, qz.out, z03.out, z00.out, z04.out, z01.out, z05.out, (q8)⟩)
                               · skip
                                 refine box_step ?hg (N := 15) ?hd (cs := #[.slice none 0 0, .int .i64 0]) (t := 35) ?hr ?_; (case hd => rfl); (case hg => rfl); (case hr => first | (go_simp; done) | (go_simp; rfl))
                                 intro qc hg w139 hbox hb
                                 have n0_ := q0 (Kd.R_below (ra q4.out) hb); have n1_ := q0 (Kd.R_below (ra q6.out) hb); have n2_ := q0 (Kd.R_below (ra q2.out) hb); have n3_ := q0 (Kd.R_below (ra qh.out) hb); have n4_ := q0 (Kd.R_below (ra qn.out) hb); have n5_ := q0 (bb q1.out hb); have n6_ := q0 (bb q5.out hb); have n7_ := q0 (bb q7.out hb); have n8_ := q0 (bb q9.out hb); have n9_ := q0 (below_step (q3) hb); have n10_ := q0 (hbox); have n11_ := q0 ((by rw [hg]; exact (below_size (q3)) : w.heap.size ≤ qc)); have n12_ := q0 ((by rw [hg]; exact (below_size (q3)) : w.heap.size ≤ qc)); have n13_ := q0 ((by rw [hg]; exact Nat.ne_of_lt (bl q1.out) : qf ≠ qc)); have n14_ := q0 ((by rw [hg]; exact Nat.ne_of_gt (bl q1.out) : qc ≠ qf)); have n15_ := q0 ((by rw [hg]; exact Nat.ne_of_lt (bl q5.out) : qd ≠ qc)); have n16_ := q0 ((by rw [hg]; exact Nat.ne_of_gt (bl q5.out) : qc ≠ qd)); have n17_ := q0 ((by rw [hg]; exact Nat.ne_of_lt (bl q7.out) : qi ≠ qc)); have n18_ := q0 ((by rw [hg]; exact Nat.ne_of_gt (bl q7.out) : qc ≠ qi)); have n19_ := q0 ((by rw [hg]; exact Nat.ne_of_lt (bl q9.out) : qk ≠ qc)); have n20_ := q0 ((by rw [hg]; exact Nat.ne_of_gt (bl q9.out) : qc ≠ qk)); clear q4 q6 q2 qh qn q1 q5 q7 q9 HB; have q4 := n0_; have q6 := n1_; have q2 := n2_; have qh := n3_; have qn := n4_; have q1 := n5_; have q5 := n6_; have q7 := n7_; have q9 := n8_; have HB := n9_; have qm := n10_; have GW246 := n11_; have z0u := n12_; have qt := n13_; have z02 := n14_; have qz := n15_; have z03 := n16_; have z00 := n17_; have z04 := n18_; have z01 := n19_; have z05 := n20_; clear n0_ n1_ n2_ n3_ n4_ n5_ n6_ n7_ n8_ n9_ n10_ n11_ n12_ n13_ n14_ n15_ n16_ n17_ n18_ n19_ n20_ hb hbox hg
                                 obtain ⟨z0k, z0l, eo140⟩ := Kd.R_slice qh.out
                                 (first | subst eo140 | (injection eo140 with f1_ f2_ f3_; have f4_ := f1_.symm; have f5_ := f3_.symm; clear f1_ f2_ f3_; subst f4_; subst f5_))
                                 obtain ⟨z0v, z0w, eo141⟩ := Kd.R_slice qn.out
                                 (first | subst eo141 | (injection eo141 with f1_ f2_ f3_; have f4_ := f1_.symm; have f5_ := f3_.symm; clear f1_ f2_ f3_; subst f4_; subst f5_))
                                 refine hK.out _ _ ⟨(blk_cell q1.out 0).trans rfl, (blk_cell q1.out 1).trans rfl⟩ (fun hHeld => ?_)
                                 clear hK K
                                 refine norm_ (a' := ?_) ?_ ?_
                                 rotate_left
                                 · show Act.put _ (some 15) _ = _
                                   simp only [Act.put, List.setIfInBounds_toArray, List.set_cons_zero, List.set_cons_succ, i64_w, i32_w]
                                   rfl
                                 refine one_ (i := 5) (N := some 82) #[true, true, true, true, true, true, true, false] rfl rfl (one_of HT_.out (by kernel_rfl)) (by decide) (fun K hK => ?_)
                                 refine goes_ Try.func28 (by kernel_rfl) rfl #[.slice z0k t235.length z0l, .agg #[.slice z0v t238.length z0w, .int .i64 t241], .int .i64 a2] (by rfl) rfl rfl ma ?_
                                 with_reducible refine (impl_StepFollower.calls kj26 _ _ t235 _ _ t238 t241 a2 t242 t245 _ ?side1 ?side2 ?side3 ?side4 A94.out).mono ?_
                                 (case side1 => exact ca (Kd.R_reads' qh.out).2.2)
                                 (case side2 => exact (Kd.R_reads' qh.out).2.1)
                                 (case side3 => exact ca (Kd.R_reads' qn.out).2.2)
                                 (case side4 => exact (Kd.R_reads' qn.out).2.1)
                                 rintro e w142 ⟨v243, rfl, ho0, hb⟩
                                 refine ⟨_, rfl, ?_⟩
                                 have n0_ := q0 (Kd.R_elder' (ra q4.out) (Kd.R_base ho0) hb); have n1_ := q0 (Kd.R_elder' (ra q6.out) (Kd.R_base ho0) hb); have n2_ := q0 (Kd.R_elder' (ra q2.out) (Kd.R_base ho0) hb); have n3_ := q0 (Kd.R_elder' (ra qh.out) (Kd.R_base ho0) hb); have n4_ := q0 (Kd.R_elder' (ra qn.out) (Kd.R_base ho0) hb); have n5_ := q0 (Kd.R_lower (Kd.R_new' (Kd.R_new' (Kd.R_new' (Kd.R_new' (Kd.R_new' ho0 (Kd.R_lt (ra q4.out))) (Kd.R_lt (ra q6.out))) (Kd.R_lt (ra q2.out))) (Kd.R_lt (ra qh.out))) (Kd.R_lt (ra qn.out))) (below_size (q8))); have n6_ := q0 (bb q1.out hb); have n7_ := q0 (bb q5.out hb); have n8_ := q0 (bb q7.out hb); have n9_ := q0 (bb q9.out hb); have n10_ := q0 (bb qm.out hb); have n11_ := q0 (below_step (q8) hb); clear q4 q6 q2 qh qn q1 q5 q7 q9 qm HB; have q4 := n0_; have q6 := n1_; have q2 := n2_; have qh := n3_; have qn := n4_; have z08 := n5_; have q1 := n6_; have q5 := n7_; have q7 := n8_; have q9 := n9_; have qm := n10_; have HB := n11_; clear n0_ n1_ n2_ n3_ n4_ n5_ n6_ n7_ n8_ n9_ n10_ n11_; (try clear hb); (try clear hb2); (try clear hk); (try clear hi); (try clear ho0)
                                 refine hK.out _ _ ⟨(blk_cell q1.out 0).trans rfl, (blk_cell q1.out 1).trans rfl⟩ (fun hHeld => ?_)
                                 clear hK K
                                 refine norm_ (a' := ?_) ?_ ?_
                                 rotate_left
                                 · show Act.put _ (some 82) _ = _
                                   simp only [Act.put, List.setIfInBounds_toArray, List.set_cons_zero, List.set_cons_succ, i64_w, i32_w]
                                   rfl
                                 exact norm_ (by simp only [putAll, Act.put, List.setIfInBounds_toArray, List.set_cons_zero, List.set_cons_succ]) (hCont (.slice z0k t235.length z0l, .slice z0v t238.length z0w, v243, qc) _ ⟨hHeld, (by refine ra ?_; exact Kd.R_mono qh.out (fun _ hk => ⟨hk.1.2, ⟨hk.2, ⟨hk.1.1.1.1.2, ⟨hk.1.1.1.2, hk.1.1.2⟩⟩⟩⟩)), (by refine ra ?_; exact Kd.R_mono qn.out (fun _ hk => ⟨hk.1.2, ⟨hk.2, ⟨hk.1.1.1.1.2, ⟨hk.1.1.1.2, hk.1.1.2⟩⟩⟩⟩)), (by refine ra ?_; exact Kd.R_mono z08.out (fun _ hk => ⟨hk.1.2, ⟨hk.2, ⟨hk.1.1.1.1.2, ⟨hk.1.1.1.2, hk.1.1.2⟩⟩⟩⟩)), (by refine ra ?_; exact Kd.R_mono q4.out (fun _ hk => ⟨hk.1.1.2, ⟨hk.1.2, ⟨hk.2, ⟨hk.1.1.1.1, hk.1.1.1.2⟩⟩⟩⟩)), (by refine ra ?_; exact Kd.R_mono q6.out (fun _ hk => ⟨hk.1.1.2, ⟨hk.1.2, ⟨hk.2, ⟨hk.1.1.1.1, hk.1.1.1.2⟩⟩⟩⟩)), (by refine ra ?_; exact Kd.R_mono q2.out (fun _ hk => ⟨hk.1.1.2, ⟨hk.1.2, ⟨hk.2, ⟨hk.1.1.1.1, hk.1.1.1.2⟩⟩⟩⟩)), (ba q1.out), (ba q5.out), (ba q7.out), (ba q9.out), (ba qm.out), GW246.out, z0u.out, qt.out, z02.out, qz.out, z03.out, z00.out, z04.out, z01.out, z05.out, (q8)⟩)
                             · skip
                               refine box_step ?hg (N := 15) ?hd (cs := #[.slice none 0 0, .int .i64 0]) (t := 35) ?hr ?_; (case hd => rfl); (case hg => rfl); (case hr => first | (go_simp; done) | (go_simp; rfl))
                               intro qc hg w138 hbox hb
                               have n0_ := q0 (Kd.R_below (ra q4.out) hb); have n1_ := q0 (Kd.R_below (ra q6.out) hb); have n2_ := q0 (Kd.R_below (ra q2.out) hb); have n3_ := q0 (Kd.R_below (ra qh.out) hb); have n4_ := q0 (bb q1.out hb); have n5_ := q0 (bb q5.out hb); have n6_ := q0 (bb q7.out hb); have n7_ := q0 (bb q9.out hb); have n8_ := q0 (below_step (q3) hb); have n9_ := q0 (hbox); have n10_ := q0 ((by rw [hg]; exact (below_size (q3)) : w.heap.size ≤ qc)); have n11_ := q0 ((by rw [hg]; exact (below_size (q3)) : w.heap.size ≤ qc)); have n12_ := q0 ((by rw [hg]; exact Nat.ne_of_lt (bl q1.out) : qf ≠ qc)); have n13_ := q0 ((by rw [hg]; exact Nat.ne_of_gt (bl q1.out) : qc ≠ qf)); have n14_ := q0 ((by rw [hg]; exact Nat.ne_of_lt (bl q5.out) : qd ≠ qc)); have n15_ := q0 ((by rw [hg]; exact Nat.ne_of_gt (bl q5.out) : qc ≠ qd)); have n16_ := q0 ((by rw [hg]; exact Nat.ne_of_lt (bl q7.out) : qi ≠ qc)); have n17_ := q0 ((by rw [hg]; exact Nat.ne_of_gt (bl q7.out) : qc ≠ qi)); have n18_ := q0 ((by rw [hg]; exact Nat.ne_of_lt (bl q9.out) : qk ≠ qc)); have n19_ := q0 ((by rw [hg]; exact Nat.ne_of_gt (bl q9.out) : qc ≠ qk)); clear q4 q6 q2 qh q1 q5 q7 q9 HB; have q4 := n0_; have q6 := n1_; have q2 := n2_; have qh := n3_; have q1 := n4_; have q5 := n5_; have q7 := n6_; have q9 := n7_; have HB := n8_; have qm := n9_; have GW246 := n10_; have z0u := n11_; have qt := n12_; have z02 := n13_; have qz := n14_; have z03 := n15_; have z00 := n16_; have z04 := n17_; have z01 := n18_; have z05 := n19_; clear n0_ n1_ n2_ n3_ n4_ n5_ n6_ n7_ n8_ n9_ n10_ n11_ n12_ n13_ n14_ n15_ n16_ n17_ n18_ n19_ hb hbox hg
                               refine hK.out _ _ ⟨(blk_cell q1.out 0).trans rfl, (blk_cell q1.out 1).trans rfl⟩ (fun hHeld => ?_)
                               clear hK K
                               refine norm_ (a' := ?_) ?_ ?_
                               rotate_left
                               · show Act.put _ (some 15) _ = _
                                 simp only [Act.put, List.setIfInBounds_toArray, List.set_cons_zero, List.set_cons_succ, i64_w, i32_w]
                                 rfl
                               refine one_ (i := 3) (N := some 80) #[true, true, true, true, true, false, true, false] rfl rfl (one_of HT_.out (by kernel_rfl)) (by decide) (fun K hK => ?_)
                               refine goes_ Try.func23 (by kernel_rfl) rfl #[.agg #[.slice A1_0 l1_0.length c1_0, .int .i64 a1_1]] (by rfl) rfl rfl ma ?_
                               with_reducible refine (laws_toFollower.calls kj26 _ _ l1_0 a1_1 t238 t241 _ ?side1 ?side2 A93.out).mono ?_
                               (case side1 => exact ca (Kd.C_below HR1_0.out HB.out))
                               (case side2 => exact HC1_0.out)
                               rintro e w139 ⟨v239, rfl, ho0, hb⟩
                               refine ⟨_, rfl, ?_⟩
                               have n0_ := q0 (Kd.R_elder' (ra q4.out) (Kd.R_base ho0) hb); have n1_ := q0 (Kd.R_elder' (ra q6.out) (Kd.R_base ho0) hb); have n2_ := q0 (Kd.R_elder' (ra q2.out) (Kd.R_base ho0) hb); have n3_ := q0 (Kd.R_elder' (ra qh.out) (Kd.R_base ho0) hb); have n4_ := q0 (Kd.R_lower (Kd.R_new' (Kd.R_new' (Kd.R_new' (Kd.R_new' ho0 (Kd.R_lt (ra q4.out))) (Kd.R_lt (ra q6.out))) (Kd.R_lt (ra q2.out))) (Kd.R_lt (ra qh.out))) (below_size (q8))); have n5_ := q0 (bb q1.out hb); have n6_ := q0 (bb q5.out hb); have n7_ := q0 (bb q7.out hb); have n8_ := q0 (bb q9.out hb); have n9_ := q0 (bb qm.out hb); have n10_ := q0 (below_step (q8) hb); clear q4 q6 q2 qh q1 q5 q7 q9 qm HB; have q4 := n0_; have q6 := n1_; have q2 := n2_; have qh := n3_; have qn := n4_; have q1 := n5_; have q5 := n6_; have q7 := n7_; have q9 := n8_; have qm := n9_; have HB := n10_; clear n0_ n1_ n2_ n3_ n4_ n5_ n6_ n7_ n8_ n9_ n10_; (try clear hb); (try clear hb2); (try clear hk); (try clear hi); (try clear ho0)
                               obtain ⟨z0k, z0l, eo140⟩ := Kd.R_slice qh.out
                               (first | subst eo140 | (injection eo140 with f1_ f2_ f3_; have f4_ := f1_.symm; have f5_ := f3_.symm; clear f1_ f2_ f3_; subst f4_; subst f5_))
                               obtain ⟨z0v, z0w, eo141⟩ := Kd.R_slice qn.out
                               (first | subst eo141 | (injection eo141 with f1_ f2_ f3_; have f4_ := f1_.symm; have f5_ := f3_.symm; clear f1_ f2_ f3_; subst f4_; subst f5_))
                               refine hK.out _ _ ⟨(blk_cell q1.out 0).trans rfl, (blk_cell q1.out 1).trans rfl⟩ (fun hHeld => ?_)
                               clear hK K
                               refine norm_ (a' := ?_) ?_ ?_
                               rotate_left
                               · show Act.put _ (some 80) _ = _
                                 simp only [Act.put, List.setIfInBounds_toArray, List.set_cons_zero, List.set_cons_succ, i64_w, i32_w]
                                 rfl
                               refine one_ (i := 5) (N := some 82) #[true, true, true, true, true, true, true, false] rfl rfl (one_of HT_.out (by kernel_rfl)) (by decide) (fun K hK => ?_)
                               refine goes_ Try.func28 (by kernel_rfl) rfl #[.slice z0k t235.length z0l, .agg #[.slice z0v t238.length z0w, .int .i64 t241], .int .i64 a2] (by rfl) rfl rfl ma ?_
                               with_reducible refine (impl_StepFollower.calls kj26 _ _ t235 _ _ t238 t241 a2 t242 t245 _ ?side1 ?side2 ?side3 ?side4 A94.out).mono ?_
                               (case side1 => exact ca (Kd.R_reads' qh.out).2.2)
                               (case side2 => exact (Kd.R_reads' qh.out).2.1)
                               (case side3 => exact ca (Kd.R_reads' qn.out).2.2)
                               (case side4 => exact (Kd.R_reads' qn.out).2.1)
                               rintro e w142 ⟨v243, rfl, ho0, hb⟩
                               refine ⟨_, rfl, ?_⟩
                               have n0_ := q0 (Kd.R_elder' (ra q4.out) (Kd.R_base ho0) hb); have n1_ := q0 (Kd.R_elder' (ra q6.out) (Kd.R_base ho0) hb); have n2_ := q0 (Kd.R_elder' (ra q2.out) (Kd.R_base ho0) hb); have n3_ := q0 (Kd.R_elder' (ra qh.out) (Kd.R_base ho0) hb); have n4_ := q0 (Kd.R_elder' (ra qn.out) (Kd.R_base ho0) hb); have n5_ := q0 (Kd.R_lower (Kd.R_new' (Kd.R_new' (Kd.R_new' (Kd.R_new' (Kd.R_new' ho0 (Kd.R_lt (ra q4.out))) (Kd.R_lt (ra q6.out))) (Kd.R_lt (ra q2.out))) (Kd.R_lt (ra qh.out))) (Kd.R_lt (ra qn.out))) (below_size (q8))); have n6_ := q0 (bb q1.out hb); have n7_ := q0 (bb q5.out hb); have n8_ := q0 (bb q7.out hb); have n9_ := q0 (bb q9.out hb); have n10_ := q0 (bb qm.out hb); have n11_ := q0 (below_step (q8) hb); clear q4 q6 q2 qh qn q1 q5 q7 q9 qm HB; have q4 := n0_; have q6 := n1_; have q2 := n2_; have qh := n3_; have qn := n4_; have z08 := n5_; have q1 := n6_; have q5 := n7_; have q7 := n8_; have q9 := n9_; have qm := n10_; have HB := n11_; clear n0_ n1_ n2_ n3_ n4_ n5_ n6_ n7_ n8_ n9_ n10_ n11_; (try clear hb); (try clear hb2); (try clear hk); (try clear hi); (try clear ho0)
                               refine hK.out _ _ ⟨(blk_cell q1.out 0).trans rfl, (blk_cell q1.out 1).trans rfl⟩ (fun hHeld => ?_)
                               clear hK K
                               refine norm_ (a' := ?_) ?_ ?_
                               rotate_left
                               · show Act.put _ (some 82) _ = _
                                 simp only [Act.put, List.setIfInBounds_toArray, List.set_cons_zero, List.set_cons_succ, i64_w, i32_w]
                                 rfl
                               exact norm_ (by simp only [putAll, Act.put, List.setIfInBounds_toArray, List.set_cons_zero, List.set_cons_succ]) (hCont (.slice z0k t235.length z0l, .slice z0v t238.length z0w, v243, qc) _ ⟨hHeld, (by refine ra ?_; exact Kd.R_mono qh.out (fun _ hk => ⟨hk.1.2, ⟨hk.2, ⟨hk.1.1.1.1.2, ⟨hk.1.1.1.2, hk.1.1.2⟩⟩⟩⟩)), (by refine ra ?_; exact Kd.R_mono qn.out (fun _ hk => ⟨hk.1.2, ⟨hk.2, ⟨hk.1.1.1.1.2, ⟨hk.1.1.1.2, hk.1.1.2⟩⟩⟩⟩)), (by refine ra ?_; exact Kd.R_mono z08.out (fun _ hk => ⟨hk.1.2, ⟨hk.2, ⟨hk.1.1.1.1.2, ⟨hk.1.1.1.2, hk.1.1.2⟩⟩⟩⟩)), (by refine ra ?_; exact Kd.R_mono q4.out (fun _ hk => ⟨hk.1.1.2, ⟨hk.1.2, ⟨hk.2, ⟨hk.1.1.1.1, hk.1.1.1.2⟩⟩⟩⟩)), (by refine ra ?_; exact Kd.R_mono q6.out (fun _ hk => ⟨hk.1.1.2, ⟨hk.1.2, ⟨hk.2, ⟨hk.1.1.1.1, hk.1.1.1.2⟩⟩⟩⟩)), (by refine ra ?_; exact Kd.R_mono q2.out (fun _ hk => ⟨hk.1.1.2, ⟨hk.1.2, ⟨hk.2, ⟨hk.1.1.1.1, hk.1.1.1.2⟩⟩⟩⟩)), (ba q1.out), (ba q5.out), (ba q7.out), (ba q9.out), (ba qm.out), GW246.out, z0u.out, qt.out, z02.out, qz.out, z03.out, z00.out, z04.out, z01.out, z05.out, (q8)⟩)
                           · skip
                             refine box_step ?hg (N := 15) ?hd (cs := #[.slice none 0 0, .int .i64 0]) (t := 35) ?hr ?_; (case hd => rfl); (case hg => rfl); (case hr => first | (go_simp; done) | (go_simp; rfl))
                             intro qc hg w137 hbox hb
                             have n0_ := q0 (Kd.R_below (ra q4.out) hb); have n1_ := q0 (Kd.R_below (ra q6.out) hb); have n2_ := q0 (Kd.R_below (ra q2.out) hb); have n3_ := q0 (bb q1.out hb); have n4_ := q0 (bb q5.out hb); have n5_ := q0 (bb q7.out hb); have n6_ := q0 (bb q9.out hb); have n7_ := q0 (below_step (q3) hb); have n8_ := q0 (hbox); have n9_ := q0 ((by rw [hg]; exact (below_size (q3)) : w.heap.size ≤ qc)); have n10_ := q0 ((by rw [hg]; exact (below_size (q3)) : w.heap.size ≤ qc)); have n11_ := q0 ((by rw [hg]; exact Nat.ne_of_lt (bl q1.out) : qf ≠ qc)); have n12_ := q0 ((by rw [hg]; exact Nat.ne_of_gt (bl q1.out) : qc ≠ qf)); have n13_ := q0 ((by rw [hg]; exact Nat.ne_of_lt (bl q5.out) : qd ≠ qc)); have n14_ := q0 ((by rw [hg]; exact Nat.ne_of_gt (bl q5.out) : qc ≠ qd)); have n15_ := q0 ((by rw [hg]; exact Nat.ne_of_lt (bl q7.out) : qi ≠ qc)); have n16_ := q0 ((by rw [hg]; exact Nat.ne_of_gt (bl q7.out) : qc ≠ qi)); have n17_ := q0 ((by rw [hg]; exact Nat.ne_of_lt (bl q9.out) : qk ≠ qc)); have n18_ := q0 ((by rw [hg]; exact Nat.ne_of_gt (bl q9.out) : qc ≠ qk)); clear q4 q6 q2 q1 q5 q7 q9 HB; have q4 := n0_; have q6 := n1_; have q2 := n2_; have q1 := n3_; have q5 := n4_; have q7 := n5_; have q9 := n6_; have HB := n7_; have qm := n8_; have GW246 := n9_; have z0u := n10_; have qt := n11_; have z02 := n12_; have qz := n13_; have z03 := n14_; have z00 := n15_; have z04 := n16_; have z01 := n17_; have z05 := n18_; clear n0_ n1_ n2_ n3_ n4_ n5_ n6_ n7_ n8_ n9_ n10_ n11_ n12_ n13_ n14_ n15_ n16_ n17_ n18_ hb hbox hg
                             refine hK.out _ _ ⟨(blk_cell q1.out 0).trans rfl, (blk_cell q1.out 1).trans rfl⟩ (fun hHeld => ?_)
                             clear hK K
                             refine norm_ (a' := ?_) ?_ ?_
                             rotate_left
                             · show Act.put _ (some 15) _ = _
                               simp only [Act.put, List.setIfInBounds_toArray, List.set_cons_zero, List.set_cons_succ, i64_w, i32_w]
                               rfl
                             refine one_ (i := 1) (N := some 78) #[true, true, true, false, true, false, true, false] rfl rfl (one_of HT_.out (by kernel_rfl)) (by decide) (fun K hK => ?_)
                             refine goes_ Try.func22 (by kernel_rfl) rfl #[.slice A0 l0.length c0] (by rfl) rfl rfl ma ?_
                             with_reducible refine (laws_toIntS.calls kj26 _ _ l0 t235 _ ?side1 ?side2 A92.out).mono ?_
                             (case side1 => exact ca (Kd.C_below HR0.out HB.out))
                             (case side2 => exact HC0.out)
                             rintro e w138 ⟨v236, rfl, ho0, hb⟩
                             refine ⟨_, rfl, ?_⟩
                             have n0_ := q0 (Kd.R_elder' (ra q4.out) (Kd.R_base ho0) hb); have n1_ := q0 (Kd.R_elder' (ra q6.out) (Kd.R_base ho0) hb); have n2_ := q0 (Kd.R_elder' (ra q2.out) (Kd.R_base ho0) hb); have n3_ := q0 (Kd.R_lower (Kd.R_new' (Kd.R_new' (Kd.R_new' ho0 (Kd.R_lt (ra q4.out))) (Kd.R_lt (ra q6.out))) (Kd.R_lt (ra q2.out))) (below_size (q8))); have n4_ := q0 (bb q1.out hb); have n5_ := q0 (bb q5.out hb); have n6_ := q0 (bb q7.out hb); have n7_ := q0 (bb q9.out hb); have n8_ := q0 (bb qm.out hb); have n9_ := q0 (below_step (q8) hb); clear q4 q6 q2 q1 q5 q7 q9 qm HB; have q4 := n0_; have q6 := n1_; have q2 := n2_; have qh := n3_; have q1 := n4_; have q5 := n5_; have q7 := n6_; have q9 := n7_; have qm := n8_; have HB := n9_; clear n0_ n1_ n2_ n3_ n4_ n5_ n6_ n7_ n8_ n9_; (try clear hb); (try clear hb2); (try clear hk); (try clear hi); (try clear ho0)
                             refine hK.out _ _ ⟨(blk_cell q1.out 0).trans rfl, (blk_cell q1.out 1).trans rfl⟩ (fun hHeld => ?_)
                             clear hK K
                             refine norm_ (a' := ?_) ?_ ?_
                             rotate_left
                             · show Act.put _ (some 78) _ = _
                               simp only [Act.put, List.setIfInBounds_toArray, List.set_cons_zero, List.set_cons_succ, i64_w, i32_w]
                               rfl
                             refine one_ (i := 3) (N := some 80) #[true, true, true, true, true, false, true, false] rfl rfl (one_of HT_.out (by kernel_rfl)) (by decide) (fun K hK => ?_)
                             refine goes_ Try.func23 (by kernel_rfl) rfl #[.agg #[.slice A1_0 l1_0.length c1_0, .int .i64 a1_1]] (by rfl) rfl rfl ma ?_
                             with_reducible refine (laws_toFollower.calls kj26 _ _ l1_0 a1_1 t238 t241 _ ?side1 ?side2 A93.out).mono ?_
                             (case side1 => exact ca (Kd.C_below HR1_0.out HB.out))
                             (case side2 => exact HC1_0.out)
                             rintro e w139 ⟨v239, rfl, ho0, hb⟩
                             refine ⟨_, rfl, ?_⟩
                             have n0_ := q0 (Kd.R_elder' (ra q4.out) (Kd.R_base ho0) hb); have n1_ := q0 (Kd.R_elder' (ra q6.out) (Kd.R_base ho0) hb); have n2_ := q0 (Kd.R_elder' (ra q2.out) (Kd.R_base ho0) hb); have n3_ := q0 (Kd.R_elder' (ra qh.out) (Kd.R_base ho0) hb); have n4_ := q0 (Kd.R_lower (Kd.R_new' (Kd.R_new' (Kd.R_new' (Kd.R_new' ho0 (Kd.R_lt (ra q4.out))) (Kd.R_lt (ra q6.out))) (Kd.R_lt (ra q2.out))) (Kd.R_lt (ra qh.out))) (below_size (q8))); have n5_ := q0 (bb q1.out hb); have n6_ := q0 (bb q5.out hb); have n7_ := q0 (bb q7.out hb); have n8_ := q0 (bb q9.out hb); have n9_ := q0 (bb qm.out hb); have n10_ := q0 (below_step (q8) hb); clear q4 q6 q2 qh q1 q5 q7 q9 qm HB; have q4 := n0_; have q6 := n1_; have q2 := n2_; have qh := n3_; have qn := n4_; have q1 := n5_; have q5 := n6_; have q7 := n7_; have q9 := n8_; have qm := n9_; have HB := n10_; clear n0_ n1_ n2_ n3_ n4_ n5_ n6_ n7_ n8_ n9_ n10_; (try clear hb); (try clear hb2); (try clear hk); (try clear hi); (try clear ho0)
                             obtain ⟨z0k, z0l, eo140⟩ := Kd.R_slice qh.out
                             (first | subst eo140 | (injection eo140 with f1_ f2_ f3_; have f4_ := f1_.symm; have f5_ := f3_.symm; clear f1_ f2_ f3_; subst f4_; subst f5_))
                             obtain ⟨z0v, z0w, eo141⟩ := Kd.R_slice qn.out
                             (first | subst eo141 | (injection eo141 with f1_ f2_ f3_; have f4_ := f1_.symm; have f5_ := f3_.symm; clear f1_ f2_ f3_; subst f4_; subst f5_))
                             refine hK.out _ _ ⟨(blk_cell q1.out 0).trans rfl, (blk_cell q1.out 1).trans rfl⟩ (fun hHeld => ?_)
                             clear hK K
                             refine norm_ (a' := ?_) ?_ ?_
                             rotate_left
                             · show Act.put _ (some 80) _ = _
                               simp only [Act.put, List.setIfInBounds_toArray, List.set_cons_zero, List.set_cons_succ, i64_w, i32_w]
                               rfl
                             refine one_ (i := 5) (N := some 82) #[true, true, true, true, true, true, true, false] rfl rfl (one_of HT_.out (by kernel_rfl)) (by decide) (fun K hK => ?_)
                             refine goes_ Try.func28 (by kernel_rfl) rfl #[.slice z0k t235.length z0l, .agg #[.slice z0v t238.length z0w, .int .i64 t241], .int .i64 a2] (by rfl) rfl rfl ma ?_
                             with_reducible refine (impl_StepFollower.calls kj26 _ _ t235 _ _ t238 t241 a2 t242 t245 _ ?side1 ?side2 ?side3 ?side4 A94.out).mono ?_
                             (case side1 => exact ca (Kd.R_reads' qh.out).2.2)
                             (case side2 => exact (Kd.R_reads' qh.out).2.1)
                             (case side3 => exact ca (Kd.R_reads' qn.out).2.2)
                             (case side4 => exact (Kd.R_reads' qn.out).2.1)
                             rintro e w142 ⟨v243, rfl, ho0, hb⟩
                             refine ⟨_, rfl, ?_⟩
                             have n0_ := q0 (Kd.R_elder' (ra q4.out) (Kd.R_base ho0) hb); have n1_ := q0 (Kd.R_elder' (ra q6.out) (Kd.R_base ho0) hb); have n2_ := q0 (Kd.R_elder' (ra q2.out) (Kd.R_base ho0) hb); have n3_ := q0 (Kd.R_elder' (ra qh.out) (Kd.R_base ho0) hb); have n4_ := q0 (Kd.R_elder' (ra qn.out) (Kd.R_base ho0) hb); have n5_ := q0 (Kd.R_lower (Kd.R_new' (Kd.R_new' (Kd.R_new' (Kd.R_new' (Kd.R_new' ho0 (Kd.R_lt (ra q4.out))) (Kd.R_lt (ra q6.out))) (Kd.R_lt (ra q2.out))) (Kd.R_lt (ra qh.out))) (Kd.R_lt (ra qn.out))) (below_size (q8))); have n6_ := q0 (bb q1.out hb); have n7_ := q0 (bb q5.out hb); have n8_ := q0 (bb q7.out hb); have n9_ := q0 (bb q9.out hb); have n10_ := q0 (bb qm.out hb); have n11_ := q0 (below_step (q8) hb); clear q4 q6 q2 qh qn q1 q5 q7 q9 qm HB; have q4 := n0_; have q6 := n1_; have q2 := n2_; have qh := n3_; have qn := n4_; have z08 := n5_; have q1 := n6_; have q5 := n7_; have q7 := n8_; have q9 := n9_; have qm := n10_; have HB := n11_; clear n0_ n1_ n2_ n3_ n4_ n5_ n6_ n7_ n8_ n9_ n10_ n11_; (try clear hb); (try clear hb2); (try clear hk); (try clear hi); (try clear ho0)
                             refine hK.out _ _ ⟨(blk_cell q1.out 0).trans rfl, (blk_cell q1.out 1).trans rfl⟩ (fun hHeld => ?_)
                             clear hK K
                             refine norm_ (a' := ?_) ?_ ?_
                             rotate_left
                             · show Act.put _ (some 82) _ = _
                               simp only [Act.put, List.setIfInBounds_toArray, List.set_cons_zero, List.set_cons_succ, i64_w, i32_w]
                               rfl
                             exact norm_ (by simp only [putAll, Act.put, List.setIfInBounds_toArray, List.set_cons_zero, List.set_cons_succ]) (hCont (.slice z0k t235.length z0l, .slice z0v t238.length z0w, v243, qc) _ ⟨hHeld, (by refine ra ?_; exact Kd.R_mono qh.out (fun _ hk => ⟨hk.1.2, ⟨hk.2, ⟨hk.1.1.1.1.2, ⟨hk.1.1.1.2, hk.1.1.2⟩⟩⟩⟩)), (by refine ra ?_; exact Kd.R_mono qn.out (fun _ hk => ⟨hk.1.2, ⟨hk.2, ⟨hk.1.1.1.1.2, ⟨hk.1.1.1.2, hk.1.1.2⟩⟩⟩⟩)), (by refine ra ?_; exact Kd.R_mono z08.out (fun _ hk => ⟨hk.1.2, ⟨hk.2, ⟨hk.1.1.1.1.2, ⟨hk.1.1.1.2, hk.1.1.2⟩⟩⟩⟩)), (by refine ra ?_; exact Kd.R_mono q4.out (fun _ hk => ⟨hk.1.1.2, ⟨hk.1.2, ⟨hk.2, ⟨hk.1.1.1.1, hk.1.1.1.2⟩⟩⟩⟩)), (by refine ra ?_; exact Kd.R_mono q6.out (fun _ hk => ⟨hk.1.1.2, ⟨hk.1.2, ⟨hk.2, ⟨hk.1.1.1.1, hk.1.1.1.2⟩⟩⟩⟩)), (by refine ra ?_; exact Kd.R_mono q2.out (fun _ hk => ⟨hk.1.1.2, ⟨hk.1.2, ⟨hk.2, ⟨hk.1.1.1.1, hk.1.1.1.2⟩⟩⟩⟩)), (ba q1.out), (ba q5.out), (ba q7.out), (ba q9.out), (ba qm.out), GW246.out, z0u.out, qt.out, z02.out, qz.out, z03.out, z00.out, z04.out, z01.out, z05.out, (q8)⟩)
                         rintro ⟨v236, v239, v243, qc⟩ w143 ⟨hS_, h0_, h1_, h2_, h3_, h4_, h5_, h6_, h7_, h8_, h9_, h10_, h11_, h12_, h13_, h14_, h15_, h16_, h17_, h18_, h19_, h20_, h21_⟩
                         have n0_ : Aside0 (Kd.R (Kd.int .i64) 3 w143 w.heap.size (fun k_ => some k_ ≠ (v239 : Value).ownBlock ∧ some k_ ≠ (v243 : Value).ownBlock ∧ some k_ ≠ (.slice qv t199.length qu : Value).ownBlock ∧ some k_ ≠ (.slice qq t230.length qp : Value).ownBlock ∧ some k_ ≠ (.slice qs t212.length qr : Value).ownBlock) v236 t235) := ⟨h0_⟩
                         have n1_ : Aside0 (Kd.R (Kd.int .i64) 3 w143 w.heap.size (fun k_ => some k_ ≠ (v236 : Value).ownBlock ∧ some k_ ≠ (v243 : Value).ownBlock ∧ some k_ ≠ (.slice qv t199.length qu : Value).ownBlock ∧ some k_ ≠ (.slice qq t230.length qp : Value).ownBlock ∧ some k_ ≠ (.slice qs t212.length qr : Value).ownBlock) v239 t238) := ⟨h1_⟩
                         have n2_ : Aside0 (Kd.R (Kd.int .i64) 3 w143 w.heap.size (fun k_ => some k_ ≠ (v236 : Value).ownBlock ∧ some k_ ≠ (v239 : Value).ownBlock ∧ some k_ ≠ (.slice qv t199.length qu : Value).ownBlock ∧ some k_ ≠ (.slice qq t230.length qp : Value).ownBlock ∧ some k_ ≠ (.slice qs t212.length qr : Value).ownBlock) v243 t242) := ⟨h2_⟩
                         have n3_ : Aside0 (Kd.R (Kd.int .i64) 3 w143 w.heap.size (fun k_ => some k_ ≠ (v236 : Value).ownBlock ∧ some k_ ≠ (v239 : Value).ownBlock ∧ some k_ ≠ (v243 : Value).ownBlock ∧ some k_ ≠ (.slice qq t230.length qp : Value).ownBlock ∧ some k_ ≠ (.slice qs t212.length qr : Value).ownBlock) (.slice qv t199.length qu) t199) := ⟨h3_⟩
                         have n4_ : Aside0 (Kd.R (Kd.int .i64) 3 w143 w.heap.size (fun k_ => some k_ ≠ (v236 : Value).ownBlock ∧ some k_ ≠ (v239 : Value).ownBlock ∧ some k_ ≠ (v243 : Value).ownBlock ∧ some k_ ≠ (.slice qv t199.length qu : Value).ownBlock ∧ some k_ ≠ (.slice qs t212.length qr : Value).ownBlock) (.slice qq t230.length qp) t230) := ⟨h4_⟩
                         have n5_ : Aside0 (Kd.R (Kd.int .i64) 3 w143 w.heap.size (fun k_ => some k_ ≠ (v236 : Value).ownBlock ∧ some k_ ≠ (v239 : Value).ownBlock ∧ some k_ ≠ (v243 : Value).ownBlock ∧ some k_ ≠ (.slice qv t199.length qu : Value).ownBlock ∧ some k_ ≠ (.slice qq t230.length qp : Value).ownBlock) (.slice qs t212.length qr) t233) := ⟨h5_⟩
                         have n6_ : Aside0 (w143.heap[qf]? = some (.cells #[.slice A1_0 l1_0.length c1_0, .int .i64 a1_1] 31 (0, 0))) := ⟨h6_⟩
                         have n7_ : Aside0 (w143.heap[qd]? = some (.cells #[.slice qv t199.length qu, .int .i64 t202] 35 (0, 0))) := ⟨h7_⟩
                         have n8_ : Aside0 (w143.heap[qi]? = some (.cells #[.slice qq t230.length qp, .int .i64 t210] 35 (0, 0))) := ⟨h8_⟩
                         have n9_ : Aside0 (w143.heap[qk]? = some (.cells #[.slice qs t212.length qr, .int .i64 t215] 35 (0, 0))) := ⟨h9_⟩
                         have n10_ : Aside0 (w143.heap[qc]? = some (.cells #[.slice none 0 0, .int .i64 0] 35 (0, 0))) := ⟨h10_⟩
                         have n11_ : Aside0 (w.heap.size ≤ qc) := ⟨h11_⟩
                         have n12_ : Aside0 (w.heap.size ≤ qc) := ⟨h12_⟩
                         have n13_ : Aside0 (qf ≠ qc) := ⟨h13_⟩
                         have n14_ : Aside0 (qc ≠ qf) := ⟨h14_⟩
                         have n15_ : Aside0 (qd ≠ qc) := ⟨h15_⟩
                         have n16_ : Aside0 (qc ≠ qd) := ⟨h16_⟩
                         have n17_ : Aside0 (qi ≠ qc) := ⟨h17_⟩
                         have n18_ : Aside0 (qc ≠ qi) := ⟨h18_⟩
                         have n19_ : Aside0 (qk ≠ qc) := ⟨h19_⟩
                         have n20_ : Aside0 (qc ≠ qk) := ⟨h20_⟩
                         have n21_ : Aside0 (Below w.heap.size w w143) := ⟨h21_⟩
                         clear q4 q6 q2 q1 q5 q7 q9 HB h0_ h1_ h2_ h3_ h4_ h5_ h6_ h7_ h8_ h9_ h10_ h11_ h12_ h13_ h14_ h15_ h16_ h17_ h18_ h19_ h20_ h21_; have qh := n0_; have qn := n1_; have z08 := n2_; have q4 := n3_; have q6 := n4_; have q2 := n5_; have q1 := n6_; have q5 := n7_; have q7 := n8_; have q9 := n9_; have qm := n10_; have GW246 := n11_; have z0u := n12_; have qt := n13_; have z02 := n14_; have qz := n15_; have z03 := n16_; have z00 := n17_; have z04 := n18_; have z01 := n19_; have z05 := n20_; have HB := n21_; clear n0_ n1_ n2_ n3_ n4_ n5_ n6_ n7_ n8_ n9_ n10_ n11_ n12_ n13_ n14_ n15_ n16_ n17_ n18_ n19_ n20_ n21_
                         have hHeld : w143.cell? ⟨qf, 0, none⟩ = some (.slice A1_0 l1_0.length c1_0) ∧ w143.cell? ⟨qf, 1, none⟩ = some (.int .i64 a1_1) := hS_
                         obtain ⟨z0j, z0i, eo144⟩ := Kd.R_slice z08.out
                         (first | subst eo144 | (injection eo144 with f1_ f2_ f3_; have f4_ := f1_.symm; have f5_ := f3_.symm; clear f1_ f2_ f3_; subst f4_; subst f5_))
                         refine norm_ (a' := ?_) ?_ ?_
                         rotate_left
                         · simp only [putAll, Act.put, List.setIfInBounds_toArray, List.set_cons_zero, List.set_cons_succ]
                           rfl
                         refine one_ (i := 7) (N := none) #[true, true, true, true, true, true, true, true] rfl rfl (one_of HT_.out (by kernel_rfl)) (by decide) (fun K hK => ?_)
                         have hs145 : w143.cell? ⟨qc, 0, none⟩ = some (.slice none 0 0) := (blk_cell qm.out 0).trans rfl
                         have hfs145 := blk_frozen qm.out 0
                         have hns145_0 := qt.out
                         have hns145_1 := qz.out
                         have hns145_2 := z00.out
                         have hns145_3 := z01.out
                         have hms145_0 := z02.out
                         have hms145_1 := z03.out
                         have hms145_2 := z04.out
                         have hms145_3 := z05.out
                         have hs146 : w143.cell? ⟨qc, 1, none⟩ = some (.int .i64 0) := (blk_cell qm.out 1).trans rfl
                         have hfs146 := blk_frozen qm.out 1
                         have hns146_0 := qt.out
                         have hns146_1 := qz.out
                         have hns146_2 := z00.out
                         have hns146_3 := z01.out
                         have hms146_0 := z02.out
                         have hms146_1 := z03.out
                         have hms146_2 := z04.out
                         have hms146_3 := z05.out
                         refine skip_ (w1 := ?_) (by rfl) rfl ?_ ?_
                         rotate_left
                         · go_simp
                           rfl
                         refine hK.out _ _ ⟨((cell_far (p := ⟨qc, _, none⟩) qt.out _).trans (((cell_far (p := ⟨qc, _, none⟩) qt.out _).trans (hHeld.1)))), ((cell_far (p := ⟨qc, _, none⟩) qt.out _).trans (((cell_far (p := ⟨qc, _, none⟩) qt.out _).trans (hHeld.2))))⟩ (fun hHeld => ?_)
                         clear hK K
                         refine done_ (done_of HT_.out (by kernel_rfl)) ?_
                         have hnb147 := z02.out
                         have hnc147 := qt.out
                         have hnb148 := z03.out
                         have hnc148 := qz.out
                         have hnb149 := z04.out
                         have hnc149 := z00.out
                         have hnb150 := z05.out
                         have hnc150 := z01.out
                         have hcz151_0 : w143.cell? ⟨qc, 0, none⟩ = some (.slice none 0 0) := (blk_cell qm.out 0).trans rfl
                         have hcz151_1 : w143.cell? ⟨qc, 1, none⟩ = some (.int .i64 0) := (blk_cell qm.out 1).trans rfl
                         have hfz151_0 := blk_frozen qm.out 0
                         have hfz151_1 := blk_frozen qm.out 1
                         have hnb152 := qy.out
                         have hnc152 := qo.out
                         have hnb153 := z0c.out
                         have hnc153 := z0n.out
                         have hcz154_0 : w143.cell? ⟨qd, 0, none⟩ = some (.slice qv t199.length qu) := (blk_cell q5.out 0).trans rfl
                         have hcz154_1 : w143.cell? ⟨qd, 1, none⟩ = some (.int .i64 t202) := (blk_cell q5.out 1).trans rfl
                         have hfz154_0 := blk_frozen q5.out 0
                         have hfz154_1 := blk_frozen q5.out 1
                         try go_wp2_with (first | ((with_reducible refine gate_callee (f := 26) rfl ?_); refine goesL_ (some 85) rfl rfl Try.func26 (by kernel_rfl) rfl #[.agg #[.slice z0j t242.length z0i, .int .i64 t245], .agg #[.slice qv t199.length qu, .int .i64 t202]] rfl ma ?_; (with_reducible refine (laws_eqFollower.calls kj26 _ _ t242 t245 _ _ t199 t202 true _ ?side1 ?side2 ?side3 ?side4 A95.out).mono ?_); (case side1 => refine (Kd.R_reads' (e := 3) (base := w.heap.size) (ok := fun k_ => (some k_ ≠ (v236 : Value).ownBlock ∧ (some k_ ≠ (v239 : Value).ownBlock ∧ (some k_ ≠ (.slice qv t199.length qu : Value).ownBlock ∧ (some k_ ≠ (.slice qq t230.length qp : Value).ownBlock ∧ some k_ ≠ (.slice qs t212.length qr : Value).ownBlock))))) (n := t242.length) (c := z0i) ?_).2.2; exact (by refine ra ?_; exact (Kd.R_mono (Kd.R_far (p := ⟨qc, 1, none⟩) (Kd.R_far (p := ⟨qc, 0, none⟩) (Kd.R_types z08.out qm.out (by decide)) (fun _ hk => hk.2) (.slice z0j t242.length z0i)) (fun _ hk => hk.2) (.int .i64 t245)) (fun _ h_ => h_.1)))); (case side2 => exact (Kd.R_reads' z08.out).2.1); (case side3 => refine (Kd.R_reads' (e := 3) (base := w.heap.size) (ok := fun k_ => (some k_ ≠ (v236 : Value).ownBlock ∧ (some k_ ≠ (v239 : Value).ownBlock ∧ (some k_ ≠ (.slice z0j t242.length z0i : Value).ownBlock ∧ (some k_ ≠ (.slice qq t230.length qp : Value).ownBlock ∧ some k_ ≠ (.slice qs t212.length qr : Value).ownBlock))))) (n := t199.length) (c := qu) ?_).2.2; exact (by refine ra ?_; exact (Kd.R_mono (Kd.R_far (p := ⟨qc, 1, none⟩) (Kd.R_far (p := ⟨qc, 0, none⟩) (Kd.R_types q4.out qm.out (by decide)) (fun _ hk => hk.2) (.slice z0j t242.length z0i)) (fun _ hk => hk.2) (.int .i64 t245)) (fun _ h_ => h_.1)))); (case side4 => exact (Kd.R_reads' q4.out).2.1); rintro e w155 ⟨rfl, hb⟩; refine ⟨_, rfl, ?_⟩; have n0_ := q0 (Kd.R_below (by refine ra ?_; exact (Kd.R_mono (Kd.R_far (p := ⟨qc, 1, none⟩) (Kd.R_far (p := ⟨qc, 0, none⟩) (Kd.R_types q4.out qm.out (by decide)) (fun _ hk => hk.2) (.slice z0j t242.length z0i)) (fun _ hk => hk.2) (.int .i64 t245)) (fun _ h_ => h_.1))) hb); have n1_ := q0 (Kd.R_below (by refine ra ?_; exact (Kd.R_mono (Kd.R_far (p := ⟨qc, 1, none⟩) (Kd.R_far (p := ⟨qc, 0, none⟩) (Kd.R_types q6.out qm.out (by decide)) (fun _ hk => hk.2) (.slice z0j t242.length z0i)) (fun _ hk => hk.2) (.int .i64 t245)) (fun _ h_ => h_.1))) hb); have n2_ := q0 (Kd.R_below (by refine ra ?_; exact (Kd.R_mono (Kd.R_far (p := ⟨qc, 1, none⟩) (Kd.R_far (p := ⟨qc, 0, none⟩) (Kd.R_types q2.out qm.out (by decide)) (fun _ hk => hk.2) (.slice z0j t242.length z0i)) (fun _ hk => hk.2) (.int .i64 t245)) (fun _ h_ => h_.1))) hb); have n3_ := q0 (Kd.R_below (by refine ra ?_; exact (Kd.R_mono (Kd.R_far (p := ⟨qc, 1, none⟩) (Kd.R_far (p := ⟨qc, 0, none⟩) (Kd.R_types qh.out qm.out (by decide)) (fun _ hk => hk.2) (.slice z0j t242.length z0i)) (fun _ hk => hk.2) (.int .i64 t245)) (fun _ h_ => h_.1))) hb); have n4_ := q0 (Kd.R_below (by refine ra ?_; exact (Kd.R_mono (Kd.R_far (p := ⟨qc, 1, none⟩) (Kd.R_far (p := ⟨qc, 0, none⟩) (Kd.R_types qn.out qm.out (by decide)) (fun _ hk => hk.2) (.slice z0j t242.length z0i)) (fun _ hk => hk.2) (.int .i64 t245)) (fun _ h_ => h_.1))) hb); have n5_ := q0 (Kd.R_below (by refine ra ?_; exact (Kd.R_mono (Kd.R_far (p := ⟨qc, 1, none⟩) (Kd.R_far (p := ⟨qc, 0, none⟩) (Kd.R_types z08.out qm.out (by decide)) (fun _ hk => hk.2) (.slice z0j t242.length z0i)) (fun _ hk => hk.2) (.int .i64 t245)) (fun _ h_ => h_.1))) hb); have n6_ := q0 (blk_below (g := qf) (o := .cells #[.slice A1_0 l1_0.length c1_0, .int .i64 a1_1] 31 (0, 0)) (by refine ba ?_; refine blk_far ?_ qt.out _; refine ba ?_; refine blk_far ?_ qt.out _; refine ba ?_; exact q1.out) hb); have n7_ := q0 (blk_below (g := qd) (o := .cells #[.slice qv t199.length qu, .int .i64 t202] 35 (0, 0)) (by refine ba ?_; refine blk_far ?_ qz.out _; refine ba ?_; refine blk_far ?_ qz.out _; refine ba ?_; exact q5.out) hb); have n8_ := q0 (blk_below (g := qi) (o := .cells #[.slice qq t230.length qp, .int .i64 t210] 35 (0, 0)) (by refine ba ?_; refine blk_far ?_ z00.out _; refine ba ?_; refine blk_far ?_ z00.out _; refine ba ?_; exact q7.out) hb); have n9_ := q0 (blk_below (g := qk) (o := .cells #[.slice qs t212.length qr, .int .i64 t215] 35 (0, 0)) (by refine ba ?_; refine blk_far ?_ z01.out _; refine ba ?_; refine blk_far ?_ z01.out _; refine ba ?_; exact q9.out) hb); have n10_ := q0 (blk_below (g := qc) (o := .cells #[.slice z0j t242.length z0i, .int .i64 t245] 35 (0, 0)) (by refine ba ?_; refine blk_put (cs := #[.slice z0j t242.length z0i, .int .i64 0]) ?_ 1 _ rfl; refine ba ?_; refine blk_put (cs := #[.slice none 0 0, .int .i64 0]) ?_ 0 _ rfl; refine ba ?_; exact qm.out) hb); have n11_ := q0 (below_step (q8) hb); clear q4; clear q6; clear q2; clear qh; clear qn; clear z08; clear q1; clear q5; clear q7; clear q9; clear qm; clear HB; have q4 := n0_; have q6 := n1_; have q2 := n2_; have qh := n3_; have qn := n4_; have z08 := n5_; have q1 := n6_; have q5 := n7_; have q7 := n8_; have q9 := n9_; have qm := n10_; have HB := n11_; clear n0_ n1_ n2_ n3_ n4_ n5_ n6_ n7_ n8_ n9_ n10_ n11_; (try clear hb); (try clear hb2); (try clear hk); (try clear hi); have hcz156_0 : w155.cell? ⟨qk, 0, none⟩ = some (.slice qs t212.length qr) := (blk_cell q9.out 0).trans rfl; have hcz156_1 : w155.cell? ⟨qk, 1, none⟩ = some (.int .i64 t215) := (blk_cell q9.out 1).trans rfl; have hfz156_0 := blk_frozen q9.out 0; have hfz156_1 := blk_frozen q9.out 1) | ((with_reducible refine gate_callee (f := 31) rfl ?_); refine goesL_ (some 89) rfl rfl Try.func31 (by kernel_rfl) rfl #[.agg #[.slice qs t233.length qr, .int .i64 t215], .int .i64 1] rfl (by (try simp only [List.map_toArray, List.map_cons, List.map_nil]); first | done | (rw [show t233.length = t212.length from (Kd.R_reads' q2.out).1.symm] <;> rfl) | rfl | (simp only [List.length_drop, List.length_take]; rfl)) ?_; (with_reducible refine (laws_heldFollower.calls kj26 _ _ t233 t215 1 t248 _ ?side1 ?side2 A97.out).mono ?_); (case side1 => exact ca (Kd.R_reads' q2.out).2.2); (case side2 => rw [show t233.length = t212.length from (Kd.R_reads' q2.out).1.symm]; exact (Kd.R_reads' q2.out).2.1); rintro e w157 ⟨rfl, hb⟩; refine ⟨_, rfl, ?_⟩; have n0_ := q0 (Kd.R_below (ra q4.out) hb); have n1_ := q0 (Kd.R_below (ra q6.out) hb); have n2_ := q0 (Kd.R_below (ra q2.out) hb); have n3_ := q0 (Kd.R_below (ra qh.out) hb); have n4_ := q0 (Kd.R_below (ra qn.out) hb); have n5_ := q0 (Kd.R_below (ra z08.out) hb); have n6_ := q0 (bb q1.out hb); have n7_ := q0 (bb q5.out hb); have n8_ := q0 (bb q7.out hb); have n9_ := q0 (bb q9.out hb); have n10_ := q0 (bb qm.out hb); have n11_ := q0 (below_step (q8) hb); clear q4; clear q6; clear q2; clear qh; clear qn; clear z08; clear q1; clear q5; clear q7; clear q9; clear qm; clear HB; have q4 := n0_; have q6 := n1_; have q2 := n2_; have qh := n3_; have qn := n4_; have z08 := n5_; have q1 := n6_; have q5 := n7_; have q7 := n8_; have q9 := n9_; have qm := n10_; have HB := n11_; clear n0_ n1_ n2_ n3_ n4_ n5_ n6_ n7_ n8_ n9_ n10_ n11_; (try clear hb); (try clear hb2); (try clear hk); (try clear hi)))
                         go_ret
                         exact ⟨by first | rfl | (simp [errW_none, errW_some] <;> rfl) | (simp [*, errW_none, errW_some] <;> rfl), by exact (q8)⟩
                       · rw [if_neg c128] at H
                         have c128b0 : (t248 == t232) = false := beq_eq_false_iff_ne.mpr c128
                         have c128b1 : (t248 != t232) = true := bne_iff_ne.mpr c128
                         exact absurd H (by simp)
                   · replace c96 := Bool.eq_false_iff.mpr c96
                     subst c96
                     have H1 : (some false) = some true := by rw [if_neg (show ¬ (false = true) by decide)] at H; exact H
                     clear H
                     have H := H1
                     clear H1
                     exact absurd H (by simp)
                 · rw [if_neg c91] at H
                   have c91b0 : (t234 == t232) = false := beq_eq_false_iff_ne.mpr c91
                   have c91b1 : (t234 != t232) = true := bne_iff_ne.mpr c91
                   exact absurd H (by simp)
         · replace c24 := Bool.eq_false_iff.mpr c24
           subst c24
           have H1 : (some false) = some true := by rw [if_neg (show ¬ (false = true) by decide)] at H; exact H
           clear H
           have H := H1
           clear H1
           exact absurd H (by simp)
       · replace c21 := Bool.eq_false_iff.mpr c21
         subst c21
         have H1 : (some false) = some true := by rw [if_neg (show ¬ (false = true) by decide)] at H; exact H
         clear H
         have H := H1
         clear H1
         exact absurd H (by simp)
     · replace c18 := Bool.eq_false_iff.mpr c18
       subst c18
       have H1 : (some false) = some true := by rw [if_neg (show ¬ (false = true) by decide)] at H; exact H
       clear H
       have H := H1
       clear H1
       exact absurd H (by simp)
end Go.Proofs.Ytnaoogkklkhpnaa.PFnExactStepFollower
