-- Written for this claim by a program of this repository (wip/tools/print2.py), out of the translation; Lean checks it.
import Derived.Test.YtnaoogkklkhpnaaPFnExactHearAllx0
import Derived.Test.YtnaoogkklkhpnaaPFnExactHearAllx1
import Derived.Test.YtnaoogkklkhpnaaPFnExactHearAllx5
import Derived.Test.YtnaoogkklkhpnaaPFnExactHearAllx7
namespace Go.Proofs.Ytnaoogkklkhpnaa.PFnExactHearAll
open Go.RowKit Go.Proofs.YtnaoogkklkhpnaaW.PrintWords Go.Proofs.YtnaoogkklkhpnaaW.PrintLast Go.Proofs.YtnaoogkklkhpnaaW.PrintMore
attribute [local go_sem] max2_int min2_int max_two min_two max_three min_three max_four min_four   -- for this text's walks alone
set_option linter.unusedVariables false
set_option linter.unusedSimpArgs false

/-! ### laws_FnExactHearAll: function 8 -/
def laws_FnExactHearAll.j0 : Nat → List Int → List Int → Bool → List Int → Int → List Int → Int → List Int → Int → Option (Bool)
  | 0, _, _, _, _, _, _, _, _, _ => none
  | k + 1, x0, x2, x80, x214000, x214001, x230000, x230001, x246000, x246001 => if x80 = true then (some false) else ((laws_markFollower.f k x246000 x246001 1).bind fun bt267 => ((laws_heldFollower.f k bt267.2 x246001 1).bind fun t269 => (if t269 < 0 then (some false) else (if t269 = bt267.1 then ((laws_toIntS.f k x0).bind fun t270 => ((laws_toFollower.f k x214000 x214001).bind fun bt273 => ((laws_toIntS.f k x2).bind fun t277 => ((impl_HearAll.f k t270 bt273.1 bt273.2 t277).bind fun bt280 => ((laws_eqFollower.f k bt280.1 bt280.2 x230000 x230001).bind fun t285 => (if t285 = true then ((laws_heldFollower.f k bt267.2 x246001 1).bind fun t286 => (if t286 < 0 then (some false) else (if t286 = bt267.1 then (some true) else (some false)))) else (some false))))))) else (some false)))))
def laws_FnExactHearAll.f (k : Nat) (l0 : List Int) (l1_0 : List Int) (a1_1 : Int) (l2 : List Int) : Option (Bool) := if (l0.length : Int) > 1048576 then (some true) else (if (l2.length : Int) > 1048576 then (some true) else ((laws_szFollower.f l1_0 a1_1 1048576).bind fun t214 => (if t214 < 0 then (some true) else ((laws_toIntS.f k l0).bind fun t215 => ((laws_toFollower.f k l1_0 a1_1).bind fun bt218 => ((laws_toIntS.f k l2).bind fun t222 => ((spec_HearAll.f k t215 bt218.1 bt218.2 t222).bind fun bt225 => ((laws_toIntS.f k l0).bind fun t230 => ((laws_toFollower.f k l1_0 a1_1).bind fun bt233 => ((laws_toIntS.f k l2).bind fun t238 => ((impl_HearAll.f k t230 bt233.1 bt233.2 t238).bind fun bt241 => ((laws_eqFollower.f k bt241.1 bt241.2 bt225.1 bt225.2).bind fun t246 => (if t246 = true then ((laws_toIntS.f k l0).bind fun t247 => ((laws_eqIntS.f k t230 t247).bind fun t250 => (if t250 = true then ((laws_toFollower.f k l1_0 a1_1).bind fun bt251 => ((laws_eqFollower.f k bt233.1 bt233.2 bt251.1 bt251.2).bind fun t255 => (if t255 = true then ((laws_toIntS.f k l2).bind fun t256 => ((laws_eqIntS.f k t238 t256).bind fun t259 => (if t259 = true then ((laws_markIntS.f k t230 1).bind fun bt260 => ((laws_markFollower.f k bt233.1 bt233.2 bt260.1).bind fun bt262 => ((laws_markIntS.f k t238 bt262.1).bind fun bt264 => (if bt264.1 < 0 then (laws_FnExactHearAll.j0 k l0 l2 true l1_0 a1_1 bt225.1 bt225.2 bt241.1 bt241.2) else ((laws_eqFollower.f k bt241.1 bt241.2 bt225.1 bt225.2).bind fun t266 => (laws_FnExactHearAll.j0 k l0 l2 (!t266) l1_0 a1_1 bt225.1 bt225.2 bt241.1 bt241.2)))))) else (some false)))) else (some false)))) else (some false)))) else (some false))))))))))))))
theorem laws_FnExactHearAll.mono_l : ∀ k, (∀ y0 y1 y2 y3 y4 y5 y6 y7 y8, LeO (laws_FnExactHearAll.j0 k y0 y1 y2 y3 y4 y5 y6 y7 y8) (laws_FnExactHearAll.j0 (k + 1) y0 y1 y2 y3 y4 y5 y6 y7 y8))
  | 0 => fun _ _ _ _ _ _ _ _ _ r h => by simp [laws_FnExactHearAll.j0] at h
  | k + 1 => by
    have ih0 := laws_FnExactHearAll.mono_l k
    · intro y0 y1 y2 y3 y4 y5 y6 y7 y8
      unfold laws_FnExactHearAll.j0
      repeat' first
      | (with_reducible exact ih0 _ _ _ _ _ _ _ _ _)
      | (with_reducible exact impl_HearAll.mono _ _ _ _ _)
      | (with_reducible exact laws_eqFollower.mono _ _ _ _ _)
      | (with_reducible exact laws_eqIntS.mono _ _ _)
      | (with_reducible exact laws_heldFollower.mono _ _ _ _)
      | (with_reducible exact laws_markFollower.mono _ _ _ _)
      | (with_reducible exact laws_markIntS.mono _ _ _)
      | (with_reducible exact laws_toFollower.mono _ _ _)
      | (with_reducible exact laws_toIntS.mono _ _)
      | (with_reducible exact spec_HearAll.mono _ _ _ _ _)
      | (with_reducible exact LeO.refl _)
      | (with_reducible exact LeO.none _)
      | (with_reducible refine LeO.ite ?_ ?_)
      | (with_reducible refine LeO.bind ?_ (fun _ => ?_))
      | exact ih0 _ _ _ _ _ _ _ _ _
      | exact impl_HearAll.mono _ _ _ _ _
      | exact laws_eqFollower.mono _ _ _ _ _
      | exact laws_eqIntS.mono _ _ _
      | exact laws_heldFollower.mono _ _ _ _
      | exact laws_markFollower.mono _ _ _ _
      | exact laws_markIntS.mono _ _ _
      | exact laws_toFollower.mono _ _ _
      | exact laws_toIntS.mono _ _
      | exact spec_HearAll.mono _ _ _ _ _
      | exact LeO.none _
      | refine LeO.ite ?_ ?_
      | refine LeO.bind ?_ (fun _ => ?_)
theorem laws_FnExactHearAll.mono : ∀ a0 a1 a2 a3 k, LeO (laws_FnExactHearAll.f k a0 a1 a2 a3) (laws_FnExactHearAll.f (k + 1) a0 a1 a2 a3) := by
  intro a0 a1 a2 a3 k
  have ih0 := laws_FnExactHearAll.mono_l k
  unfold laws_FnExactHearAll.f
  repeat' first
      | (with_reducible exact ih0 _ _ _ _ _ _ _ _ _)
      | (with_reducible exact impl_HearAll.mono _ _ _ _ _)
      | (with_reducible exact laws_eqFollower.mono _ _ _ _ _)
      | (with_reducible exact laws_eqIntS.mono _ _ _)
      | (with_reducible exact laws_heldFollower.mono _ _ _ _)
      | (with_reducible exact laws_markFollower.mono _ _ _ _)
      | (with_reducible exact laws_markIntS.mono _ _ _)
      | (with_reducible exact laws_toFollower.mono _ _ _)
      | (with_reducible exact laws_toIntS.mono _ _)
      | (with_reducible exact spec_HearAll.mono _ _ _ _ _)
      | (with_reducible exact LeO.refl _)
      | (with_reducible exact LeO.none _)
      | (with_reducible refine LeO.ite ?_ ?_)
      | (with_reducible refine LeO.bind ?_ (fun _ => ?_))
      | exact ih0 _ _ _ _ _ _ _ _ _
      | exact impl_HearAll.mono _ _ _ _ _
      | exact laws_eqFollower.mono _ _ _ _ _
      | exact laws_eqIntS.mono _ _ _
      | exact laws_heldFollower.mono _ _ _ _
      | exact laws_markFollower.mono _ _ _ _
      | exact laws_markIntS.mono _ _ _
      | exact laws_toFollower.mono _ _ _
      | exact laws_toIntS.mono _ _
      | exact spec_HearAll.mono _ _ _ _ _
      | exact LeO.none _
      | refine LeO.ite ?_ ?_
      | refine LeO.bind ?_ (fun _ => ?_)
def laws_FnExactHearAll.T9 : Bool × List (List Nat × List Nat) := (true, [([], []), ([0], [0]), ([], []), ([2, 1], [2]), ([], []), ([4, 3], [4]), ([1, 3, 5, 5], [1, 3, 5]), ([], []), ([7, 6, 6, 0, 1, 2, 3, 4, 5, 6, 7], [6, 7])])
def laws_FnExactHearAll.B9 : List Nat := [0, 1, 0, 7, 0, 31, 63, 0, 255]
theorem laws_FnExactHearAll.tab9 : rtab .any (opsOf Try.f8 9) = laws_FnExactHearAll.T9 := by kernel_rfl
theorem laws_FnExactHearAll.bits9 : waitsOk laws_FnExactHearAll.T9.2 laws_FnExactHearAll.B9 = true := by kernel_rfl
def laws_FnExactHearAll.T36 : Bool × List (List Nat × List Nat) := (true, [([], []), ([0], [0]), ([], []), ([2, 1], [2]), ([], []), ([4, 3], [4]), ([1, 3, 5, 5], [1, 3, 5]), ([], []), ([7, 6, 6, 0, 1, 2, 3, 4, 5, 6, 7], [6, 7])])
def laws_FnExactHearAll.B36 : List Nat := [0, 1, 0, 7, 0, 31, 63, 0, 255]
theorem laws_FnExactHearAll.tab36 : rtab .any (opsOf Try.f8 36) = laws_FnExactHearAll.T36 := by kernel_rfl
theorem laws_FnExactHearAll.bits36 : waitsOk laws_FnExactHearAll.T36.2 laws_FnExactHearAll.B36 = true := by kernel_rfl
theorem ra {p q : Prop} (h : q) (f : q → p := by intro h_; (with_reducible repeat (first | apply Kd.R_alloc | apply Kd.R_drewN | apply Kd.R_drew)); exact h_) : p := f h
theorem ba {p q : Prop} (h : q) (f : q → p := by intro h_; (with_reducible repeat (first | refine blk_drewN ?_ _ | refine blk_drew ?_ | refine blk_alloc ?_ _)); exact h_) : p := f h
theorem hbz {p : Prop} (f : p := by repeat (first | (with_reducible first | exact HB.out | apply below_alloc | apply pw_below_drewN | apply below_drew1) | exact HB.out)) : p := f
theorem z02 {p : Prop} (f : p := by repeat (first | (with_reducible first | exact HB.out | apply below_alloc | apply pw_below_drewN | apply below_drew1 | refine below_set ?_ z1h.out) | exact HB.out)) : p := f
theorem qo {p : Prop} (f : p := by repeat (first | (with_reducible first | exact HB.out | apply below_alloc | apply pw_below_drewN | apply below_drew1 | refine below_set ?_ z1h.out | refine below_set ?_ z0m.out) | exact HB.out)) : p := f
theorem z09 {p : Prop} (f : p := by repeat (first | (with_reducible first | exact HB.out | apply below_alloc | apply pw_below_drewN | apply below_drew1 | refine below_set ?_ z1h.out | refine below_set ?_ z0m.out | refine below_set ?_ z1t.out) | exact HB.out)) : p := f
theorem q3 {p : Prop} (f : p := by repeat (first | (with_reducible first | exact HB.out | apply below_alloc | apply pw_below_drewN | apply below_drew1 | refine below_set ?_ z1h.out | refine below_set ?_ z0m.out | refine below_set ?_ z1t.out | refine below_set ?_ z1u.out) | exact HB.out)) : p := f
theorem qc {p : Prop} (f : p := by repeat (first | (with_reducible first | exact HB.out | apply below_alloc | apply pw_below_drewN | apply below_drew1 | refine below_set ?_ z1h.out | refine below_set ?_ z0m.out | refine below_set ?_ z1t.out | refine below_set ?_ z1u.out | refine below_set ?_ z0n.out) | exact HB.out)) : p := f
theorem pa {p : Prop} (f : p := by first | (simp only [putAll, Act.put, List.setIfInBounds_toArray, List.set_cons_zero, List.set_cons_succ]; done) | (simp only [putAll, Act.put, List.setIfInBounds_toArray, List.set_cons_zero, List.set_cons_succ]; rfl)) : p := f
theorem ma {p : Prop} (f : p := by (try simp only [List.map_toArray, List.map_cons, List.map_nil]); first | done | rfl | (simp only [List.length_drop, List.length_take]; rfl)) : p := f
theorem ca {p q : Prop} (h : q) (f : q → p := by intro h_; repeat (first | exact h_ | (with_reducible refine Kd.C_alloc ?_ _) | (with_reducible refine Kd.C_drewN ?_ _) | (with_reducible refine Kd.C_drew ?_))) : p := f h
theorem bb {w w1 : World} {g : Nat} {o : Obj} {q : Prop} (h : q) (hb : Below w.heap.size w w1) (f : q → w.heap[g]? = some o := by intro h_; (with_reducible repeat (first | refine blk_drewN ?_ _ | refine blk_drew ?_ | refine blk_alloc ?_ _)); exact h_) : w1.heap[g]? = some o := blk_below (f h) hb
theorem bl {w : World} {g : Nat} {o : Obj} {q : Prop} (h : q) (f : q → w.heap[g]? = some o := by intro h_; (with_reducible repeat (first | refine blk_drewN ?_ _ | refine blk_drew ?_ | refine blk_alloc ?_ _)); exact h_) : g < w.heap.size := blk_lt (f h)
theorem pq {P Q : Prop} (h : P) (f : P → Q := by intro h_; (try dsimp only at h_); (try dsimp only); simp only [h_, ne_eq, not_false_eq_true]) : Q := f h
theorem pk {P Q : Nat → Prop} (f : ∀ k_, P k_ → Q k_ := by intro k_ h_; (try dsimp only at h_); (try dsimp only); (repeat' (apply And.intro)) <;> simp only [h_, ne_eq, not_false_eq_true, and_self]) : ∀ k_, P k_ → Q k_ := f
theorem q0 {p : Prop} (h : p) : Aside0 p := ⟨h⟩
set_option maxHeartbeats 8000000 in
set_option maxRecDepth 100000 in
theorem laws_FnExactHearAll.calls_true (k : Nat) (A0 : Option Addr) (c0 : Nat) (l0 : List Int) (A1_0 : Option Addr) (c1_0 : Nat) (l1_0 : List Int) (a1_1 : Int) (A2 : Option Addr) (c2 : Nat) (l2 : List Int) (w : World) (hr0 : Kd.C (Kd.int .i64) w A0 l0.length l0) (hc0 : l0.length ≤ c0) (hr1_0 : Kd.C (Kd.int .i64) w A1_0 l1_0.length l1_0) (hc1_0 : l1_0.length ≤ c1_0) (hr2 : Kd.C (Kd.int .i64) w A2 l2.length l2) (hc2 : l2.length ≤ c2) (h : laws_FnExactHearAll.f k l0 l1_0 a1_1 l2 = some true) :
 Calls Try.prog 8 #[.slice A0 l0.length c0, .agg #[.slice A1_0 l1_0.length c1_0, .int .i64 a1_1], .slice A2 l2.length c2] w fun e w' => e = .returned (.bool true) ∧ Below w.heap.size w w' := by
 have hu31 := Try.underlying31
 have hu35 := Try.underlying35
 have HR0 := q0 hr0
 have HC0 := q0 hc0
 clear hr0 hc0
 have HR1_0 := q0 hr1_0
 have HC1_0 := q0 hc1_0
 clear hr1_0 hc1_0
 have HR2 := q0 hr2
 have HC2 := q0 hc2
 clear hr2 hc2
 have HB := q0 (Below.refl w.heap.size w)
 have H : (if (l0.length : Int) > 1048576 then (some true) else (if (l2.length : Int) > 1048576 then (some true) else ((laws_szFollower.f l1_0 a1_1 1048576).bind fun t214 => (if t214 < 0 then (some true) else ((laws_toIntS.f k l0).bind fun t215 => ((laws_toFollower.f k l1_0 a1_1).bind fun bt218 => ((laws_toIntS.f k l2).bind fun t222 => ((spec_HearAll.f k t215 bt218.1 bt218.2 t222).bind fun bt225 => ((laws_toIntS.f k l0).bind fun t230 => ((laws_toFollower.f k l1_0 a1_1).bind fun bt233 => ((laws_toIntS.f k l2).bind fun t238 => ((impl_HearAll.f k t230 bt233.1 bt233.2 t238).bind fun bt241 => ((laws_eqFollower.f k bt241.1 bt241.2 bt225.1 bt225.2).bind fun t246 => (if t246 = true then ((laws_toIntS.f k l0).bind fun t247 => ((laws_eqIntS.f k t230 t247).bind fun t250 => (if t250 = true then ((laws_toFollower.f k l1_0 a1_1).bind fun bt251 => ((laws_eqFollower.f k bt233.1 bt233.2 bt251.1 bt251.2).bind fun t255 => (if t255 = true then ((laws_toIntS.f k l2).bind fun t256 => ((laws_eqIntS.f k t238 t256).bind fun t259 => (if t259 = true then ((laws_markIntS.f k t230 1).bind fun bt260 => ((laws_markFollower.f k bt233.1 bt233.2 bt260.1).bind fun bt262 => ((laws_markIntS.f k t238 bt262.1).bind fun bt264 => (if bt264.1 < 0 then (laws_FnExactHearAll.j0 k l0 l2 true l1_0 a1_1 bt225.1 bt225.2 bt241.1 bt241.2) else ((laws_eqFollower.f k bt241.1 bt241.2 bt225.1 bt225.2).bind fun t266 => (laws_FnExactHearAll.j0 k l0 l2 (!t266) l1_0 a1_1 bt225.1 bt225.2 bt241.1 bt241.2)))))) else (some false)))) else (some false)))) else (some false)))) else (some false))))))))))))))) = some true := h
 clear h
 by_cases c4 : (l0.length : Int) > 1048576
 · rw [if_pos c4] at H
   have c4b0 : decide (1048576 < (l0.length : Int)) = true := decide_eq_true c4
   have c4b1 : decide (1048576 < l0.length) = true := decide_eq_true (by omega)
   clear c4 H
   go_enter Try.func8, Try.ntmps8
   go_wp2_with (first | ((with_reducible refine gate_dst (N := 4) rfl ?_); refine box_event ?hg (N := 4) ?hd (cs := #[.slice A1_0 l1_0.length c1_0, .int .i64 a1_1]) (t := 31) ?hr ?_; (case hd => rfl); (case hg => rfl); (case hr => first | (go_simp; done) | (go_simp; rfl)); intro q7 hg w5 hbox hb; have n0_ := q0 (below_step (hbz) hb); have n1_ := q0 (hbox); have n2_ := q0 ((by rw [hg]; exact (below_size (hbz)) : w.heap.size ≤ q7)); have n3_ := q0 ((by rw [hg]; exact (below_size (hbz)) : w.heap.size ≤ q7)); clear HB; have HB := n0_; have q1 := n1_; have GW213 := n2_; have z1h := n3_; clear n0_ n1_ n2_ n3_; clear hb hbox hg))
   go_ret
   exact ⟨by first | rfl | (simp [errW_none, errW_some] <;> rfl) | (simp [*, errW_none, errW_some] <;> rfl), by exact (z02)⟩
 · rw [if_neg c4] at H
   have c4b0 : decide (1048576 < (l0.length : Int)) = false := decide_eq_false c4
   have c4b1 : decide (1048576 < l0.length) = false := decide_eq_false (by omega)
   clear c4
   by_cases c6 : (l2.length : Int) > 1048576
   · rw [if_pos c6] at H
     have c6b0 : decide (1048576 < (l2.length : Int)) = true := decide_eq_true c6
     have c6b1 : decide (1048576 < l2.length) = true := decide_eq_true (by omega)
     clear c6 H
     go_enter Try.func8, Try.ntmps8
     go_wp2_with (first | ((with_reducible refine gate_dst (N := 4) rfl ?_); refine box_event ?hg (N := 4) ?hd (cs := #[.slice A1_0 l1_0.length c1_0, .int .i64 a1_1]) (t := 31) ?hr ?_; (case hd => rfl); (case hg => rfl); (case hr => first | (go_simp; done) | (go_simp; rfl)); intro q7 hg w7 hbox hb; have n0_ := q0 (below_step (hbz) hb); have n1_ := q0 (hbox); have n2_ := q0 ((by rw [hg]; exact (below_size (hbz)) : w.heap.size ≤ q7)); have n3_ := q0 ((by rw [hg]; exact (below_size (hbz)) : w.heap.size ≤ q7)); clear HB; have HB := n0_; have q1 := n1_; have GW213 := n2_; have z1h := n3_; clear n0_ n1_ n2_ n3_; clear hb hbox hg))
     go_ret
     exact ⟨by first | rfl | (simp [errW_none, errW_some] <;> rfl) | (simp [*, errW_none, errW_some] <;> rfl), by exact (z02)⟩
   · rw [if_neg c6] at H
     have c6b0 : decide (1048576 < (l2.length : Int)) = false := decide_eq_false c6
     have c6b1 : decide (1048576 < l2.length) = false := decide_eq_false (by omega)
     clear c6
     replace H := Option.bind_eq_some_iff.mp H
     obtain ⟨t214, A80, H⟩ := H
     try dsimp only at H
     have A8 := q0 A80
     clear A80
     by_cases c9 : t214 < 0
     · rw [if_pos c9] at H
       have c9b0 : decide (t214 < 0) = true := decide_eq_true c9
       clear c9 H
       go_enter Try.func8, Try.ntmps8
       go_wp2_with (first | ((with_reducible refine gate_dst (N := 4) rfl ?_); refine box_event ?hg (N := 4) ?hd (cs := #[.slice A1_0 l1_0.length c1_0, .int .i64 a1_1]) (t := 31) ?hr ?_; (case hd => rfl); (case hg => rfl); (case hr => first | (go_simp; done) | (go_simp; rfl)); intro q7 hg w10 hbox hb; have n0_ := q0 (below_step (hbz) hb); have n1_ := q0 (hbox); have n2_ := q0 ((by rw [hg]; exact (below_size (hbz)) : w.heap.size ≤ q7)); have n3_ := q0 ((by rw [hg]; exact (below_size (hbz)) : w.heap.size ≤ q7)); clear HB; have HB := n0_; have q1 := n1_; have GW213 := n2_; have z1h := n3_; clear n0_ n1_ n2_ n3_; clear hb hbox hg; have hcz11_0 : w10.cell? ⟨q7, 0, none⟩ = some (.slice A1_0 l1_0.length c1_0) := (blk_cell q1.out 0).trans rfl; have hcz11_1 : w10.cell? ⟨q7, 1, none⟩ = some (.int .i64 a1_1) := (blk_cell q1.out 1).trans rfl; have hfz11_0 := blk_frozen q1.out 0; have hfz11_1 := blk_frozen q1.out 1) | ((with_reducible refine gate_callee (f := 20) rfl ?_); refine goesL_ (some 25) rfl rfl Try.func20 (by kernel_rfl) rfl #[.agg #[.slice A1_0 l1_0.length c1_0, .int .i64 a1_1], .int .i64 1048576] rfl ma ?_; (with_reducible refine (laws_szFollower.calls _ _ l1_0 a1_1 1048576 t214 _ ?side1 ?side2 A8.out).mono ?_); (case side1 => exact ca (Kd.C_below HR1_0.out HB.out)); (case side2 => exact HC1_0.out); rintro e w12 ⟨rfl, hb⟩; refine ⟨_, rfl, ?_⟩; have n0_ := q0 (bb q1.out hb); have n1_ := q0 (below_step (z02) hb); clear q1; clear HB; have q1 := n0_; have HB := n1_; clear n0_ n1_; (try clear hb); (try clear hb2); (try clear hk); (try clear hi)))
       go_ret
       exact ⟨by first | rfl | (simp [errW_none, errW_some] <;> rfl) | (simp [*, errW_none, errW_some] <;> rfl), by exact (z02)⟩
     · rw [if_neg c9] at H
       have c9b0 : decide (t214 < 0) = false := decide_eq_false c9
       clear c9
       replace H := Option.bind_eq_some_iff.mp H
       obtain ⟨t215, A130, H⟩ := H
       try dsimp only at H
       have A13 := q0 A130
       clear A130
       replace H := Option.bind_eq_some_iff.mp H
       obtain ⟨⟨t218, t221⟩, A140, H⟩ := H
       try dsimp only at H
       have A14 := q0 A140
       clear A140
       replace H := Option.bind_eq_some_iff.mp H
       obtain ⟨t222, A150, H⟩ := H
       try dsimp only at H
       have A15 := q0 A150
       clear A150
       replace H := Option.bind_eq_some_iff.mp H
       obtain ⟨⟨t225, t228⟩, A160, H⟩ := H
       try dsimp only at H
       have A16 := q0 A160
       clear A160
       replace H := Option.bind_eq_some_iff.mp H
       obtain ⟨t230, A170, H⟩ := H
       try dsimp only at H
       have A17 := q0 A170
       clear A170
       replace H := Option.bind_eq_some_iff.mp H
       obtain ⟨⟨t233, t236⟩, A180, H⟩ := H
       try dsimp only at H
       have A18 := q0 A180
       clear A180
       replace H := Option.bind_eq_some_iff.mp H
       obtain ⟨t238, A190, H⟩ := H
       try dsimp only at H
       have A19 := q0 A190
       clear A190
       replace H := Option.bind_eq_some_iff.mp H
       obtain ⟨⟨t241, t244⟩, A200, H⟩ := H
       try dsimp only at H
       have A20 := q0 A200
       clear A200
       replace H := Option.bind_eq_some_iff.mp H
       obtain ⟨t246, A210, H⟩ := H
       try dsimp only at H
       have A21 := q0 A210
       clear A210
       by_cases c22 : t246 = true
       · subst c22
         have H1 := H; rw [if_pos rfl] at H1
         clear H
         have H := H1
         clear H1
         replace H := Option.bind_eq_some_iff.mp H
         obtain ⟨t247, A230, H⟩ := H
         try dsimp only at H
         have A23 := q0 A230
         clear A230
         replace H := Option.bind_eq_some_iff.mp H
         obtain ⟨t250, A240, H⟩ := H
         try dsimp only at H
         have A24 := q0 A240
         clear A240
         by_cases c25 : t250 = true
         · subst c25
           have H1 := H; rw [if_pos rfl] at H1
           clear H
           have H := H1
           clear H1
           replace H := Option.bind_eq_some_iff.mp H
           obtain ⟨⟨t251, t254⟩, A260, H⟩ := H
           try dsimp only at H
           have A26 := q0 A260
           clear A260
           replace H := Option.bind_eq_some_iff.mp H
           obtain ⟨t255, A270, H⟩ := H
           try dsimp only at H
           have A27 := q0 A270
           clear A270
           by_cases c28 : t255 = true
           · subst c28
             have H1 := H; rw [if_pos rfl] at H1
             clear H
             have H := H1
             clear H1
             replace H := Option.bind_eq_some_iff.mp H
             obtain ⟨t256, A290, H⟩ := H
             try dsimp only at H
             have A29 := q0 A290
             clear A290
             replace H := Option.bind_eq_some_iff.mp H
             obtain ⟨t259, A300, H⟩ := H
             try dsimp only at H
             have A30 := q0 A300
             clear A300
             by_cases c31 : t259 = true
             · subst c31
               have H1 := H; rw [if_pos rfl] at H1
               clear H
               have H := H1
               clear H1
               replace H := Option.bind_eq_some_iff.mp H
               obtain ⟨⟨t260, t261⟩, A320, H⟩ := H
               try dsimp only at H
               have A32 := q0 A320
               clear A320
               replace H := Option.bind_eq_some_iff.mp H
               obtain ⟨⟨t262, t263⟩, A330, H⟩ := H
               try dsimp only at H
               have A33 := q0 A330
               clear A330
               replace H := Option.bind_eq_some_iff.mp H
               obtain ⟨⟨t264, t265⟩, A340, H⟩ := H
               try dsimp only at H
               have A34 := q0 A340
               clear A340
               have HC35 := q0 H
               clear H
               go_enter Try.func8, Try.ntmps8
               try go_wp2_with (first | ((with_reducible refine gate_dst (N := 4) rfl ?_); refine box_event ?hg (N := 4) ?hd (cs := #[.slice A1_0 l1_0.length c1_0, .int .i64 a1_1]) (t := 31) ?hr ?_; (case hd => rfl); (case hg => rfl); (case hr => first | (go_simp; done) | (go_simp; rfl)); intro q7 hg w36 hbox hb; have n0_ := q0 (below_step (hbz) hb); have n1_ := q0 (hbox); have n2_ := q0 ((by rw [hg]; exact (below_size (hbz)) : w.heap.size ≤ q7)); have n3_ := q0 ((by rw [hg]; exact (below_size (hbz)) : w.heap.size ≤ q7)); clear HB; have HB := n0_; have q1 := n1_; have GW213 := n2_; have z1h := n3_; clear n0_ n1_ n2_ n3_; clear hb hbox hg; have hcz37_0 : w36.cell? ⟨q7, 0, none⟩ = some (.slice A1_0 l1_0.length c1_0) := (blk_cell q1.out 0).trans rfl; have hcz37_1 : w36.cell? ⟨q7, 1, none⟩ = some (.int .i64 a1_1) := (blk_cell q1.out 1).trans rfl; have hfz37_0 := blk_frozen q1.out 0; have hfz37_1 := blk_frozen q1.out 1) | ((with_reducible refine gate_callee (f := 20) rfl ?_); refine goesL_ (some 25) rfl rfl Try.func20 (by kernel_rfl) rfl #[.agg #[.slice A1_0 l1_0.length c1_0, .int .i64 a1_1], .int .i64 1048576] rfl ma ?_; (with_reducible refine (laws_szFollower.calls _ _ l1_0 a1_1 1048576 t214 _ ?side1 ?side2 A8.out).mono ?_); (case side1 => exact ca (Kd.C_below HR1_0.out HB.out)); (case side2 => exact HC1_0.out); rintro e w38 ⟨rfl, hb⟩; refine ⟨_, rfl, ?_⟩; have n0_ := q0 (bb q1.out hb); have n1_ := q0 (below_step (z02) hb); clear q1; clear HB; have q1 := n0_; have HB := n1_; clear n0_ n1_; (try clear hb); (try clear hb2); (try clear hk); (try clear hi)))
               have n0_ := q0 (blk_drew q1.out); have n1_ := q0 (below_drew1 HB.out); clear q1 HB; have q1 := n0_; have HB := n1_; clear n0_ n1_
               refine start_ (n := 9) (S := fun w' => w'.cell? ⟨q7, 0, none⟩ = some (.slice A1_0 l1_0.length c1_0) ∧ w'.cell? ⟨q7, 1, none⟩ = some (.int .i64 a1_1)) (ds := []) #[false, false, false, false, false, false, false, false, false] (by kernel_rfl) rfl rfl ⟨(blk_cell q1.out 0).trans rfl, (blk_cell q1.out 1).trans rfl⟩ (fun hHeld => ?_); refine with_tabW laws_FnExactHearAll.tab9 laws_FnExactHearAll.bits9 (fun HT_ HW_ => ?_)
               generalize w38.drew = w39 at q1 HB hHeld ⊢
               refine pure_ (i := 0) (N := some 28) (v := ?_) (a' := ?_) #[true, false, false, false, false, false, false, false, false] rfl rfl (any_of HT_.out (by kernel_rfl)) (fun _ _ _ h => h) (Or.inl ⟨by rfl, ?_⟩) ?_ ?_
               rotate_left
               · intro w'
                 go_simp
                 with_reducible rfl
               rotate_left
               · simp only [Act.put, List.setIfInBounds_toArray, List.set_cons_zero, List.set_cons_succ, i64_w, i32_w]
                 rfl
               refine pure_ (i := 4) (N := some 32) (v := ?_) (a' := ?_) #[true, false, false, false, true, false, false, false, false] rfl rfl (any_of HT_.out (by kernel_rfl)) (fun _ _ _ h => h) (Or.inl ⟨by rfl, ?_⟩) ?_ ?_
               rotate_left
               · intro w'
                 go_simp
                 with_reducible rfl
               rotate_left
               · simp only [Act.put, List.setIfInBounds_toArray, List.set_cons_zero, List.set_cons_succ, i64_w, i32_w]
                 rfl
               refine take_ (i := 2) (N := some 30) (v := ?_) (a' := ?_) #[true, false, true, false, true, false, false, false, false] rfl rfl (take_ofW HT_.out HW_.out (by kernel_rfl)) (fun _ _ _ h => h) (Or.inl ⟨by rfl, ?_⟩) hHeld ?_ ?_
               rotate_left
               · rintro w' ⟨s0, s1⟩
                 go_simp
                 with_reducible rfl
               rotate_left
               · simp only [Act.put, List.setIfInBounds_toArray, List.set_cons_zero, List.set_cons_succ, i64_w, i32_w]
                 rfl
               refine join_ (σ := Value × Value × Value × Value × Nat) 1 #[true, true, true, true, true, true, true, true, false] (fun s_ => [(29, s_.1), (31, .agg #[s_.2.1, .int .i64 t221]), (33, s_.2.2.1), (34, .agg #[s_.2.2.2.1, .int .i64 t228]), (8, .pointer (some ⟨s_.2.2.2.2, 0, none⟩))]) (fun s_ w' => (w'.cell? ⟨q7, 0, none⟩ = some (.slice A1_0 l1_0.length c1_0) ∧ w'.cell? ⟨q7, 1, none⟩ = some (.int .i64 a1_1)) ∧ (Kd.R (Kd.int .i64) 3 w' w.heap.size (fun k_ => some k_ ≠ (s_.2.1 : Value).ownBlock ∧ some k_ ≠ (s_.2.2.1 : Value).ownBlock ∧ some k_ ≠ (s_.2.2.2.1 : Value).ownBlock) s_.1 t215) ∧ (Kd.R (Kd.int .i64) 3 w' w.heap.size (fun k_ => some k_ ≠ (s_.1 : Value).ownBlock ∧ some k_ ≠ (s_.2.2.1 : Value).ownBlock ∧ some k_ ≠ (s_.2.2.2.1 : Value).ownBlock) s_.2.1 t218) ∧ (Kd.R (Kd.int .i64) 3 w' w.heap.size (fun k_ => some k_ ≠ (s_.1 : Value).ownBlock ∧ some k_ ≠ (s_.2.1 : Value).ownBlock ∧ some k_ ≠ (s_.2.2.2.1 : Value).ownBlock) s_.2.2.1 t222) ∧ (Kd.R (Kd.int .i64) 3 w' w.heap.size (fun k_ => some k_ ≠ (s_.1 : Value).ownBlock ∧ some k_ ≠ (s_.2.1 : Value).ownBlock ∧ some k_ ≠ (s_.2.2.1 : Value).ownBlock) s_.2.2.2.1 t225) ∧ (w'.heap[q7]? = some (.cells #[.slice A1_0 l1_0.length c1_0, .int .i64 a1_1] 31 (0, 0))) ∧ (w'.heap[s_.2.2.2.2]? = some (.cells #[.slice none 0 0, .int .i64 0] 35 (0, 0))) ∧ (w.heap.size ≤ s_.2.2.2.2) ∧ (w.heap.size ≤ s_.2.2.2.2) ∧ (q7 ≠ s_.2.2.2.2) ∧ (s_.2.2.2.2 ≠ q7) ∧ (Below w.heap.size w w')) ?_ ?_
               rotate_left
               · intro z0p
                 refine join_ (σ := Value × Value × Value × Value) 2 #[true, true, true, true, true, true, true, false, false] (fun s_ => [(29, s_.1), (31, .agg #[s_.2.1, .int .i64 t221]), (33, s_.2.2.1), (34, .agg #[s_.2.2.2, .int .i64 t228])]) (fun s_ w' => (w'.cell? ⟨q7, 0, none⟩ = some (.slice A1_0 l1_0.length c1_0) ∧ w'.cell? ⟨q7, 1, none⟩ = some (.int .i64 a1_1)) ∧ (Kd.R (Kd.int .i64) 3 w' w.heap.size (fun k_ => some k_ ≠ (s_.2.1 : Value).ownBlock ∧ some k_ ≠ (s_.2.2.1 : Value).ownBlock ∧ some k_ ≠ (s_.2.2.2 : Value).ownBlock) s_.1 t215) ∧ (Kd.R (Kd.int .i64) 3 w' w.heap.size (fun k_ => some k_ ≠ (s_.1 : Value).ownBlock ∧ some k_ ≠ (s_.2.2.1 : Value).ownBlock ∧ some k_ ≠ (s_.2.2.2 : Value).ownBlock) s_.2.1 t218) ∧ (Kd.R (Kd.int .i64) 3 w' w.heap.size (fun k_ => some k_ ≠ (s_.1 : Value).ownBlock ∧ some k_ ≠ (s_.2.1 : Value).ownBlock ∧ some k_ ≠ (s_.2.2.2 : Value).ownBlock) s_.2.2.1 t222) ∧ (Kd.R (Kd.int .i64) 3 w' w.heap.size (fun k_ => some k_ ≠ (s_.1 : Value).ownBlock ∧ some k_ ≠ (s_.2.1 : Value).ownBlock ∧ some k_ ≠ (s_.2.2.1 : Value).ownBlock) s_.2.2.2 t225) ∧ (w'.heap[q7]? = some (.cells #[.slice A1_0 l1_0.length c1_0, .int .i64 a1_1] 31 (0, 0))) ∧ (Below w.heap.size w w')) ?_ ?_
                 rotate_left
                 · intro z0z
                   refine join_ (σ := Value × Value × Value × Nat) 2 #[true, true, true, true, true, true, false, true, false] (fun s_ => [(29, s_.1), (31, .agg #[s_.2.1, .int .i64 t221]), (33, s_.2.2.1), (8, .pointer (some ⟨s_.2.2.2, 0, none⟩))]) (fun s_ w' => (w'.cell? ⟨q7, 0, none⟩ = some (.slice A1_0 l1_0.length c1_0) ∧ w'.cell? ⟨q7, 1, none⟩ = some (.int .i64 a1_1)) ∧ (Kd.R (Kd.int .i64) 3 w' w.heap.size (fun k_ => some k_ ≠ (s_.2.1 : Value).ownBlock ∧ some k_ ≠ (s_.2.2.1 : Value).ownBlock) s_.1 t215) ∧ (Kd.R (Kd.int .i64) 3 w' w.heap.size (fun k_ => some k_ ≠ (s_.1 : Value).ownBlock ∧ some k_ ≠ (s_.2.2.1 : Value).ownBlock) s_.2.1 t218) ∧ (Kd.R (Kd.int .i64) 3 w' w.heap.size (fun k_ => some k_ ≠ (s_.1 : Value).ownBlock ∧ some k_ ≠ (s_.2.1 : Value).ownBlock) s_.2.2.1 t222) ∧ (w'.heap[q7]? = some (.cells #[.slice A1_0 l1_0.length c1_0, .int .i64 a1_1] 31 (0, 0))) ∧ (w'.heap[s_.2.2.2]? = some (.cells #[.slice none 0 0, .int .i64 0] 35 (0, 0))) ∧ (w.heap.size ≤ s_.2.2.2) ∧ (w.heap.size ≤ s_.2.2.2) ∧ (q7 ≠ s_.2.2.2) ∧ (s_.2.2.2 ≠ q7) ∧ (Below w.heap.size w w')) ?_ ?_
                   rotate_left
                   · intro z0s
                     refine join_ (σ := Value × Value × Value) 3 #[true, true, true, true, true, true, false, false, false] (fun s_ => [(29, s_.1), (31, .agg #[s_.2.1, .int .i64 t221]), (33, s_.2.2)]) (fun s_ w' => (w'.cell? ⟨q7, 0, none⟩ = some (.slice A1_0 l1_0.length c1_0) ∧ w'.cell? ⟨q7, 1, none⟩ = some (.int .i64 a1_1)) ∧ (Kd.R (Kd.int .i64) 3 w' w.heap.size (fun k_ => some k_ ≠ (s_.2.1 : Value).ownBlock ∧ some k_ ≠ (s_.2.2 : Value).ownBlock) s_.1 t215) ∧ (Kd.R (Kd.int .i64) 3 w' w.heap.size (fun k_ => some k_ ≠ (s_.1 : Value).ownBlock ∧ some k_ ≠ (s_.2.2 : Value).ownBlock) s_.2.1 t218) ∧ (Kd.R (Kd.int .i64) 3 w' w.heap.size (fun k_ => some k_ ≠ (s_.1 : Value).ownBlock ∧ some k_ ≠ (s_.2.1 : Value).ownBlock) s_.2.2 t222) ∧ (w'.heap[q7]? = some (.cells #[.slice A1_0 l1_0.length c1_0, .int .i64 a1_1] 31 (0, 0))) ∧ (Below w.heap.size w w')) ?_ ?_
                     rotate_left
                     · intro z19
                       refine join_ (σ := Value × Value × Nat) 3 #[true, true, true, true, true, false, false, true, false] (fun s_ => [(29, s_.1), (31, .agg #[s_.2.1, .int .i64 t221]), (8, .pointer (some ⟨s_.2.2, 0, none⟩))]) (fun s_ w' => (w'.cell? ⟨q7, 0, none⟩ = some (.slice A1_0 l1_0.length c1_0) ∧ w'.cell? ⟨q7, 1, none⟩ = some (.int .i64 a1_1)) ∧ (Kd.R (Kd.int .i64) 3 w' w.heap.size (fun k_ => some k_ ≠ (s_.2.1 : Value).ownBlock) s_.1 t215) ∧ (Kd.R (Kd.int .i64) 3 w' w.heap.size (fun k_ => some k_ ≠ (s_.1 : Value).ownBlock) s_.2.1 t218) ∧ (w'.heap[q7]? = some (.cells #[.slice A1_0 l1_0.length c1_0, .int .i64 a1_1] 31 (0, 0))) ∧ (w'.heap[s_.2.2]? = some (.cells #[.slice none 0 0, .int .i64 0] 35 (0, 0))) ∧ (w.heap.size ≤ s_.2.2) ∧ (w.heap.size ≤ s_.2.2) ∧ (q7 ≠ s_.2.2) ∧ (s_.2.2 ≠ q7) ∧ (Below w.heap.size w w')) ?_ ?_
                       rotate_left
                       · intro z0y
                         refine join_ (σ := Value × Value) 4 #[true, true, true, true, true, false, false, false, false] (fun s_ => [(29, s_.1), (31, .agg #[s_.2, .int .i64 t221])]) (fun s_ w' => (w'.cell? ⟨q7, 0, none⟩ = some (.slice A1_0 l1_0.length c1_0) ∧ w'.cell? ⟨q7, 1, none⟩ = some (.int .i64 a1_1)) ∧ (Kd.R (Kd.int .i64) 3 w' w.heap.size (fun k_ => some k_ ≠ (s_.2 : Value).ownBlock) s_.1 t215) ∧ (Kd.R (Kd.int .i64) 3 w' w.heap.size (fun k_ => some k_ ≠ (s_.1 : Value).ownBlock) s_.2 t218) ∧ (w'.heap[q7]? = some (.cells #[.slice A1_0 l1_0.length c1_0, .int .i64 a1_1] 31 (0, 0))) ∧ (Below w.heap.size w w')) ?_ ?_
                         rotate_left
                         · intro z1i
                           refine join_ (σ := Value × Nat) 4 #[true, true, true, false, true, false, false, true, false] (fun s_ => [(29, s_.1), (8, .pointer (some ⟨s_.2, 0, none⟩))]) (fun s_ w' => (w'.cell? ⟨q7, 0, none⟩ = some (.slice A1_0 l1_0.length c1_0) ∧ w'.cell? ⟨q7, 1, none⟩ = some (.int .i64 a1_1)) ∧ (Kd.R (Kd.int .i64) 3 w' w.heap.size (fun _ => True) s_.1 t215) ∧ (w'.heap[q7]? = some (.cells #[.slice A1_0 l1_0.length c1_0, .int .i64 a1_1] 31 (0, 0))) ∧ (w'.heap[s_.2]? = some (.cells #[.slice none 0 0, .int .i64 0] 35 (0, 0))) ∧ (w.heap.size ≤ s_.2) ∧ (w.heap.size ≤ s_.2) ∧ (q7 ≠ s_.2) ∧ (s_.2 ≠ q7) ∧ (Below w.heap.size w w')) ?_ ?_
                           rotate_left
                           · intro z1a
                             refine join_ (σ := Value) 5 #[true, true, true, false, true, false, false, false, false] (fun s_ => [(29, s_)]) (fun s_ w' => (w'.cell? ⟨q7, 0, none⟩ = some (.slice A1_0 l1_0.length c1_0) ∧ w'.cell? ⟨q7, 1, none⟩ = some (.int .i64 a1_1)) ∧ (Kd.R (Kd.int .i64) 3 w' w.heap.size (fun _ => True) s_ t215) ∧ (w'.heap[q7]? = some (.cells #[.slice A1_0 l1_0.length c1_0, .int .i64 a1_1] 31 (0, 0))) ∧ (Below w.heap.size w w')) ?_ ?_
                             rotate_left
                             · intro hJ1
                               refine join_ (σ := Nat) 5 #[true, false, true, false, true, false, false, true, false] (fun s_ => [(8, .pointer (some ⟨s_, 0, none⟩))]) (fun s_ w' => (w'.cell? ⟨q7, 0, none⟩ = some (.slice A1_0 l1_0.length c1_0) ∧ w'.cell? ⟨q7, 1, none⟩ = some (.int .i64 a1_1)) ∧ (w'.heap[q7]? = some (.cells #[.slice A1_0 l1_0.length c1_0, .int .i64 a1_1] 31 (0, 0))) ∧ (w'.heap[s_]? = some (.cells #[.slice none 0 0, .int .i64 0] 35 (0, 0))) ∧ (w.heap.size ≤ s_) ∧ (w.heap.size ≤ s_) ∧ (q7 ≠ s_) ∧ (s_ ≠ q7) ∧ (Below w.heap.size w w')) ?_ ?_
                               rotate_left
                               · intro hJ7
                                 refine two_ (i := 1) (j := 7) (Ni := some 29) (Nj := some 8) #[true, true, true, false, true, false, false, false, false] #[true, false, true, false, true, false, false, true, false] rfl rfl rfl rfl (two_of HT_.out (by kernel_rfl)) (by decide) (by decide) (fun K hK => ?_) (fun K hK => ?_)
                                 · skip
                                   refine goes_ Try.func22 (by kernel_rfl) rfl #[.slice A0 l0.length c0] (by rfl) rfl rfl ma ?_
                                   with_reducible refine (laws_toIntS.calls k _ _ l0 t215 _ ?side1 ?side2 A13.out).mono ?_
                                   (case side1 => exact ca (Kd.C_below HR0.out HB.out))
                                   (case side2 => exact HC0.out)
                                   rintro e w40 ⟨v216, rfl, ho0, hb⟩
                                   refine ⟨_, rfl, ?_⟩
                                   have n0_ := q0 (Kd.R_lower ho0 (below_size (z02))); have n1_ := q0 (bb q1.out hb); have n2_ := q0 (below_step (z02) hb); clear q1 HB; have qd := n0_; have q1 := n1_; have HB := n2_; clear n0_ n1_ n2_; (try clear hb); (try clear hb2); (try clear hk); (try clear hi); (try clear ho0)
                                   refine hK.out _ _ ⟨(blk_cell q1.out 0).trans rfl, (blk_cell q1.out 1).trans rfl⟩ (fun hHeld => ?_)
                                   clear hK K
                                   refine norm_ (a' := ?_) ?_ ?_
                                   rotate_left
                                   · show Act.put _ (some 29) _ = _
                                     simp only [Act.put, List.setIfInBounds_toArray, List.set_cons_zero, List.set_cons_succ, i64_w, i32_w]
                                     rfl
                                   exact norm_ pa (hJ1 (v216) _ ⟨hHeld, (ra qd.out), (ba q1.out), (z02)⟩)
                                 · skip
                                   refine box_step ?hg (N := 8) ?hd (cs := #[.slice none 0 0, .int .i64 0]) (t := 35) ?hr ?_; (case hd => rfl); (case hg => rfl); (case hr => first | (go_simp; done) | (go_simp; rfl))
                                   intro qb hg w40 hbox hb
                                   have n0_ := q0 (bb q1.out hb); have n1_ := q0 (below_step (z02) hb); have n2_ := q0 (hbox); have n3_ := q0 ((by rw [hg]; exact (below_size (z02)) : w.heap.size ≤ qb)); have n4_ := q0 ((by rw [hg]; exact (below_size (z02)) : w.heap.size ≤ qb)); have n5_ := q0 ((by rw [hg]; exact Nat.ne_of_lt (bl q1.out) : q7 ≠ qb)); have n6_ := q0 ((by rw [hg]; exact Nat.ne_of_gt (bl q1.out) : qb ≠ q7)); clear q1 HB; have q1 := n0_; have HB := n1_; have q6 := n2_; have GW229 := n3_; have z0m := n4_; have qq := n5_; have qv := n6_; clear n0_ n1_ n2_ n3_ n4_ n5_ n6_ hb hbox hg
                                   refine hK.out _ _ ⟨(blk_cell q1.out 0).trans rfl, (blk_cell q1.out 1).trans rfl⟩ (fun hHeld => ?_)
                                   clear hK K
                                   refine norm_ (a' := ?_) ?_ ?_
                                   rotate_left
                                   · show Act.put _ (some 8) _ = _
                                     simp only [Act.put, List.setIfInBounds_toArray, List.set_cons_zero, List.set_cons_succ, i64_w, i32_w]
                                     rfl
                                   exact norm_ pa (hJ7 (qb) _ ⟨hHeld, (ba q1.out), (ba q6.out), GW229.out, z0m.out, qq.out, qv.out, (qo)⟩)
                               · skip
                                 rintro qb w41 ⟨hS_, h0_, h1_, h2_, h3_, h4_, h5_, h6_⟩
                                 have n0_ : Aside0 (w41.heap[q7]? = some (.cells #[.slice A1_0 l1_0.length c1_0, .int .i64 a1_1] 31 (0, 0))) := ⟨h0_⟩
                                 have n1_ : Aside0 (w41.heap[qb]? = some (.cells #[.slice none 0 0, .int .i64 0] 35 (0, 0))) := ⟨h1_⟩
                                 have n2_ : Aside0 (w.heap.size ≤ qb) := ⟨h2_⟩
                                 have n3_ : Aside0 (w.heap.size ≤ qb) := ⟨h3_⟩
                                 have n4_ : Aside0 (q7 ≠ qb) := ⟨h4_⟩
                                 have n5_ : Aside0 (qb ≠ q7) := ⟨h5_⟩
                                 have n6_ : Aside0 (Below w.heap.size w w41) := ⟨h6_⟩
                                 clear q1 HB h0_ h1_ h2_ h3_ h4_ h5_ h6_; have q1 := n0_; have q6 := n1_; have GW229 := n2_; have z0m := n3_; have qq := n4_; have qv := n5_; have HB := n6_; clear n0_ n1_ n2_ n3_ n4_ n5_ n6_
                                 have hHeld : w41.cell? ⟨q7, 0, none⟩ = some (.slice A1_0 l1_0.length c1_0) ∧ w41.cell? ⟨q7, 1, none⟩ = some (.int .i64 a1_1) := hS_
                                 refine norm_ (a' := ?_) ?_ ?_
                                 rotate_left
                                 · simp only [putAll, Act.put, List.setIfInBounds_toArray, List.set_cons_zero, List.set_cons_succ]
                                   rfl
                                 refine one_ (i := 1) (N := some 29) #[true, true, true, false, true, false, false, true, false] rfl rfl (one_of HT_.out (by kernel_rfl)) (by decide) (fun K hK => ?_)
                                 refine goes_ Try.func22 (by kernel_rfl) rfl #[.slice A0 l0.length c0] (by rfl) rfl rfl ma ?_
                                 with_reducible refine (laws_toIntS.calls k _ _ l0 t215 _ ?side1 ?side2 A13.out).mono ?_
                                 (case side1 => exact ca (Kd.C_below HR0.out HB.out))
                                 (case side2 => exact HC0.out)
                                 rintro e w42 ⟨v216, rfl, ho0, hb⟩
                                 refine ⟨_, rfl, ?_⟩
                                 have n0_ := q0 (Kd.R_lower ho0 (below_size (qo))); have n1_ := q0 (bb q1.out hb); have n2_ := q0 (bb q6.out hb); have n3_ := q0 (below_step (qo) hb); clear q1 q6 HB; have qd := n0_; have q1 := n1_; have q6 := n2_; have HB := n3_; clear n0_ n1_ n2_ n3_; (try clear hb); (try clear hb2); (try clear hk); (try clear hi); (try clear ho0)
                                 refine hK.out _ _ ⟨(blk_cell q1.out 0).trans rfl, (blk_cell q1.out 1).trans rfl⟩ (fun hHeld => ?_)
                                 clear hK K
                                 refine norm_ (a' := ?_) ?_ ?_
                                 rotate_left
                                 · show Act.put _ (some 29) _ = _
                                   simp only [Act.put, List.setIfInBounds_toArray, List.set_cons_zero, List.set_cons_succ, i64_w, i32_w]
                                   rfl
                                 exact norm_ pa (z1a (v216, qb) _ ⟨hHeld, (ra qd.out), (ba q1.out), (ba q6.out), GW229.out, z0m.out, qq.out, qv.out, (qo)⟩)
                             · skip
                               rintro v216 w41 ⟨hS_, h0_, h1_, h2_⟩
                               have n0_ : Aside0 (Kd.R (Kd.int .i64) 3 w41 w.heap.size (fun _ => True) v216 t215) := ⟨h0_⟩
                               have n1_ : Aside0 (w41.heap[q7]? = some (.cells #[.slice A1_0 l1_0.length c1_0, .int .i64 a1_1] 31 (0, 0))) := ⟨h1_⟩
                               have n2_ : Aside0 (Below w.heap.size w w41) := ⟨h2_⟩
                               clear q1 HB h0_ h1_ h2_; have qd := n0_; have q1 := n1_; have HB := n2_; clear n0_ n1_ n2_
                               have hHeld : w41.cell? ⟨q7, 0, none⟩ = some (.slice A1_0 l1_0.length c1_0) ∧ w41.cell? ⟨q7, 1, none⟩ = some (.int .i64 a1_1) := hS_
                               refine norm_ (a' := ?_) ?_ ?_
                               rotate_left
                               · simp only [putAll, Act.put, List.setIfInBounds_toArray, List.set_cons_zero, List.set_cons_succ]
                                 rfl
                               refine two_ (i := 3) (j := 7) (Ni := some 31) (Nj := some 8) #[true, true, true, true, true, false, false, false, false] #[true, true, true, false, true, false, false, true, false] rfl rfl rfl rfl (two_of HT_.out (by kernel_rfl)) (by decide) (by decide) (fun K hK => ?_) (fun K hK => ?_)
                               · skip
                                 refine goes_ Try.func23 (by kernel_rfl) rfl #[.agg #[.slice A1_0 l1_0.length c1_0, .int .i64 a1_1]] (by rfl) rfl rfl ma ?_
                                 with_reducible refine (laws_toFollower.calls k _ _ l1_0 a1_1 t218 t221 _ ?side1 ?side2 A14.out).mono ?_
                                 (case side1 => exact ca (Kd.C_below HR1_0.out HB.out))
                                 (case side2 => exact HC1_0.out)
                                 rintro e w42 ⟨v219, rfl, ho0, hb⟩
                                 refine ⟨_, rfl, ?_⟩
                                 have n0_ := q0 (Kd.R_elder' (ra qd.out) (Kd.R_base ho0) hb); have n1_ := q0 (Kd.R_lower (Kd.R_new' ho0 (Kd.R_lt (ra qd.out))) (below_size (z02))); have n2_ := q0 (bb q1.out hb); have n3_ := q0 (below_step (z02) hb); clear qd q1 HB; have qd := n0_; have qk := n1_; have q1 := n2_; have HB := n3_; clear n0_ n1_ n2_ n3_; (try clear hb); (try clear hb2); (try clear hk); (try clear hi); (try clear ho0)
                                 refine hK.out _ _ ⟨(blk_cell q1.out 0).trans rfl, (blk_cell q1.out 1).trans rfl⟩ (fun hHeld => ?_)
                                 clear hK K
                                 refine norm_ (a' := ?_) ?_ ?_
                                 rotate_left
                                 · show Act.put _ (some 31) _ = _
                                   simp only [Act.put, List.setIfInBounds_toArray, List.set_cons_zero, List.set_cons_succ, i64_w, i32_w]
                                   rfl
                                 exact norm_ pa (z1i (v216, v219) _ ⟨hHeld, (ra (Kd.R_mono qd.out (fun _ hk => hk.2))), (ra (Kd.R_mono qk.out (fun _ hk => hk.2))), (ba q1.out), (z02)⟩)
                               · skip
                                 refine box_step ?hg (N := 8) ?hd (cs := #[.slice none 0 0, .int .i64 0]) (t := 35) ?hr ?_; (case hd => rfl); (case hg => rfl); (case hr => first | (go_simp; done) | (go_simp; rfl))
                                 intro qb hg w42 hbox hb
                                 have n0_ := q0 (Kd.R_below (ra qd.out) hb); have n1_ := q0 (bb q1.out hb); have n2_ := q0 (below_step (z02) hb); have n3_ := q0 (hbox); have n4_ := q0 ((by rw [hg]; exact (below_size (z02)) : w.heap.size ≤ qb)); have n5_ := q0 ((by rw [hg]; exact (below_size (z02)) : w.heap.size ≤ qb)); have n6_ := q0 ((by rw [hg]; exact Nat.ne_of_lt (bl q1.out) : q7 ≠ qb)); have n7_ := q0 ((by rw [hg]; exact Nat.ne_of_gt (bl q1.out) : qb ≠ q7)); clear qd q1 HB; have qd := n0_; have q1 := n1_; have HB := n2_; have q6 := n3_; have GW229 := n4_; have z0m := n5_; have qq := n6_; have qv := n7_; clear n0_ n1_ n2_ n3_ n4_ n5_ n6_ n7_ hb hbox hg
                                 refine hK.out _ _ ⟨(blk_cell q1.out 0).trans rfl, (blk_cell q1.out 1).trans rfl⟩ (fun hHeld => ?_)
                                 clear hK K
                                 refine norm_ (a' := ?_) ?_ ?_
                                 rotate_left
                                 · show Act.put _ (some 8) _ = _
                                   simp only [Act.put, List.setIfInBounds_toArray, List.set_cons_zero, List.set_cons_succ, i64_w, i32_w]
                                   rfl
                                 exact norm_ pa (z1a (v216, qb) _ ⟨hHeld, (ra qd.out), (ba q1.out), (ba q6.out), GW229.out, z0m.out, qq.out, qv.out, (qo)⟩)
                           · skip
                             rintro ⟨v216, qb⟩ w42 ⟨hS_, h0_, h1_, h2_, h3_, h4_, h5_, h6_, h7_⟩
                             have n0_ : Aside0 (Kd.R (Kd.int .i64) 3 w42 w.heap.size (fun _ => True) v216 t215) := ⟨h0_⟩
                             have n1_ : Aside0 (w42.heap[q7]? = some (.cells #[.slice A1_0 l1_0.length c1_0, .int .i64 a1_1] 31 (0, 0))) := ⟨h1_⟩
                             have n2_ : Aside0 (w42.heap[qb]? = some (.cells #[.slice none 0 0, .int .i64 0] 35 (0, 0))) := ⟨h2_⟩
                             have n3_ : Aside0 (w.heap.size ≤ qb) := ⟨h3_⟩
                             have n4_ : Aside0 (w.heap.size ≤ qb) := ⟨h4_⟩
                             have n5_ : Aside0 (q7 ≠ qb) := ⟨h5_⟩
                             have n6_ : Aside0 (qb ≠ q7) := ⟨h6_⟩
                             have n7_ : Aside0 (Below w.heap.size w w42) := ⟨h7_⟩
                             clear q1 HB h0_ h1_ h2_ h3_ h4_ h5_ h6_ h7_; have qd := n0_; have q1 := n1_; have q6 := n2_; have GW229 := n3_; have z0m := n4_; have qq := n5_; have qv := n6_; have HB := n7_; clear n0_ n1_ n2_ n3_ n4_ n5_ n6_ n7_
                             have hHeld : w42.cell? ⟨q7, 0, none⟩ = some (.slice A1_0 l1_0.length c1_0) ∧ w42.cell? ⟨q7, 1, none⟩ = some (.int .i64 a1_1) := hS_
                             refine norm_ (a' := ?_) ?_ ?_
                             rotate_left
                             · simp only [putAll, Act.put, List.setIfInBounds_toArray, List.set_cons_zero, List.set_cons_succ]
                               rfl
                             refine one_ (i := 3) (N := some 31) #[true, true, true, true, true, false, false, true, false] rfl rfl (one_of HT_.out (by kernel_rfl)) (by decide) (fun K hK => ?_)
                             refine goes_ Try.func23 (by kernel_rfl) rfl #[.agg #[.slice A1_0 l1_0.length c1_0, .int .i64 a1_1]] (by rfl) rfl rfl ma ?_
                             with_reducible refine (laws_toFollower.calls k _ _ l1_0 a1_1 t218 t221 _ ?side1 ?side2 A14.out).mono ?_
                             (case side1 => exact ca (Kd.C_below HR1_0.out HB.out))
                             (case side2 => exact HC1_0.out)
                             rintro e w43 ⟨v219, rfl, ho0, hb⟩
                             refine ⟨_, rfl, ?_⟩
                             have n0_ := q0 (Kd.R_elder' (ra qd.out) (Kd.R_base ho0) hb); have n1_ := q0 (Kd.R_lower (Kd.R_new' ho0 (Kd.R_lt (ra qd.out))) (below_size (qo))); have n2_ := q0 (bb q1.out hb); have n3_ := q0 (bb q6.out hb); have n4_ := q0 (below_step (qo) hb); clear qd q1 q6 HB; have qd := n0_; have qk := n1_; have q1 := n2_; have q6 := n3_; have HB := n4_; clear n0_ n1_ n2_ n3_ n4_; (try clear hb); (try clear hb2); (try clear hk); (try clear hi); (try clear ho0)
                             refine hK.out _ _ ⟨(blk_cell q1.out 0).trans rfl, (blk_cell q1.out 1).trans rfl⟩ (fun hHeld => ?_)
                             clear hK K
                             refine norm_ (a' := ?_) ?_ ?_
                             rotate_left
                             · show Act.put _ (some 31) _ = _
                               simp only [Act.put, List.setIfInBounds_toArray, List.set_cons_zero, List.set_cons_succ, i64_w, i32_w]
                               rfl
                             exact norm_ pa (z0y (v216, v219, qb) _ ⟨hHeld, (ra (Kd.R_mono qd.out (fun _ hk => hk.2))), (ra (Kd.R_mono qk.out (fun _ hk => hk.2))), (ba q1.out), (ba q6.out), GW229.out, z0m.out, qq.out, qv.out, (qo)⟩)
                         · skip
                           rintro ⟨v216, v219⟩ w42 ⟨hS_, h0_, h1_, h2_, h3_⟩
                           have n0_ : Aside0 (Kd.R (Kd.int .i64) 3 w42 w.heap.size (fun k_ => some k_ ≠ (v219 : Value).ownBlock) v216 t215) := ⟨h0_⟩
                           have n1_ : Aside0 (Kd.R (Kd.int .i64) 3 w42 w.heap.size (fun k_ => some k_ ≠ (v216 : Value).ownBlock) v219 t218) := ⟨h1_⟩
                           have n2_ : Aside0 (w42.heap[q7]? = some (.cells #[.slice A1_0 l1_0.length c1_0, .int .i64 a1_1] 31 (0, 0))) := ⟨h2_⟩
                           have n3_ : Aside0 (Below w.heap.size w w42) := ⟨h3_⟩
                           clear q1 HB h0_ h1_ h2_ h3_; have qd := n0_; have qk := n1_; have q1 := n2_; have HB := n3_; clear n0_ n1_ n2_ n3_
                           have hHeld : w42.cell? ⟨q7, 0, none⟩ = some (.slice A1_0 l1_0.length c1_0) ∧ w42.cell? ⟨q7, 1, none⟩ = some (.int .i64 a1_1) := hS_
                           refine norm_ (a' := ?_) ?_ ?_
                           rotate_left
                           · simp only [putAll, Act.put, List.setIfInBounds_toArray, List.set_cons_zero, List.set_cons_succ]
                             rfl
                           refine two_ (i := 5) (j := 7) (Ni := some 33) (Nj := some 8) #[true, true, true, true, true, true, false, false, false] #[true, true, true, true, true, false, false, true, false] rfl rfl rfl rfl (two_of HT_.out (by kernel_rfl)) (by decide) (by decide) (fun K hK => ?_) (fun K hK => ?_)
                           · skip
                             refine goes_ Try.func22 (by kernel_rfl) rfl #[.slice A2 l2.length c2] (by rfl) rfl rfl ma ?_
                             with_reducible refine (laws_toIntS.calls k _ _ l2 t222 _ ?side1 ?side2 A15.out).mono ?_
                             (case side1 => exact ca (Kd.C_below HR2.out HB.out))
                             (case side2 => exact HC2.out)
                             rintro e w43 ⟨v223, rfl, ho0, hb⟩
                             refine ⟨_, rfl, ?_⟩
                             have n0_ := q0 (Kd.R_elder' (ra qd.out) (Kd.R_base ho0) hb); have n1_ := q0 (Kd.R_elder' (ra qk.out) (Kd.R_base ho0) hb); have n2_ := q0 (Kd.R_lower (Kd.R_new' (Kd.R_new' ho0 (Kd.R_lt (ra qd.out))) (Kd.R_lt (ra qk.out))) (below_size (z02))); have n3_ := q0 (bb q1.out hb); have n4_ := q0 (below_step (z02) hb); clear qd qk q1 HB; have qd := n0_; have qk := n1_; have qm := n2_; have q1 := n3_; have HB := n4_; clear n0_ n1_ n2_ n3_ n4_; (try clear hb); (try clear hb2); (try clear hk); (try clear hi); (try clear ho0)
                             refine hK.out _ _ ⟨(blk_cell q1.out 0).trans rfl, (blk_cell q1.out 1).trans rfl⟩ (fun hHeld => ?_)
                             clear hK K
                             refine norm_ (a' := ?_) ?_ ?_
                             rotate_left
                             · show Act.put _ (some 33) _ = _
                               simp only [Act.put, List.setIfInBounds_toArray, List.set_cons_zero, List.set_cons_succ, i64_w, i32_w]
                               rfl
                             exact norm_ pa (z19 (v216, v219, v223) _ ⟨hHeld, (ra qd.out), (ra qk.out), (by refine ra ?_; exact Kd.R_mono qm.out (fun _ hk => ⟨hk.1.2, hk.2⟩)), (ba q1.out), (z02)⟩)
                           · skip
                             refine box_step ?hg (N := 8) ?hd (cs := #[.slice none 0 0, .int .i64 0]) (t := 35) ?hr ?_; (case hd => rfl); (case hg => rfl); (case hr => first | (go_simp; done) | (go_simp; rfl))
                             intro qb hg w43 hbox hb
                             have n0_ := q0 (Kd.R_below (ra qd.out) hb); have n1_ := q0 (Kd.R_below (ra qk.out) hb); have n2_ := q0 (bb q1.out hb); have n3_ := q0 (below_step (z02) hb); have n4_ := q0 (hbox); have n5_ := q0 ((by rw [hg]; exact (below_size (z02)) : w.heap.size ≤ qb)); have n6_ := q0 ((by rw [hg]; exact (below_size (z02)) : w.heap.size ≤ qb)); have n7_ := q0 ((by rw [hg]; exact Nat.ne_of_lt (bl q1.out) : q7 ≠ qb)); have n8_ := q0 ((by rw [hg]; exact Nat.ne_of_gt (bl q1.out) : qb ≠ q7)); clear qd qk q1 HB; have qd := n0_; have qk := n1_; have q1 := n2_; have HB := n3_; have q6 := n4_; have GW229 := n5_; have z0m := n6_; have qq := n7_; have qv := n8_; clear n0_ n1_ n2_ n3_ n4_ n5_ n6_ n7_ n8_ hb hbox hg
                             refine hK.out _ _ ⟨(blk_cell q1.out 0).trans rfl, (blk_cell q1.out 1).trans rfl⟩ (fun hHeld => ?_)
                             clear hK K
                             refine norm_ (a' := ?_) ?_ ?_
                             rotate_left
                             · show Act.put _ (some 8) _ = _
                               simp only [Act.put, List.setIfInBounds_toArray, List.set_cons_zero, List.set_cons_succ, i64_w, i32_w]
                               rfl
                             exact norm_ pa (z0y (v216, v219, qb) _ ⟨hHeld, (ra qd.out), (ra qk.out), (ba q1.out), (ba q6.out), GW229.out, z0m.out, qq.out, qv.out, (qo)⟩)
                       · skip
                         rintro ⟨v216, v219, qb⟩ w43 ⟨hS_, h0_, h1_, h2_, h3_, h4_, h5_, h6_, h7_, h8_⟩
                         have n0_ : Aside0 (Kd.R (Kd.int .i64) 3 w43 w.heap.size (fun k_ => some k_ ≠ (v219 : Value).ownBlock) v216 t215) := ⟨h0_⟩
                         have n1_ : Aside0 (Kd.R (Kd.int .i64) 3 w43 w.heap.size (fun k_ => some k_ ≠ (v216 : Value).ownBlock) v219 t218) := ⟨h1_⟩
                         have n2_ : Aside0 (w43.heap[q7]? = some (.cells #[.slice A1_0 l1_0.length c1_0, .int .i64 a1_1] 31 (0, 0))) := ⟨h2_⟩
                         have n3_ : Aside0 (w43.heap[qb]? = some (.cells #[.slice none 0 0, .int .i64 0] 35 (0, 0))) := ⟨h3_⟩
                         have n4_ : Aside0 (w.heap.size ≤ qb) := ⟨h4_⟩
                         have n5_ : Aside0 (w.heap.size ≤ qb) := ⟨h5_⟩
                         have n6_ : Aside0 (q7 ≠ qb) := ⟨h6_⟩
                         have n7_ : Aside0 (qb ≠ q7) := ⟨h7_⟩
                         have n8_ : Aside0 (Below w.heap.size w w43) := ⟨h8_⟩
                         clear q1 HB h0_ h1_ h2_ h3_ h4_ h5_ h6_ h7_ h8_; have qd := n0_; have qk := n1_; have q1 := n2_; have q6 := n3_; have GW229 := n4_; have z0m := n5_; have qq := n6_; have qv := n7_; have HB := n8_; clear n0_ n1_ n2_ n3_ n4_ n5_ n6_ n7_ n8_
                         have hHeld : w43.cell? ⟨q7, 0, none⟩ = some (.slice A1_0 l1_0.length c1_0) ∧ w43.cell? ⟨q7, 1, none⟩ = some (.int .i64 a1_1) := hS_
                         refine norm_ (a' := ?_) ?_ ?_
                         rotate_left
                         · simp only [putAll, Act.put, List.setIfInBounds_toArray, List.set_cons_zero, List.set_cons_succ]
                           rfl
                         refine one_ (i := 5) (N := some 33) #[true, true, true, true, true, true, false, true, false] rfl rfl (one_of HT_.out (by kernel_rfl)) (by decide) (fun K hK => ?_)
                         refine goes_ Try.func22 (by kernel_rfl) rfl #[.slice A2 l2.length c2] (by rfl) rfl rfl ma ?_
                         with_reducible refine (laws_toIntS.calls k _ _ l2 t222 _ ?side1 ?side2 A15.out).mono ?_
                         (case side1 => exact ca (Kd.C_below HR2.out HB.out))
                         (case side2 => exact HC2.out)
                         rintro e w44 ⟨v223, rfl, ho0, hb⟩
                         refine ⟨_, rfl, ?_⟩
                         have n0_ := q0 (Kd.R_elder' (ra qd.out) (Kd.R_base ho0) hb); have n1_ := q0 (Kd.R_elder' (ra qk.out) (Kd.R_base ho0) hb); have n2_ := q0 (Kd.R_lower (Kd.R_new' (Kd.R_new' ho0 (Kd.R_lt (ra qd.out))) (Kd.R_lt (ra qk.out))) (below_size (qo))); have n3_ := q0 (bb q1.out hb); have n4_ := q0 (bb q6.out hb); have n5_ := q0 (below_step (qo) hb); clear qd qk q1 q6 HB; have qd := n0_; have qk := n1_; have qm := n2_; have q1 := n3_; have q6 := n4_; have HB := n5_; clear n0_ n1_ n2_ n3_ n4_ n5_; (try clear hb); (try clear hb2); (try clear hk); (try clear hi); (try clear ho0)
                         refine hK.out _ _ ⟨(blk_cell q1.out 0).trans rfl, (blk_cell q1.out 1).trans rfl⟩ (fun hHeld => ?_)
                         clear hK K
                         refine norm_ (a' := ?_) ?_ ?_
                         rotate_left
                         · show Act.put _ (some 33) _ = _
                           simp only [Act.put, List.setIfInBounds_toArray, List.set_cons_zero, List.set_cons_succ, i64_w, i32_w]
                           rfl
                         exact norm_ pa (z0s (v216, v219, v223, qb) _ ⟨hHeld, (ra qd.out), (ra qk.out), (by refine ra ?_; exact Kd.R_mono qm.out (fun _ hk => ⟨hk.1.2, hk.2⟩)), (ba q1.out), (ba q6.out), GW229.out, z0m.out, qq.out, qv.out, (qo)⟩)
                     · skip
                       rintro ⟨v216, v219, v223⟩ w43 ⟨hS_, h0_, h1_, h2_, h3_, h4_⟩
                       have n0_ : Aside0 (Kd.R (Kd.int .i64) 3 w43 w.heap.size (fun k_ => some k_ ≠ (v219 : Value).ownBlock ∧ some k_ ≠ (v223 : Value).ownBlock) v216 t215) := ⟨h0_⟩
                       have n1_ : Aside0 (Kd.R (Kd.int .i64) 3 w43 w.heap.size (fun k_ => some k_ ≠ (v216 : Value).ownBlock ∧ some k_ ≠ (v223 : Value).ownBlock) v219 t218) := ⟨h1_⟩
                       have n2_ : Aside0 (Kd.R (Kd.int .i64) 3 w43 w.heap.size (fun k_ => some k_ ≠ (v216 : Value).ownBlock ∧ some k_ ≠ (v219 : Value).ownBlock) v223 t222) := ⟨h2_⟩
                       have n3_ : Aside0 (w43.heap[q7]? = some (.cells #[.slice A1_0 l1_0.length c1_0, .int .i64 a1_1] 31 (0, 0))) := ⟨h3_⟩
                       have n4_ : Aside0 (Below w.heap.size w w43) := ⟨h4_⟩
                       clear q1 HB h0_ h1_ h2_ h3_ h4_; have qd := n0_; have qk := n1_; have qm := n2_; have q1 := n3_; have HB := n4_; clear n0_ n1_ n2_ n3_ n4_
                       have hHeld : w43.cell? ⟨q7, 0, none⟩ = some (.slice A1_0 l1_0.length c1_0) ∧ w43.cell? ⟨q7, 1, none⟩ = some (.int .i64 a1_1) := hS_
                       obtain ⟨z1n, z1o, eo44⟩ := Kd.R_slice qd.out
                       (first | subst eo44 | (injection eo44 with f1_ f2_ f3_; have f4_ := f1_.symm; have f5_ := f3_.symm; clear f1_ f2_ f3_; subst f4_; subst f5_))
                       obtain ⟨z1b, z1c, eo45⟩ := Kd.R_slice qk.out
                       (first | subst eo45 | (injection eo45 with f1_ f2_ f3_; have f4_ := f1_.symm; have f5_ := f3_.symm; clear f1_ f2_ f3_; subst f4_; subst f5_))
                       obtain ⟨z1d, z1e, eo46⟩ := Kd.R_slice qm.out
                       (first | subst eo46 | (injection eo46 with f1_ f2_ f3_; have f4_ := f1_.symm; have f5_ := f3_.symm; clear f1_ f2_ f3_; subst f4_; subst f5_))
                       refine norm_ (a' := ?_) ?_ ?_
                       rotate_left
                       · simp only [putAll, Act.put, List.setIfInBounds_toArray, List.set_cons_zero, List.set_cons_succ]
                         rfl
                       refine two_ (i := 6) (j := 7) (Ni := some 34) (Nj := some 8) #[true, true, true, true, true, true, true, false, false] #[true, true, true, true, true, true, false, true, false] rfl rfl rfl rfl (two_of HT_.out (by kernel_rfl)) (by decide) (by decide) (fun K hK => ?_) (fun K hK => ?_)
                       · skip
                         refine goes_ Try.func43 (by kernel_rfl) rfl #[.slice z1n t215.length z1o, .agg #[.slice z1b t218.length z1c, .int .i64 t221], .slice z1d t222.length z1e] (by rfl) rfl rfl ma ?_
                         with_reducible refine (spec_HearAll.calls k _ _ t215 _ _ t218 t221 _ _ t222 t225 t228 _ ?side1 ?side2 ?side3 ?side4 ?side5 ?side6 A16.out).mono ?_
                         (case side1 => exact ca (Kd.R_reads' qd.out).2.2)
                         (case side2 => exact (Kd.R_reads' qd.out).2.1)
                         (case side3 => exact ca (Kd.R_reads' qk.out).2.2)
                         (case side4 => exact (Kd.R_reads' qk.out).2.1)
                         (case side5 => exact ca (Kd.R_reads' qm.out).2.2)
                         (case side6 => exact (Kd.R_reads' qm.out).2.1)
                         rintro e w47 ⟨v226, rfl, ho0, hb⟩
                         refine ⟨_, rfl, ?_⟩
                         have n0_ := q0 (Kd.R_elder' (ra qd.out) (Kd.R_base ho0) hb); have n1_ := q0 (Kd.R_elder' (ra qk.out) (Kd.R_base ho0) hb); have n2_ := q0 (Kd.R_elder' (ra qm.out) (Kd.R_base ho0) hb); have n3_ := q0 (Kd.R_lower (Kd.R_new' (Kd.R_new' (Kd.R_new' ho0 (Kd.R_lt (ra qd.out))) (Kd.R_lt (ra qk.out))) (Kd.R_lt (ra qm.out))) (below_size (z02))); have n4_ := q0 (bb q1.out hb); have n5_ := q0 (below_step (z02) hb); clear qd qk qm q1 HB; have qd := n0_; have qk := n1_; have qm := n2_; have qp := n3_; have q1 := n4_; have HB := n5_; clear n0_ n1_ n2_ n3_ n4_ n5_; (try clear hb); (try clear hb2); (try clear hk); (try clear hi); (try clear ho0)
                         refine hK.out _ _ ⟨(blk_cell q1.out 0).trans rfl, (blk_cell q1.out 1).trans rfl⟩ (fun hHeld => ?_)
                         clear hK K
                         refine norm_ (a' := ?_) ?_ ?_
                         rotate_left
                         · show Act.put _ (some 34) _ = _
                           simp only [Act.put, List.setIfInBounds_toArray, List.set_cons_zero, List.set_cons_succ, i64_w, i32_w]
                           rfl
                         exact norm_ pa (z0z (.slice z1n t215.length z1o, .slice z1b t218.length z1c, .slice z1d t222.length z1e, v226) _ ⟨hHeld, (by refine ra ?_; exact Kd.R_mono qd.out (fun _ hk => ⟨hk.1.1, ⟨hk.1.2, hk.2⟩⟩)), (by refine ra ?_; exact Kd.R_mono qk.out (fun _ hk => ⟨hk.1.1, ⟨hk.1.2, hk.2⟩⟩)), (by refine ra ?_; exact Kd.R_mono qm.out (fun _ hk => ⟨hk.1.1, ⟨hk.1.2, hk.2⟩⟩)), (by refine ra ?_; exact Kd.R_mono qp.out (fun _ hk => ⟨hk.1.1.2, ⟨hk.1.2, hk.2⟩⟩)), (ba q1.out), (z02)⟩)
                       · skip
                         refine box_step ?hg (N := 8) ?hd (cs := #[.slice none 0 0, .int .i64 0]) (t := 35) ?hr ?_; (case hd => rfl); (case hg => rfl); (case hr => first | (go_simp; done) | (go_simp; rfl))
                         intro qb hg w44 hbox hb
                         have n0_ := q0 (Kd.R_below (ra qd.out) hb); have n1_ := q0 (Kd.R_below (ra qk.out) hb); have n2_ := q0 (Kd.R_below (ra qm.out) hb); have n3_ := q0 (bb q1.out hb); have n4_ := q0 (below_step (z02) hb); have n5_ := q0 (hbox); have n6_ := q0 ((by rw [hg]; exact (below_size (z02)) : w.heap.size ≤ qb)); have n7_ := q0 ((by rw [hg]; exact (below_size (z02)) : w.heap.size ≤ qb)); have n8_ := q0 ((by rw [hg]; exact Nat.ne_of_lt (bl q1.out) : q7 ≠ qb)); have n9_ := q0 ((by rw [hg]; exact Nat.ne_of_gt (bl q1.out) : qb ≠ q7)); clear qd qk qm q1 HB; have qd := n0_; have qk := n1_; have qm := n2_; have q1 := n3_; have HB := n4_; have q6 := n5_; have GW229 := n6_; have z0m := n7_; have qq := n8_; have qv := n9_; clear n0_ n1_ n2_ n3_ n4_ n5_ n6_ n7_ n8_ n9_ hb hbox hg
                         refine hK.out _ _ ⟨(blk_cell q1.out 0).trans rfl, (blk_cell q1.out 1).trans rfl⟩ (fun hHeld => ?_)
                         clear hK K
                         refine norm_ (a' := ?_) ?_ ?_
                         rotate_left
                         · show Act.put _ (some 8) _ = _
                           simp only [Act.put, List.setIfInBounds_toArray, List.set_cons_zero, List.set_cons_succ, i64_w, i32_w]
                           rfl
                         exact norm_ pa (z0s (.slice z1n t215.length z1o, .slice z1b t218.length z1c, .slice z1d t222.length z1e, qb) _ ⟨hHeld, (ra qd.out), (ra qk.out), (ra qm.out), (ba q1.out), (ba q6.out), GW229.out, z0m.out, qq.out, qv.out, (qo)⟩)
                   · skip
                     rintro ⟨v216, v219, v223, qb⟩ w44 ⟨hS_, h0_, h1_, h2_, h3_, h4_, h5_, h6_, h7_, h8_, h9_⟩
                     have n0_ : Aside0 (Kd.R (Kd.int .i64) 3 w44 w.heap.size (fun k_ => some k_ ≠ (v219 : Value).ownBlock ∧ some k_ ≠ (v223 : Value).ownBlock) v216 t215) := ⟨h0_⟩
                     have n1_ : Aside0 (Kd.R (Kd.int .i64) 3 w44 w.heap.size (fun k_ => some k_ ≠ (v216 : Value).ownBlock ∧ some k_ ≠ (v223 : Value).ownBlock) v219 t218) := ⟨h1_⟩
                     have n2_ : Aside0 (Kd.R (Kd.int .i64) 3 w44 w.heap.size (fun k_ => some k_ ≠ (v216 : Value).ownBlock ∧ some k_ ≠ (v219 : Value).ownBlock) v223 t222) := ⟨h2_⟩
                     have n3_ : Aside0 (w44.heap[q7]? = some (.cells #[.slice A1_0 l1_0.length c1_0, .int .i64 a1_1] 31 (0, 0))) := ⟨h3_⟩
                     have n4_ : Aside0 (w44.heap[qb]? = some (.cells #[.slice none 0 0, .int .i64 0] 35 (0, 0))) := ⟨h4_⟩
                     have n5_ : Aside0 (w.heap.size ≤ qb) := ⟨h5_⟩
                     have n6_ : Aside0 (w.heap.size ≤ qb) := ⟨h6_⟩
                     have n7_ : Aside0 (q7 ≠ qb) := ⟨h7_⟩
                     have n8_ : Aside0 (qb ≠ q7) := ⟨h8_⟩
                     have n9_ : Aside0 (Below w.heap.size w w44) := ⟨h9_⟩
                     clear q1 HB h0_ h1_ h2_ h3_ h4_ h5_ h6_ h7_ h8_ h9_; have qd := n0_; have qk := n1_; have qm := n2_; have q1 := n3_; have q6 := n4_; have GW229 := n5_; have z0m := n6_; have qq := n7_; have qv := n8_; have HB := n9_; clear n0_ n1_ n2_ n3_ n4_ n5_ n6_ n7_ n8_ n9_
                     have hHeld : w44.cell? ⟨q7, 0, none⟩ = some (.slice A1_0 l1_0.length c1_0) ∧ w44.cell? ⟨q7, 1, none⟩ = some (.int .i64 a1_1) := hS_
                     obtain ⟨z1b, z1c, eo45⟩ := Kd.R_slice qd.out
                     (first | subst eo45 | (injection eo45 with f1_ f2_ f3_; have f4_ := f1_.symm; have f5_ := f3_.symm; clear f1_ f2_ f3_; subst f4_; subst f5_))
                     obtain ⟨z1d, z1e, eo46⟩ := Kd.R_slice qk.out
                     (first | subst eo46 | (injection eo46 with f1_ f2_ f3_; have f4_ := f1_.symm; have f5_ := f3_.symm; clear f1_ f2_ f3_; subst f4_; subst f5_))
                     obtain ⟨z1p, z1q, eo47⟩ := Kd.R_slice qm.out
                     (first | subst eo47 | (injection eo47 with f1_ f2_ f3_; have f4_ := f1_.symm; have f5_ := f3_.symm; clear f1_ f2_ f3_; subst f4_; subst f5_))
                     refine norm_ (a' := ?_) ?_ ?_
                     rotate_left
                     · simp only [putAll, Act.put, List.setIfInBounds_toArray, List.set_cons_zero, List.set_cons_succ]
                       rfl
                     refine one_ (i := 6) (N := some 34) #[true, true, true, true, true, true, true, true, false] rfl rfl (one_of HT_.out (by kernel_rfl)) (by decide) (fun K hK => ?_)
                     refine goes_ Try.func43 (by kernel_rfl) rfl #[.slice z1b t215.length z1c, .agg #[.slice z1d t218.length z1e, .int .i64 t221], .slice z1p t222.length z1q] (by rfl) rfl rfl ma ?_
                     with_reducible refine (spec_HearAll.calls k _ _ t215 _ _ t218 t221 _ _ t222 t225 t228 _ ?side1 ?side2 ?side3 ?side4 ?side5 ?side6 A16.out).mono ?_
                     (case side1 => exact ca (Kd.R_reads' qd.out).2.2)
                     (case side2 => exact (Kd.R_reads' qd.out).2.1)
                     (case side3 => exact ca (Kd.R_reads' qk.out).2.2)
                     (case side4 => exact (Kd.R_reads' qk.out).2.1)
                     (case side5 => exact ca (Kd.R_reads' qm.out).2.2)
                     (case side6 => exact (Kd.R_reads' qm.out).2.1)
                     rintro e w48 ⟨v226, rfl, ho0, hb⟩
                     refine ⟨_, rfl, ?_⟩
                     have n0_ := q0 (Kd.R_elder' (ra qd.out) (Kd.R_base ho0) hb); have n1_ := q0 (Kd.R_elder' (ra qk.out) (Kd.R_base ho0) hb); have n2_ := q0 (Kd.R_elder' (ra qm.out) (Kd.R_base ho0) hb); have n3_ := q0 (Kd.R_lower (Kd.R_new' (Kd.R_new' (Kd.R_new' ho0 (Kd.R_lt (ra qd.out))) (Kd.R_lt (ra qk.out))) (Kd.R_lt (ra qm.out))) (below_size (qo))); have n4_ := q0 (bb q1.out hb); have n5_ := q0 (bb q6.out hb); have n6_ := q0 (below_step (qo) hb); clear qd qk qm q1 q6 HB; have qd := n0_; have qk := n1_; have qm := n2_; have qp := n3_; have q1 := n4_; have q6 := n5_; have HB := n6_; clear n0_ n1_ n2_ n3_ n4_ n5_ n6_; (try clear hb); (try clear hb2); (try clear hk); (try clear hi); (try clear ho0)
                     refine hK.out _ _ ⟨(blk_cell q1.out 0).trans rfl, (blk_cell q1.out 1).trans rfl⟩ (fun hHeld => ?_)
                     clear hK K
                     refine norm_ (a' := ?_) ?_ ?_
                     rotate_left
                     · show Act.put _ (some 34) _ = _
                       simp only [Act.put, List.setIfInBounds_toArray, List.set_cons_zero, List.set_cons_succ, i64_w, i32_w]
                       rfl
                     exact norm_ pa (z0p (.slice z1b t215.length z1c, .slice z1d t218.length z1e, .slice z1p t222.length z1q, v226, qb) _ ⟨hHeld, (by refine ra ?_; exact Kd.R_mono qd.out (fun _ hk => ⟨hk.1.1, ⟨hk.1.2, hk.2⟩⟩)), (by refine ra ?_; exact Kd.R_mono qk.out (fun _ hk => ⟨hk.1.1, ⟨hk.1.2, hk.2⟩⟩)), (by refine ra ?_; exact Kd.R_mono qm.out (fun _ hk => ⟨hk.1.1, ⟨hk.1.2, hk.2⟩⟩)), (by refine ra ?_; exact Kd.R_mono qp.out (fun _ hk => ⟨hk.1.1.2, ⟨hk.1.2, hk.2⟩⟩)), (ba q1.out), (ba q6.out), GW229.out, z0m.out, qq.out, qv.out, (qo)⟩)
                 · skip
                   rintro ⟨v216, v219, v223, v226⟩ w47 ⟨hS_, h0_, h1_, h2_, h3_, h4_, h5_⟩
                   have n0_ : Aside0 (Kd.R (Kd.int .i64) 3 w47 w.heap.size (fun k_ => some k_ ≠ (v219 : Value).ownBlock ∧ some k_ ≠ (v223 : Value).ownBlock ∧ some k_ ≠ (v226 : Value).ownBlock) v216 t215) := ⟨h0_⟩
                   have n1_ : Aside0 (Kd.R (Kd.int .i64) 3 w47 w.heap.size (fun k_ => some k_ ≠ (v216 : Value).ownBlock ∧ some k_ ≠ (v223 : Value).ownBlock ∧ some k_ ≠ (v226 : Value).ownBlock) v219 t218) := ⟨h1_⟩
                   have n2_ : Aside0 (Kd.R (Kd.int .i64) 3 w47 w.heap.size (fun k_ => some k_ ≠ (v216 : Value).ownBlock ∧ some k_ ≠ (v219 : Value).ownBlock ∧ some k_ ≠ (v226 : Value).ownBlock) v223 t222) := ⟨h2_⟩
                   have n3_ : Aside0 (Kd.R (Kd.int .i64) 3 w47 w.heap.size (fun k_ => some k_ ≠ (v216 : Value).ownBlock ∧ some k_ ≠ (v219 : Value).ownBlock ∧ some k_ ≠ (v223 : Value).ownBlock) v226 t225) := ⟨h3_⟩
                   have n4_ : Aside0 (w47.heap[q7]? = some (.cells #[.slice A1_0 l1_0.length c1_0, .int .i64 a1_1] 31 (0, 0))) := ⟨h4_⟩
                   have n5_ : Aside0 (Below w.heap.size w w47) := ⟨h5_⟩
                   clear q1 HB h0_ h1_ h2_ h3_ h4_ h5_; have qd := n0_; have qk := n1_; have qm := n2_; have qp := n3_; have q1 := n4_; have HB := n5_; clear n0_ n1_ n2_ n3_ n4_ n5_
                   have hHeld : w47.cell? ⟨q7, 0, none⟩ = some (.slice A1_0 l1_0.length c1_0) ∧ w47.cell? ⟨q7, 1, none⟩ = some (.int .i64 a1_1) := hS_
                   refine norm_ (a' := ?_) ?_ ?_
                   rotate_left
                   · simp only [putAll, Act.put, List.setIfInBounds_toArray, List.set_cons_zero, List.set_cons_succ]
                     rfl
                   refine one_ (i := 7) (N := some 8) #[true, true, true, true, true, true, true, true, false] rfl rfl (one_of HT_.out (by kernel_rfl)) (by decide) (fun K hK => ?_)
                   refine box_step ?hg (N := 8) ?hd (cs := #[.slice none 0 0, .int .i64 0]) (t := 35) ?hr ?_; (case hd => rfl); (case hg => rfl); (case hr => first | (go_simp; done) | (go_simp; rfl))
                   intro qb hg w48 hbox hb
                   have n0_ := q0 (Kd.R_below (ra qd.out) hb); have n1_ := q0 (Kd.R_below (ra qk.out) hb); have n2_ := q0 (Kd.R_below (ra qm.out) hb); have n3_ := q0 (Kd.R_below (ra qp.out) hb); have n4_ := q0 (bb q1.out hb); have n5_ := q0 (below_step (z02) hb); have n6_ := q0 (hbox); have n7_ := q0 ((by rw [hg]; exact (below_size (z02)) : w.heap.size ≤ qb)); have n8_ := q0 ((by rw [hg]; exact (below_size (z02)) : w.heap.size ≤ qb)); have n9_ := q0 ((by rw [hg]; exact Nat.ne_of_lt (bl q1.out) : q7 ≠ qb)); have n10_ := q0 ((by rw [hg]; exact Nat.ne_of_gt (bl q1.out) : qb ≠ q7)); clear qd qk qm qp q1 HB; have qd := n0_; have qk := n1_; have qm := n2_; have qp := n3_; have q1 := n4_; have HB := n5_; have q6 := n6_; have GW229 := n7_; have z0m := n8_; have qq := n9_; have qv := n10_; clear n0_ n1_ n2_ n3_ n4_ n5_ n6_ n7_ n8_ n9_ n10_ hb hbox hg
                   refine hK.out _ _ ⟨(blk_cell q1.out 0).trans rfl, (blk_cell q1.out 1).trans rfl⟩ (fun hHeld => ?_)
                   clear hK K
                   refine norm_ (a' := ?_) ?_ ?_
                   rotate_left
                   · show Act.put _ (some 8) _ = _
                     simp only [Act.put, List.setIfInBounds_toArray, List.set_cons_zero, List.set_cons_succ, i64_w, i32_w]
                     rfl
                   exact norm_ pa (z0p (v216, v219, v223, v226, qb) _ ⟨hHeld, (ra qd.out), (ra qk.out), (ra qm.out), (ra qp.out), (ba q1.out), (ba q6.out), GW229.out, z0m.out, qq.out, qv.out, (qo)⟩)
               rintro ⟨v216, v219, v223, v226, qb⟩ w48 ⟨hS_, h0_, h1_, h2_, h3_, h4_, h5_, h6_, h7_, h8_, h9_, h10_⟩
               have n0_ : Aside0 (Kd.R (Kd.int .i64) 3 w48 w.heap.size (fun k_ => some k_ ≠ (v219 : Value).ownBlock ∧ some k_ ≠ (v223 : Value).ownBlock ∧ some k_ ≠ (v226 : Value).ownBlock) v216 t215) := ⟨h0_⟩
               have n1_ : Aside0 (Kd.R (Kd.int .i64) 3 w48 w.heap.size (fun k_ => some k_ ≠ (v216 : Value).ownBlock ∧ some k_ ≠ (v223 : Value).ownBlock ∧ some k_ ≠ (v226 : Value).ownBlock) v219 t218) := ⟨h1_⟩
               have n2_ : Aside0 (Kd.R (Kd.int .i64) 3 w48 w.heap.size (fun k_ => some k_ ≠ (v216 : Value).ownBlock ∧ some k_ ≠ (v219 : Value).ownBlock ∧ some k_ ≠ (v226 : Value).ownBlock) v223 t222) := ⟨h2_⟩
               have n3_ : Aside0 (Kd.R (Kd.int .i64) 3 w48 w.heap.size (fun k_ => some k_ ≠ (v216 : Value).ownBlock ∧ some k_ ≠ (v219 : Value).ownBlock ∧ some k_ ≠ (v223 : Value).ownBlock) v226 t225) := ⟨h3_⟩
               have n4_ : Aside0 (w48.heap[q7]? = some (.cells #[.slice A1_0 l1_0.length c1_0, .int .i64 a1_1] 31 (0, 0))) := ⟨h4_⟩
               have n5_ : Aside0 (w48.heap[qb]? = some (.cells #[.slice none 0 0, .int .i64 0] 35 (0, 0))) := ⟨h5_⟩
               have n6_ : Aside0 (w.heap.size ≤ qb) := ⟨h6_⟩
               have n7_ : Aside0 (w.heap.size ≤ qb) := ⟨h7_⟩
               have n8_ : Aside0 (q7 ≠ qb) := ⟨h8_⟩
               have n9_ : Aside0 (qb ≠ q7) := ⟨h9_⟩
               have n10_ : Aside0 (Below w.heap.size w w48) := ⟨h10_⟩
               clear q1 HB h0_ h1_ h2_ h3_ h4_ h5_ h6_ h7_ h8_ h9_ h10_; have qd := n0_; have qk := n1_; have qm := n2_; have qp := n3_; have q1 := n4_; have q6 := n5_; have GW229 := n6_; have z0m := n7_; have qq := n8_; have qv := n9_; have HB := n10_; clear n0_ n1_ n2_ n3_ n4_ n5_ n6_ n7_ n8_ n9_ n10_
               have hHeld : w48.cell? ⟨q7, 0, none⟩ = some (.slice A1_0 l1_0.length c1_0) ∧ w48.cell? ⟨q7, 1, none⟩ = some (.int .i64 a1_1) := hS_
               obtain ⟨qj, qi, eo49⟩ := Kd.R_slice qp.out
               (first | subst eo49 | (injection eo49 with f1_ f2_ f3_; have f4_ := f1_.symm; have f5_ := f3_.symm; clear f1_ f2_ f3_; subst f4_; subst f5_))
               refine norm_ (a' := ?_) ?_ ?_
               rotate_left
               · simp only [putAll, Act.put, List.setIfInBounds_toArray, List.set_cons_zero, List.set_cons_succ]
                 rfl
               refine one_ (i := 8) (N := none) #[true, true, true, true, true, true, true, true, true] rfl rfl (one_of HT_.out (by kernel_rfl)) (by decide) (fun K hK => ?_)
               have hs50 : w48.cell? ⟨qb, 0, none⟩ = some (.slice none 0 0) := (blk_cell q6.out 0).trans rfl
               have hfs50 := blk_frozen q6.out 0
               have hns50_0 := qq.out
               have hms50_0 := qv.out
               have hs51 : w48.cell? ⟨qb, 1, none⟩ = some (.int .i64 0) := (blk_cell q6.out 1).trans rfl
               have hfs51 := blk_frozen q6.out 1
               have hns51_0 := qq.out
               have hms51_0 := qv.out
               refine skip_ (w1 := ?_) (by rfl) rfl ?_ ?_
               rotate_left
               · go_simp
                 rfl
               refine hK.out _ _ ⟨((cell_far (p := ⟨qb, _, none⟩) qq.out _).trans (((cell_far (p := ⟨qb, _, none⟩) qq.out _).trans (hHeld.1)))), ((cell_far (p := ⟨qb, _, none⟩) qq.out _).trans (((cell_far (p := ⟨qb, _, none⟩) qq.out _).trans (hHeld.2))))⟩ (fun hHeld => ?_)
               clear hK K
               refine done_ (done_of HT_.out (by kernel_rfl)) ?_
               try go_wp2_with (first | ((with_reducible refine gate_callee (f := 22) rfl ?_); refine goesL_ (some 36) rfl rfl Try.func22 (by kernel_rfl) rfl #[.slice A0 l0.length c0] rfl ma ?_; (with_reducible refine (laws_toIntS.calls k _ _ l0 t230 _ ?side1 ?side2 A17.out).mono ?_); (case side1 => exact Kd.C_below HR0.out (qo)); (case side2 => exact HC0.out); rintro e w52 ⟨v231, rfl, ho0, hb⟩; refine ⟨_, rfl, ?_⟩; have n0_ := q0 (Kd.R_elder' (by refine ra ?_; exact (Kd.R_mono (Kd.R_far (p := ⟨qb, 1, none⟩) (Kd.R_far (p := ⟨qb, 0, none⟩) (Kd.R_types qd.out q6.out (by decide)) (fun _ hk => hk.2) (.slice qj t225.length qi)) (fun _ hk => hk.2) (.int .i64 t228)) (fun _ h_ => h_.1))) (Kd.R_base ho0) hb); have n1_ := q0 (Kd.R_elder' (by refine ra ?_; exact (Kd.R_mono (Kd.R_far (p := ⟨qb, 1, none⟩) (Kd.R_far (p := ⟨qb, 0, none⟩) (Kd.R_types qk.out q6.out (by decide)) (fun _ hk => hk.2) (.slice qj t225.length qi)) (fun _ hk => hk.2) (.int .i64 t228)) (fun _ h_ => h_.1))) (Kd.R_base ho0) hb); have n2_ := q0 (Kd.R_elder' (by refine ra ?_; exact (Kd.R_mono (Kd.R_far (p := ⟨qb, 1, none⟩) (Kd.R_far (p := ⟨qb, 0, none⟩) (Kd.R_types qm.out q6.out (by decide)) (fun _ hk => hk.2) (.slice qj t225.length qi)) (fun _ hk => hk.2) (.int .i64 t228)) (fun _ h_ => h_.1))) (Kd.R_base ho0) hb); have n3_ := q0 (Kd.R_elder' (by refine ra ?_; exact (Kd.R_mono (Kd.R_far (p := ⟨qb, 1, none⟩) (Kd.R_far (p := ⟨qb, 0, none⟩) (Kd.R_types qp.out q6.out (by decide)) (fun _ hk => hk.2) (.slice qj t225.length qi)) (fun _ hk => hk.2) (.int .i64 t228)) (fun _ h_ => h_.1))) (Kd.R_base ho0) hb); have n4_ := q0 (Kd.R_lower (Kd.R_new' (Kd.R_new' (Kd.R_new' (Kd.R_new' ho0 (Kd.R_lt (by refine ra ?_; exact (Kd.R_mono (Kd.R_far (p := ⟨qb, 1, none⟩) (Kd.R_far (p := ⟨qb, 0, none⟩) (Kd.R_types qd.out q6.out (by decide)) (fun _ hk => hk.2) (.slice qj t225.length qi)) (fun _ hk => hk.2) (.int .i64 t228)) (fun _ h_ => h_.1))))) (Kd.R_lt (by refine ra ?_; exact (Kd.R_mono (Kd.R_far (p := ⟨qb, 1, none⟩) (Kd.R_far (p := ⟨qb, 0, none⟩) (Kd.R_types qk.out q6.out (by decide)) (fun _ hk => hk.2) (.slice qj t225.length qi)) (fun _ hk => hk.2) (.int .i64 t228)) (fun _ h_ => h_.1))))) (Kd.R_lt (by refine ra ?_; exact (Kd.R_mono (Kd.R_far (p := ⟨qb, 1, none⟩) (Kd.R_far (p := ⟨qb, 0, none⟩) (Kd.R_types qm.out q6.out (by decide)) (fun _ hk => hk.2) (.slice qj t225.length qi)) (fun _ hk => hk.2) (.int .i64 t228)) (fun _ h_ => h_.1))))) (Kd.R_lt (by refine ra ?_; exact (Kd.R_mono (Kd.R_far (p := ⟨qb, 1, none⟩) (Kd.R_far (p := ⟨qb, 0, none⟩) (Kd.R_types qp.out q6.out (by decide)) (fun _ hk => hk.2) (.slice qj t225.length qi)) (fun _ hk => hk.2) (.int .i64 t228)) (fun _ h_ => h_.1))))) (below_size (qo))); have n5_ := q0 (blk_below (g := q7) (o := .cells #[.slice A1_0 l1_0.length c1_0, .int .i64 a1_1] 31 (0, 0)) (by refine ba ?_; refine blk_far ?_ qq.out _; refine ba ?_; refine blk_far ?_ qq.out _; refine ba ?_; exact q1.out) hb); have n6_ := q0 (blk_below (g := qb) (o := .cells #[.slice qj t225.length qi, .int .i64 t228] 35 (0, 0)) (by refine ba ?_; refine blk_put (cs := #[.slice qj t225.length qi, .int .i64 0]) ?_ 1 _ rfl; refine ba ?_; refine blk_put (cs := #[.slice none 0 0, .int .i64 0]) ?_ 0 _ rfl; refine ba ?_; exact q6.out) hb); have n7_ := q0 (below_step (qo) hb); clear qd; clear qk; clear qm; clear qp; clear q1; clear q6; clear HB; have qd := n0_; have qk := n1_; have qm := n2_; have qp := n3_; have qs := n4_; have q1 := n5_; have q6 := n6_; have HB := n7_; clear n0_ n1_ n2_ n3_ n4_ n5_ n6_ n7_; (try clear hb); (try clear hb2); (try clear hk); (try clear hi); (try clear ho0); have hnb53 := qq.out; have hnc53 := qv.out; have hcz54_0 : w52.cell? ⟨q7, 0, none⟩ = some (.slice A1_0 l1_0.length c1_0) := (blk_cell q1.out 0).trans rfl; have hcz54_1 : w52.cell? ⟨q7, 1, none⟩ = some (.int .i64 a1_1) := (blk_cell q1.out 1).trans rfl; have hfz54_0 := blk_frozen q1.out 0; have hfz54_1 := blk_frozen q1.out 1) | ((with_reducible refine gate_callee (f := 23) rfl ?_); refine goesL_ (some 38) rfl rfl Try.func23 (by kernel_rfl) rfl #[.agg #[.slice A1_0 l1_0.length c1_0, .int .i64 a1_1]] rfl ma ?_; (with_reducible refine (laws_toFollower.calls k _ _ l1_0 a1_1 t233 t236 _ ?side1 ?side2 A18.out).mono ?_); (case side1 => exact ca (Kd.C_below HR1_0.out HB.out)); (case side2 => exact HC1_0.out); rintro e w55 ⟨v234, rfl, ho0, hb⟩; refine ⟨_, rfl, ?_⟩; have n0_ := q0 (Kd.R_elder' (ra qd.out) (Kd.R_base ho0) hb); have n1_ := q0 (Kd.R_elder' (ra qk.out) (Kd.R_base ho0) hb); have n2_ := q0 (Kd.R_elder' (ra qm.out) (Kd.R_base ho0) hb); have n3_ := q0 (Kd.R_elder' (ra qp.out) (Kd.R_base ho0) hb); have n4_ := q0 (Kd.R_elder' (ra qs.out) (Kd.R_base ho0) hb); have n5_ := q0 (Kd.R_lower (Kd.R_new' (Kd.R_new' (Kd.R_new' (Kd.R_new' (Kd.R_new' ho0 (Kd.R_lt (ra qd.out))) (Kd.R_lt (ra qk.out))) (Kd.R_lt (ra qm.out))) (Kd.R_lt (ra qp.out))) (Kd.R_lt (ra qs.out))) (below_size (qo))); have n6_ := q0 (bb q1.out hb); have n7_ := q0 (bb q6.out hb); have n8_ := q0 (below_step (qo) hb); clear qd; clear qk; clear qm; clear qp; clear qs; clear q1; clear q6; clear HB; have qd := n0_; have qk := n1_; have qm := n2_; have qp := n3_; have qs := n4_; have qu := n5_; have q1 := n6_; have q6 := n7_; have HB := n8_; clear n0_ n1_ n2_ n3_ n4_ n5_ n6_ n7_ n8_; (try clear hb); (try clear hb2); (try clear hk); (try clear hi); (try clear ho0)) | ((with_reducible refine gate_dst (N := 10) rfl ?_); refine box_event ?hg (N := 10) ?hd (cs := #[.slice none 0 0, .int .i64 0]) (t := 35) ?hr ?_; (case hd => rfl); (case hg => rfl); (case hr => first | (go_simp; done) | (go_simp; rfl)); intro ql hg w56 hbox hb; have n0_ := q0 (Kd.R_below (ra qd.out) hb); have n1_ := q0 (Kd.R_below (ra qk.out) hb); have n2_ := q0 (Kd.R_below (ra qm.out) hb); have n3_ := q0 (Kd.R_below (ra qp.out) hb); have n4_ := q0 (Kd.R_below (ra qs.out) hb); have n5_ := q0 (Kd.R_below (ra qu.out) hb); have n6_ := q0 (bb q1.out hb); have n7_ := q0 (bb q6.out hb); have n8_ := q0 (below_step (qo) hb); have n9_ := q0 (hbox); have n10_ := q0 ((by rw [hg]; exact (below_size (qo)) : w.heap.size ≤ ql)); have n11_ := q0 ((by rw [hg]; exact (below_size (qo)) : w.heap.size ≤ ql)); have n12_ := q0 ((by rw [hg]; exact Nat.ne_of_lt (bl q1.out) : q7 ≠ ql)); have n13_ := q0 ((by rw [hg]; exact Nat.ne_of_gt (bl q1.out) : ql ≠ q7)); have n14_ := q0 ((by rw [hg]; exact Nat.ne_of_lt (bl q6.out) : qb ≠ ql)); have n15_ := q0 ((by rw [hg]; exact Nat.ne_of_gt (bl q6.out) : ql ≠ qb)); clear qd; clear qk; clear qm; clear qp; clear qs; clear qu; clear q1; clear q6; clear HB; have qd := n0_; have qk := n1_; have qm := n2_; have qp := n3_; have qs := n4_; have qu := n5_; have q1 := n6_; have q6 := n7_; have HB := n8_; have q8 := n9_; have GW237 := n10_; have z1t := n11_; have z10 := n12_; have z1f := n13_; have z0t := n14_; have z11 := n15_; clear n0_ n1_ n2_ n3_ n4_ n5_ n6_ n7_ n8_ n9_ n10_ n11_ n12_ n13_ n14_ n15_; clear hb hbox hg; obtain ⟨qe, qf, eo57⟩ := Kd.R_slice qu.out; subst eo57; have hnb58 := z1f.out; have hnc58 := z10.out; have hnb59 := z11.out; have hnc59 := z0t.out; have hcz60_0 : w56.cell? ⟨ql, 0, none⟩ = some (.slice none 0 0) := (blk_cell q8.out 0).trans rfl; have hcz60_1 : w56.cell? ⟨ql, 1, none⟩ = some (.int .i64 0) := (blk_cell q8.out 1).trans rfl; have hfz60_0 := blk_frozen q8.out 0; have hfz60_1 := blk_frozen q8.out 1) | ((with_reducible refine gate_callee (f := 22) rfl ?_); refine goesL_ (some 40) rfl rfl Try.func22 (by kernel_rfl) rfl #[.slice A2 l2.length c2] rfl ma ?_; (with_reducible refine (laws_toIntS.calls k _ _ l2 t238 _ ?side1 ?side2 A19.out).mono ?_); (case side1 => exact Kd.C_below HR2.out (z09)); (case side2 => exact HC2.out); rintro e w61 ⟨v239, rfl, ho0, hb⟩; refine ⟨_, rfl, ?_⟩; have n0_ := q0 (Kd.R_elder' (by refine ra ?_; exact (Kd.R_mono (Kd.R_far (p := ⟨ql, 1, none⟩) (Kd.R_far (p := ⟨ql, 0, none⟩) (Kd.R_types qd.out q8.out (by decide)) (fun _ hk => hk.2) (.slice qe t233.length qf)) (fun _ hk => hk.2) (.int .i64 t236)) (fun _ h_ => h_.1))) (Kd.R_base ho0) hb); have n1_ := q0 (Kd.R_elder' (by refine ra ?_; exact (Kd.R_mono (Kd.R_far (p := ⟨ql, 1, none⟩) (Kd.R_far (p := ⟨ql, 0, none⟩) (Kd.R_types qk.out q8.out (by decide)) (fun _ hk => hk.2) (.slice qe t233.length qf)) (fun _ hk => hk.2) (.int .i64 t236)) (fun _ h_ => h_.1))) (Kd.R_base ho0) hb); have n2_ := q0 (Kd.R_elder' (by refine ra ?_; exact (Kd.R_mono (Kd.R_far (p := ⟨ql, 1, none⟩) (Kd.R_far (p := ⟨ql, 0, none⟩) (Kd.R_types qm.out q8.out (by decide)) (fun _ hk => hk.2) (.slice qe t233.length qf)) (fun _ hk => hk.2) (.int .i64 t236)) (fun _ h_ => h_.1))) (Kd.R_base ho0) hb); have n3_ := q0 (Kd.R_elder' (by refine ra ?_; exact (Kd.R_mono (Kd.R_far (p := ⟨ql, 1, none⟩) (Kd.R_far (p := ⟨ql, 0, none⟩) (Kd.R_types qp.out q8.out (by decide)) (fun _ hk => hk.2) (.slice qe t233.length qf)) (fun _ hk => hk.2) (.int .i64 t236)) (fun _ h_ => h_.1))) (Kd.R_base ho0) hb); have n4_ := q0 (Kd.R_elder' (by refine ra ?_; exact (Kd.R_mono (Kd.R_far (p := ⟨ql, 1, none⟩) (Kd.R_far (p := ⟨ql, 0, none⟩) (Kd.R_types qs.out q8.out (by decide)) (fun _ hk => hk.2) (.slice qe t233.length qf)) (fun _ hk => hk.2) (.int .i64 t236)) (fun _ h_ => h_.1))) (Kd.R_base ho0) hb); have n5_ := q0 (Kd.R_elder' (by refine ra ?_; exact (Kd.R_mono (Kd.R_far (p := ⟨ql, 1, none⟩) (Kd.R_far (p := ⟨ql, 0, none⟩) (Kd.R_types qu.out q8.out (by decide)) (fun _ hk => hk.2) (.slice qe t233.length qf)) (fun _ hk => hk.2) (.int .i64 t236)) (fun _ h_ => h_.1))) (Kd.R_base ho0) hb); have n6_ := q0 (Kd.R_lower (Kd.R_new' (Kd.R_new' (Kd.R_new' (Kd.R_new' (Kd.R_new' (Kd.R_new' ho0 (Kd.R_lt (by refine ra ?_; exact (Kd.R_mono (Kd.R_far (p := ⟨ql, 1, none⟩) (Kd.R_far (p := ⟨ql, 0, none⟩) (Kd.R_types qd.out q8.out (by decide)) (fun _ hk => hk.2) (.slice qe t233.length qf)) (fun _ hk => hk.2) (.int .i64 t236)) (fun _ h_ => h_.1))))) (Kd.R_lt (by refine ra ?_; exact (Kd.R_mono (Kd.R_far (p := ⟨ql, 1, none⟩) (Kd.R_far (p := ⟨ql, 0, none⟩) (Kd.R_types qk.out q8.out (by decide)) (fun _ hk => hk.2) (.slice qe t233.length qf)) (fun _ hk => hk.2) (.int .i64 t236)) (fun _ h_ => h_.1))))) (Kd.R_lt (by refine ra ?_; exact (Kd.R_mono (Kd.R_far (p := ⟨ql, 1, none⟩) (Kd.R_far (p := ⟨ql, 0, none⟩) (Kd.R_types qm.out q8.out (by decide)) (fun _ hk => hk.2) (.slice qe t233.length qf)) (fun _ hk => hk.2) (.int .i64 t236)) (fun _ h_ => h_.1))))) (Kd.R_lt (by refine ra ?_; exact (Kd.R_mono (Kd.R_far (p := ⟨ql, 1, none⟩) (Kd.R_far (p := ⟨ql, 0, none⟩) (Kd.R_types qp.out q8.out (by decide)) (fun _ hk => hk.2) (.slice qe t233.length qf)) (fun _ hk => hk.2) (.int .i64 t236)) (fun _ h_ => h_.1))))) (Kd.R_lt (by refine ra ?_; exact (Kd.R_mono (Kd.R_far (p := ⟨ql, 1, none⟩) (Kd.R_far (p := ⟨ql, 0, none⟩) (Kd.R_types qs.out q8.out (by decide)) (fun _ hk => hk.2) (.slice qe t233.length qf)) (fun _ hk => hk.2) (.int .i64 t236)) (fun _ h_ => h_.1))))) (Kd.R_lt (by refine ra ?_; exact (Kd.R_mono (Kd.R_far (p := ⟨ql, 1, none⟩) (Kd.R_far (p := ⟨ql, 0, none⟩) (Kd.R_types qu.out q8.out (by decide)) (fun _ hk => hk.2) (.slice qe t233.length qf)) (fun _ hk => hk.2) (.int .i64 t236)) (fun _ h_ => h_.1))))) (below_size (z09))); have n7_ := q0 (blk_below (g := q7) (o := .cells #[.slice A1_0 l1_0.length c1_0, .int .i64 a1_1] 31 (0, 0)) (by refine ba ?_; refine blk_far ?_ z10.out _; refine ba ?_; refine blk_far ?_ z10.out _; refine ba ?_; exact q1.out) hb); have n8_ := q0 (blk_below (g := qb) (o := .cells #[.slice qj t225.length qi, .int .i64 t228] 35 (0, 0)) (by refine ba ?_; refine blk_far ?_ z0t.out _; refine ba ?_; refine blk_far ?_ z0t.out _; refine ba ?_; exact q6.out) hb); have n9_ := q0 (blk_below (g := ql) (o := .cells #[.slice qe t233.length qf, .int .i64 t236] 35 (0, 0)) (by refine ba ?_; refine blk_put (cs := #[.slice qe t233.length qf, .int .i64 0]) ?_ 1 _ rfl; refine ba ?_; refine blk_put (cs := #[.slice none 0 0, .int .i64 0]) ?_ 0 _ rfl; refine ba ?_; exact q8.out) hb); have n10_ := q0 (below_step (z09) hb); clear qd; clear qk; clear qm; clear qp; clear qs; clear qu; clear q1; clear q6; clear q8; clear HB; have qd := n0_; have qk := n1_; have qm := n2_; have qp := n3_; have qs := n4_; have qu := n5_; have qz := n6_; have q1 := n7_; have q6 := n8_; have q8 := n9_; have HB := n10_; clear n0_ n1_ n2_ n3_ n4_ n5_ n6_ n7_ n8_ n9_ n10_; (try clear hb); (try clear hb2); (try clear hk); (try clear hi); (try clear ho0); have hcz62_0 : w61.cell? ⟨ql, 0, none⟩ = some (.slice qe t233.length qf) := (blk_cell q8.out 0).trans rfl; have hcz62_1 : w61.cell? ⟨ql, 1, none⟩ = some (.int .i64 t236) := (blk_cell q8.out 1).trans rfl; have hfz62_0 := blk_frozen q8.out 0; have hfz62_1 := blk_frozen q8.out 1; obtain ⟨z0b, z0c, eo63⟩ := Kd.R_slice qs.out; subst eo63; obtain ⟨z0d, z0e, eo64⟩ := Kd.R_slice qz.out; subst eo64) | ((with_reducible refine gate_callee (f := 44) rfl ?_); refine goesL_ (some 44) rfl rfl Try.func44 (by kernel_rfl) rfl #[.slice z0b t230.length z0c, .agg #[.slice qe t233.length qf, .int .i64 t236], .slice z0d t238.length z0e] rfl ma ?_; (with_reducible refine (impl_HearAll.calls k _ _ t230 _ _ t233 t236 _ _ t238 t241 t244 _ ?side1 ?side2 ?side3 ?side4 ?side5 ?side6 A20.out).mono ?_); (case side1 => exact ca (Kd.R_reads' qs.out).2.2); (case side2 => exact (Kd.R_reads' qs.out).2.1); (case side3 => exact ca (Kd.R_reads' qu.out).2.2); (case side4 => exact (Kd.R_reads' qu.out).2.1); (case side5 => exact ca (Kd.R_reads' qz.out).2.2); (case side6 => exact (Kd.R_reads' qz.out).2.1); rintro e w65 ⟨v242, rfl, ho0, hb⟩; refine ⟨_, rfl, ?_⟩; have n0_ := q0 (Kd.R_elder' (ra qd.out) (Kd.R_base ho0) hb); have n1_ := q0 (Kd.R_elder' (ra qk.out) (Kd.R_base ho0) hb); have n2_ := q0 (Kd.R_elder' (ra qm.out) (Kd.R_base ho0) hb); have n3_ := q0 (Kd.R_elder' (ra qp.out) (Kd.R_base ho0) hb); have n4_ := q0 (Kd.R_elder' (ra qs.out) (Kd.R_base ho0) hb); have n5_ := q0 (Kd.R_elder' (ra qu.out) (Kd.R_base ho0) hb); have n6_ := q0 (Kd.R_elder' (ra qz.out) (Kd.R_base ho0) hb); have n7_ := q0 (Kd.R_lower (Kd.R_new' (Kd.R_new' (Kd.R_new' (Kd.R_new' (Kd.R_new' (Kd.R_new' (Kd.R_new' ho0 (Kd.R_lt (ra qd.out))) (Kd.R_lt (ra qk.out))) (Kd.R_lt (ra qm.out))) (Kd.R_lt (ra qp.out))) (Kd.R_lt (ra qs.out))) (Kd.R_lt (ra qu.out))) (Kd.R_lt (ra qz.out))) (below_size (z09))); have n8_ := q0 (bb q1.out hb); have n9_ := q0 (bb q6.out hb); have n10_ := q0 (bb q8.out hb); have n11_ := q0 (below_step (z09) hb); clear qd; clear qk; clear qm; clear qp; clear qs; clear qu; clear qz; clear q1; clear q6; clear q8; clear HB; have qd := n0_; have qk := n1_; have qm := n2_; have qp := n3_; have qs := n4_; have qu := n5_; have qz := n6_; have z07 := n7_; have q1 := n8_; have q6 := n9_; have q8 := n10_; have HB := n11_; clear n0_ n1_ n2_ n3_ n4_ n5_ n6_ n7_ n8_ n9_ n10_ n11_; (try clear hb); (try clear hb2); (try clear hk); (try clear hi); (try clear ho0)) | ((with_reducible refine gate_dst (N := 12) rfl ?_); refine box_event ?hg (N := 12) ?hd (cs := #[.slice none 0 0, .int .i64 0]) (t := 35) ?hr ?_; (case hd => rfl); (case hg => rfl); (case hr => first | (go_simp; done) | (go_simp; rfl)); intro qn hg w66 hbox hb; have n0_ := q0 (Kd.R_below (ra qd.out) hb); have n1_ := q0 (Kd.R_below (ra qk.out) hb); have n2_ := q0 (Kd.R_below (ra qm.out) hb); have n3_ := q0 (Kd.R_below (ra qp.out) hb); have n4_ := q0 (Kd.R_below (ra qs.out) hb); have n5_ := q0 (Kd.R_below (ra qu.out) hb); have n6_ := q0 (Kd.R_below (ra qz.out) hb); have n7_ := q0 (Kd.R_below (ra z07.out) hb); have n8_ := q0 (bb q1.out hb); have n9_ := q0 (bb q6.out hb); have n10_ := q0 (bb q8.out hb); have n11_ := q0 (below_step (z09) hb); have n12_ := q0 (hbox); have n13_ := q0 ((by rw [hg]; exact (below_size (z09)) : w.heap.size ≤ qn)); have n14_ := q0 ((by rw [hg]; exact (below_size (z09)) : w.heap.size ≤ qn)); have n15_ := q0 ((by rw [hg]; exact Nat.ne_of_lt (bl q1.out) : q7 ≠ qn)); have n16_ := q0 ((by rw [hg]; exact Nat.ne_of_gt (bl q1.out) : qn ≠ q7)); have n17_ := q0 ((by rw [hg]; exact Nat.ne_of_lt (bl q6.out) : qb ≠ qn)); have n18_ := q0 ((by rw [hg]; exact Nat.ne_of_gt (bl q6.out) : qn ≠ qb)); have n19_ := q0 ((by rw [hg]; exact Nat.ne_of_lt (bl q8.out) : ql ≠ qn)); have n20_ := q0 ((by rw [hg]; exact Nat.ne_of_gt (bl q8.out) : qn ≠ ql)); clear qd; clear qk; clear qm; clear qp; clear qs; clear qu; clear qz; clear z07; clear q1; clear q6; clear q8; clear HB; have qd := n0_; have qk := n1_; have qm := n2_; have qp := n3_; have qs := n4_; have qu := n5_; have qz := n6_; have z07 := n7_; have q1 := n8_; have q6 := n9_; have q8 := n10_; have HB := n11_; have q9 := n12_; have GW245 := n13_; have z1u := n14_; have z0u := n15_; have z12 := n16_; have z0v := n17_; have z13 := n18_; have z0w := n19_; have z14 := n20_; clear n0_ n1_ n2_ n3_ n4_ n5_ n6_ n7_ n8_ n9_ n10_ n11_ n12_ n13_ n14_ n15_ n16_ n17_ n18_ n19_ n20_; clear hb hbox hg; obtain ⟨qh, qg, eo67⟩ := Kd.R_slice z07.out; subst eo67; have hnb68 := z12.out; have hnc68 := z0u.out; have hnb69 := z13.out; have hnc69 := z0v.out; have hnb70 := z14.out; have hnc70 := z0w.out; have hcz71_0 : w66.cell? ⟨qn, 0, none⟩ = some (.slice none 0 0) := (blk_cell q9.out 0).trans rfl; have hcz71_1 : w66.cell? ⟨qn, 1, none⟩ = some (.int .i64 0) := (blk_cell q9.out 1).trans rfl; have hfz71_0 := blk_frozen q9.out 0; have hfz71_1 := blk_frozen q9.out 1; have hcz72_0 : w66.cell? ⟨qb, 0, none⟩ = some (.slice qj t225.length qi) := (blk_cell q6.out 0).trans rfl; have hcz72_1 : w66.cell? ⟨qb, 1, none⟩ = some (.int .i64 t228) := (blk_cell q6.out 1).trans rfl; have hfz72_0 := blk_frozen q6.out 0; have hfz72_1 := blk_frozen q6.out 1) | ((with_reducible refine gate_callee (f := 26) rfl ?_); refine goesL_ (some 47) rfl rfl Try.func26 (by kernel_rfl) rfl #[.agg #[.slice qh t241.length qg, .int .i64 t244], .agg #[.slice qj t225.length qi, .int .i64 t228]] rfl ma ?_; (with_reducible refine (laws_eqFollower.calls k _ _ t241 t244 _ _ t225 t228 true _ ?side1 ?side2 ?side3 ?side4 A21.out).mono ?_); (case side1 => refine (Kd.R_reads' (e := 3) (base := w.heap.size) (ok := fun k_ => (((((((True ∧ some k_ ≠ (v216 : Value).ownBlock) ∧ some k_ ≠ (v219 : Value).ownBlock) ∧ some k_ ≠ (v223 : Value).ownBlock) ∧ some k_ ≠ (.slice qj t225.length qi : Value).ownBlock) ∧ some k_ ≠ (.slice z0b t230.length z0c : Value).ownBlock) ∧ some k_ ≠ (.slice qe t233.length qf : Value).ownBlock) ∧ some k_ ≠ (.slice z0d t238.length z0e : Value).ownBlock)) (n := t241.length) (c := qg) ?_).2.2; exact (by refine ra ?_; exact (Kd.R_mono (Kd.R_far (p := ⟨qn, 1, none⟩) (Kd.R_far (p := ⟨qn, 0, none⟩) (Kd.R_types z07.out q9.out (by decide)) (fun _ hk => hk.2) (.slice qh t241.length qg)) (fun _ hk => hk.2) (.int .i64 t244)) (fun _ h_ => h_.1)))); (case side2 => exact (Kd.R_reads' z07.out).2.1); (case side3 => refine (Kd.R_reads' (e := 3) (base := w.heap.size) (ok := fun k_ => (((((some k_ ≠ (v216 : Value).ownBlock ∧ (some k_ ≠ (v219 : Value).ownBlock ∧ some k_ ≠ (v223 : Value).ownBlock)) ∧ some k_ ≠ (.slice z0b t230.length z0c : Value).ownBlock) ∧ some k_ ≠ (.slice qe t233.length qf : Value).ownBlock) ∧ some k_ ≠ (.slice z0d t238.length z0e : Value).ownBlock) ∧ some k_ ≠ (.slice qh t241.length qg : Value).ownBlock)) (n := t225.length) (c := qi) ?_).2.2; exact (by refine ra ?_; exact (Kd.R_mono (Kd.R_far (p := ⟨qn, 1, none⟩) (Kd.R_far (p := ⟨qn, 0, none⟩) (Kd.R_types qp.out q9.out (by decide)) (fun _ hk => hk.2) (.slice qh t241.length qg)) (fun _ hk => hk.2) (.int .i64 t244)) (fun _ h_ => h_.1)))); (case side4 => exact (Kd.R_reads' qp.out).2.1); rintro e w73 ⟨rfl, hb⟩; refine ⟨_, rfl, ?_⟩; have n0_ := q0 (Kd.R_below (by refine ra ?_; exact (Kd.R_mono (Kd.R_far (p := ⟨qn, 1, none⟩) (Kd.R_far (p := ⟨qn, 0, none⟩) (Kd.R_types qd.out q9.out (by decide)) (fun _ hk => hk.2) (.slice qh t241.length qg)) (fun _ hk => hk.2) (.int .i64 t244)) (fun _ h_ => h_.1))) hb); have n1_ := q0 (Kd.R_below (by refine ra ?_; exact (Kd.R_mono (Kd.R_far (p := ⟨qn, 1, none⟩) (Kd.R_far (p := ⟨qn, 0, none⟩) (Kd.R_types qk.out q9.out (by decide)) (fun _ hk => hk.2) (.slice qh t241.length qg)) (fun _ hk => hk.2) (.int .i64 t244)) (fun _ h_ => h_.1))) hb); have n2_ := q0 (Kd.R_below (by refine ra ?_; exact (Kd.R_mono (Kd.R_far (p := ⟨qn, 1, none⟩) (Kd.R_far (p := ⟨qn, 0, none⟩) (Kd.R_types qm.out q9.out (by decide)) (fun _ hk => hk.2) (.slice qh t241.length qg)) (fun _ hk => hk.2) (.int .i64 t244)) (fun _ h_ => h_.1))) hb); have n3_ := q0 (Kd.R_below (by refine ra ?_; exact (Kd.R_mono (Kd.R_far (p := ⟨qn, 1, none⟩) (Kd.R_far (p := ⟨qn, 0, none⟩) (Kd.R_types qp.out q9.out (by decide)) (fun _ hk => hk.2) (.slice qh t241.length qg)) (fun _ hk => hk.2) (.int .i64 t244)) (fun _ h_ => h_.1))) hb); have n4_ := q0 (Kd.R_below (by refine ra ?_; exact (Kd.R_mono (Kd.R_far (p := ⟨qn, 1, none⟩) (Kd.R_far (p := ⟨qn, 0, none⟩) (Kd.R_types qs.out q9.out (by decide)) (fun _ hk => hk.2) (.slice qh t241.length qg)) (fun _ hk => hk.2) (.int .i64 t244)) (fun _ h_ => h_.1))) hb); have n5_ := q0 (Kd.R_below (by refine ra ?_; exact (Kd.R_mono (Kd.R_far (p := ⟨qn, 1, none⟩) (Kd.R_far (p := ⟨qn, 0, none⟩) (Kd.R_types qu.out q9.out (by decide)) (fun _ hk => hk.2) (.slice qh t241.length qg)) (fun _ hk => hk.2) (.int .i64 t244)) (fun _ h_ => h_.1))) hb); have n6_ := q0 (Kd.R_below (by refine ra ?_; exact (Kd.R_mono (Kd.R_far (p := ⟨qn, 1, none⟩) (Kd.R_far (p := ⟨qn, 0, none⟩) (Kd.R_types qz.out q9.out (by decide)) (fun _ hk => hk.2) (.slice qh t241.length qg)) (fun _ hk => hk.2) (.int .i64 t244)) (fun _ h_ => h_.1))) hb); have n7_ := q0 (Kd.R_below (by refine ra ?_; exact (Kd.R_mono (Kd.R_far (p := ⟨qn, 1, none⟩) (Kd.R_far (p := ⟨qn, 0, none⟩) (Kd.R_types z07.out q9.out (by decide)) (fun _ hk => hk.2) (.slice qh t241.length qg)) (fun _ hk => hk.2) (.int .i64 t244)) (fun _ h_ => h_.1))) hb); have n8_ := q0 (blk_below (g := q7) (o := .cells #[.slice A1_0 l1_0.length c1_0, .int .i64 a1_1] 31 (0, 0)) (by refine ba ?_; refine blk_far ?_ z0u.out _; refine ba ?_; refine blk_far ?_ z0u.out _; refine ba ?_; exact q1.out) hb); have n9_ := q0 (blk_below (g := qb) (o := .cells #[.slice qj t225.length qi, .int .i64 t228] 35 (0, 0)) (by refine ba ?_; refine blk_far ?_ z0v.out _; refine ba ?_; refine blk_far ?_ z0v.out _; refine ba ?_; exact q6.out) hb); have n10_ := q0 (blk_below (g := ql) (o := .cells #[.slice qe t233.length qf, .int .i64 t236] 35 (0, 0)) (by refine ba ?_; refine blk_far ?_ z0w.out _; refine ba ?_; refine blk_far ?_ z0w.out _; refine ba ?_; exact q8.out) hb); have n11_ := q0 (blk_below (g := qn) (o := .cells #[.slice qh t241.length qg, .int .i64 t244] 35 (0, 0)) (by refine ba ?_; refine blk_put (cs := #[.slice qh t241.length qg, .int .i64 0]) ?_ 1 _ rfl; refine ba ?_; refine blk_put (cs := #[.slice none 0 0, .int .i64 0]) ?_ 0 _ rfl; refine ba ?_; exact q9.out) hb); have n12_ := q0 (below_step (q3) hb); clear qd; clear qk; clear qm; clear qp; clear qs; clear qu; clear qz; clear z07; clear q1; clear q6; clear q8; clear q9; clear HB; have qd := n0_; have qk := n1_; have qm := n2_; have qp := n3_; have qs := n4_; have qu := n5_; have qz := n6_; have z07 := n7_; have q1 := n8_; have q6 := n9_; have q8 := n10_; have q9 := n11_; have HB := n12_; clear n0_ n1_ n2_ n3_ n4_ n5_ n6_ n7_ n8_ n9_ n10_ n11_ n12_; (try clear hb); (try clear hb2); (try clear hk); (try clear hi)) | ((with_reducible refine gate_callee (f := 22) rfl ?_); refine goesL_ (some 51) rfl rfl Try.func22 (by kernel_rfl) rfl #[.slice A0 l0.length c0] rfl ma ?_; (with_reducible refine (laws_toIntS.calls k _ _ l0 t247 _ ?side1 ?side2 A23.out).mono ?_); (case side1 => exact ca (Kd.C_below HR0.out HB.out)); (case side2 => exact HC0.out); rintro e w74 ⟨v248, rfl, ho0, hb⟩; refine ⟨_, rfl, ?_⟩; have n0_ := q0 (Kd.R_elder' (ra qd.out) (Kd.R_base ho0) hb); have n1_ := q0 (Kd.R_elder' (ra qk.out) (Kd.R_base ho0) hb); have n2_ := q0 (Kd.R_elder' (ra qm.out) (Kd.R_base ho0) hb); have n3_ := q0 (Kd.R_elder' (ra qp.out) (Kd.R_base ho0) hb); have n4_ := q0 (Kd.R_elder' (ra qs.out) (Kd.R_base ho0) hb); have n5_ := q0 (Kd.R_elder' (ra qu.out) (Kd.R_base ho0) hb); have n6_ := q0 (Kd.R_elder' (ra qz.out) (Kd.R_base ho0) hb); have n7_ := q0 (Kd.R_elder' (ra z07.out) (Kd.R_base ho0) hb); have n8_ := q0 (Kd.R_lower (Kd.R_new' (Kd.R_new' (Kd.R_new' (Kd.R_new' (Kd.R_new' (Kd.R_new' (Kd.R_new' (Kd.R_new' ho0 (Kd.R_lt (ra qd.out))) (Kd.R_lt (ra qk.out))) (Kd.R_lt (ra qm.out))) (Kd.R_lt (ra qp.out))) (Kd.R_lt (ra qs.out))) (Kd.R_lt (ra qu.out))) (Kd.R_lt (ra qz.out))) (Kd.R_lt (ra z07.out))) (below_size (q3))); have n9_ := q0 (bb q1.out hb); have n10_ := q0 (bb q6.out hb); have n11_ := q0 (bb q8.out hb); have n12_ := q0 (bb q9.out hb); have n13_ := q0 (below_step (q3) hb); clear qd; clear qk; clear qm; clear qp; clear qs; clear qu; clear qz; clear z07; clear q1; clear q6; clear q8; clear q9; clear HB; have qd := n0_; have qk := n1_; have qm := n2_; have qp := n3_; have qs := n4_; have qu := n5_; have qz := n6_; have z07 := n7_; have z0a := n8_; have q1 := n9_; have q6 := n10_; have q8 := n11_; have q9 := n12_; have HB := n13_; clear n0_ n1_ n2_ n3_ n4_ n5_ n6_ n7_ n8_ n9_ n10_ n11_ n12_ n13_; (try clear hb); (try clear hb2); (try clear hk); (try clear hi); (try clear ho0); obtain ⟨z0f, z0g, eo75⟩ := Kd.R_slice z0a.out; subst eo75) | ((with_reducible refine gate_callee (f := 25) rfl ?_); refine goesL_ (some 52) rfl rfl Try.func25 (by kernel_rfl) rfl #[.slice z0b t230.length z0c, .slice z0f t247.length z0g] rfl ma ?_; (with_reducible refine (laws_eqIntS.calls k _ _ t230 _ _ t247 true _ ?side1 ?side2 ?side3 ?side4 A24.out).mono ?_); (case side1 => exact ca (Kd.R_reads' qs.out).2.2); (case side2 => exact (Kd.R_reads' qs.out).2.1); (case side3 => exact ca (Kd.R_reads' z0a.out).2.2); (case side4 => exact (Kd.R_reads' z0a.out).2.1); rintro e w' ⟨rfl, ⟨nd, rfl⟩⟩; refine ⟨_, rfl, ?_⟩))
               (try (rw [drewN_self w74]; generalize hq_ : World.drewN w74 _ = w74; have n0_ : Aside0 (Kd.R (Kd.int .i64) 3 w74 w.heap.size (fun k_ => some k_ ≠ (v219 : Value).ownBlock ∧ some k_ ≠ (v223 : Value).ownBlock ∧ some k_ ≠ (.slice qj t225.length qi : Value).ownBlock ∧ some k_ ≠ (.slice z0b t230.length z0c : Value).ownBlock ∧ some k_ ≠ (.slice qe t233.length qf : Value).ownBlock ∧ some k_ ≠ (.slice z0d t238.length z0e : Value).ownBlock ∧ some k_ ≠ (.slice qh t241.length qg : Value).ownBlock ∧ some k_ ≠ (.slice z0f t247.length z0g : Value).ownBlock) v216 t215) := ⟨by rw [← hq_]; exact (by refine ra ?_; exact Kd.R_mono qd.out (fun _ hk => ⟨hk.1.1.1.1.1.1, ⟨hk.1.1.1.1.1.2.1, ⟨hk.1.1.1.1.1.2.2, ⟨hk.1.1.1.1.2, ⟨hk.1.1.1.2, ⟨hk.1.1.2, ⟨hk.1.2, hk.2⟩⟩⟩⟩⟩⟩⟩))⟩; have n1_ : Aside0 (Kd.R (Kd.int .i64) 3 w74 w.heap.size (fun k_ => some k_ ≠ (v216 : Value).ownBlock ∧ some k_ ≠ (v223 : Value).ownBlock ∧ some k_ ≠ (.slice qj t225.length qi : Value).ownBlock ∧ some k_ ≠ (.slice z0b t230.length z0c : Value).ownBlock ∧ some k_ ≠ (.slice qe t233.length qf : Value).ownBlock ∧ some k_ ≠ (.slice z0d t238.length z0e : Value).ownBlock ∧ some k_ ≠ (.slice qh t241.length qg : Value).ownBlock ∧ some k_ ≠ (.slice z0f t247.length z0g : Value).ownBlock) v219 t218) := ⟨by rw [← hq_]; exact (by refine ra ?_; exact Kd.R_mono qk.out (fun _ hk => ⟨hk.1.1.1.1.1.1, ⟨hk.1.1.1.1.1.2.1, ⟨hk.1.1.1.1.1.2.2, ⟨hk.1.1.1.1.2, ⟨hk.1.1.1.2, ⟨hk.1.1.2, ⟨hk.1.2, hk.2⟩⟩⟩⟩⟩⟩⟩))⟩; have n2_ : Aside0 (Kd.R (Kd.int .i64) 3 w74 w.heap.size (fun k_ => some k_ ≠ (v216 : Value).ownBlock ∧ some k_ ≠ (v219 : Value).ownBlock ∧ some k_ ≠ (.slice qj t225.length qi : Value).ownBlock ∧ some k_ ≠ (.slice z0b t230.length z0c : Value).ownBlock ∧ some k_ ≠ (.slice qe t233.length qf : Value).ownBlock ∧ some k_ ≠ (.slice z0d t238.length z0e : Value).ownBlock ∧ some k_ ≠ (.slice qh t241.length qg : Value).ownBlock ∧ some k_ ≠ (.slice z0f t247.length z0g : Value).ownBlock) v223 t222) := ⟨by rw [← hq_]; exact (by refine ra ?_; exact Kd.R_mono qm.out (fun _ hk => ⟨hk.1.1.1.1.1.1, ⟨hk.1.1.1.1.1.2.1, ⟨hk.1.1.1.1.1.2.2, ⟨hk.1.1.1.1.2, ⟨hk.1.1.1.2, ⟨hk.1.1.2, ⟨hk.1.2, hk.2⟩⟩⟩⟩⟩⟩⟩))⟩; have n3_ : Aside0 (Kd.R (Kd.int .i64) 3 w74 w.heap.size (fun k_ => some k_ ≠ (v216 : Value).ownBlock ∧ some k_ ≠ (v219 : Value).ownBlock ∧ some k_ ≠ (v223 : Value).ownBlock ∧ some k_ ≠ (.slice z0b t230.length z0c : Value).ownBlock ∧ some k_ ≠ (.slice qe t233.length qf : Value).ownBlock ∧ some k_ ≠ (.slice z0d t238.length z0e : Value).ownBlock ∧ some k_ ≠ (.slice qh t241.length qg : Value).ownBlock ∧ some k_ ≠ (.slice z0f t247.length z0g : Value).ownBlock) (.slice qj t225.length qi) t225) := ⟨by rw [← hq_]; exact (by refine ra ?_; exact Kd.R_mono qp.out (fun _ hk => ⟨hk.1.1.1.1.1.1, ⟨hk.1.1.1.1.1.2.1, ⟨hk.1.1.1.1.1.2.2, ⟨hk.1.1.1.1.2, ⟨hk.1.1.1.2, ⟨hk.1.1.2, ⟨hk.1.2, hk.2⟩⟩⟩⟩⟩⟩⟩))⟩; have n4_ : Aside0 (Kd.R (Kd.int .i64) 3 w74 w.heap.size (fun k_ => some k_ ≠ (v216 : Value).ownBlock ∧ some k_ ≠ (v219 : Value).ownBlock ∧ some k_ ≠ (v223 : Value).ownBlock ∧ some k_ ≠ (.slice qj t225.length qi : Value).ownBlock ∧ some k_ ≠ (.slice qe t233.length qf : Value).ownBlock ∧ some k_ ≠ (.slice z0d t238.length z0e : Value).ownBlock ∧ some k_ ≠ (.slice qh t241.length qg : Value).ownBlock ∧ some k_ ≠ (.slice z0f t247.length z0g : Value).ownBlock) (.slice z0b t230.length z0c) t230) := ⟨by rw [← hq_]; exact (by refine ra ?_; exact Kd.R_mono qs.out (fun _ hk => ⟨hk.1.1.1.1.1.1.1.2, ⟨hk.1.1.1.1.1.1.2, ⟨hk.1.1.1.1.1.2, ⟨hk.1.1.1.1.2, ⟨hk.1.1.1.2, ⟨hk.1.1.2, ⟨hk.1.2, hk.2⟩⟩⟩⟩⟩⟩⟩))⟩; have n5_ : Aside0 (Kd.R (Kd.int .i64) 3 w74 w.heap.size (fun k_ => some k_ ≠ (v216 : Value).ownBlock ∧ some k_ ≠ (v219 : Value).ownBlock ∧ some k_ ≠ (v223 : Value).ownBlock ∧ some k_ ≠ (.slice qj t225.length qi : Value).ownBlock ∧ some k_ ≠ (.slice z0b t230.length z0c : Value).ownBlock ∧ some k_ ≠ (.slice z0d t238.length z0e : Value).ownBlock ∧ some k_ ≠ (.slice qh t241.length qg : Value).ownBlock ∧ some k_ ≠ (.slice z0f t247.length z0g : Value).ownBlock) (.slice qe t233.length qf) t233) := ⟨by rw [← hq_]; exact (by refine ra ?_; exact Kd.R_mono qu.out (fun _ hk => ⟨hk.1.1.1.1.1.1.1.2, ⟨hk.1.1.1.1.1.1.2, ⟨hk.1.1.1.1.1.2, ⟨hk.1.1.1.1.2, ⟨hk.1.1.1.2, ⟨hk.1.1.2, ⟨hk.1.2, hk.2⟩⟩⟩⟩⟩⟩⟩))⟩; have n6_ : Aside0 (Kd.R (Kd.int .i64) 3 w74 w.heap.size (fun k_ => some k_ ≠ (v216 : Value).ownBlock ∧ some k_ ≠ (v219 : Value).ownBlock ∧ some k_ ≠ (v223 : Value).ownBlock ∧ some k_ ≠ (.slice qj t225.length qi : Value).ownBlock ∧ some k_ ≠ (.slice z0b t230.length z0c : Value).ownBlock ∧ some k_ ≠ (.slice qe t233.length qf : Value).ownBlock ∧ some k_ ≠ (.slice qh t241.length qg : Value).ownBlock ∧ some k_ ≠ (.slice z0f t247.length z0g : Value).ownBlock) (.slice z0d t238.length z0e) t238) := ⟨by rw [← hq_]; exact (by refine ra ?_; exact Kd.R_mono qz.out (fun _ hk => ⟨hk.1.1.1.1.1.1.1.2, ⟨hk.1.1.1.1.1.1.2, ⟨hk.1.1.1.1.1.2, ⟨hk.1.1.1.1.2, ⟨hk.1.1.1.2, ⟨hk.1.1.2, ⟨hk.1.2, hk.2⟩⟩⟩⟩⟩⟩⟩))⟩; have n7_ : Aside0 (Kd.R (Kd.int .i64) 3 w74 w.heap.size (fun k_ => some k_ ≠ (v216 : Value).ownBlock ∧ some k_ ≠ (v219 : Value).ownBlock ∧ some k_ ≠ (v223 : Value).ownBlock ∧ some k_ ≠ (.slice qj t225.length qi : Value).ownBlock ∧ some k_ ≠ (.slice z0b t230.length z0c : Value).ownBlock ∧ some k_ ≠ (.slice qe t233.length qf : Value).ownBlock ∧ some k_ ≠ (.slice z0d t238.length z0e : Value).ownBlock ∧ some k_ ≠ (.slice z0f t247.length z0g : Value).ownBlock) (.slice qh t241.length qg) t241) := ⟨by rw [← hq_]; exact (by refine ra ?_; exact Kd.R_mono z07.out (fun _ hk => ⟨hk.1.1.1.1.1.1.1.2, ⟨hk.1.1.1.1.1.1.2, ⟨hk.1.1.1.1.1.2, ⟨hk.1.1.1.1.2, ⟨hk.1.1.1.2, ⟨hk.1.1.2, ⟨hk.1.2, hk.2⟩⟩⟩⟩⟩⟩⟩))⟩; have n8_ : Aside0 (Kd.R (Kd.int .i64) 3 w74 w.heap.size (fun k_ => some k_ ≠ (v216 : Value).ownBlock ∧ some k_ ≠ (v219 : Value).ownBlock ∧ some k_ ≠ (v223 : Value).ownBlock ∧ some k_ ≠ (.slice qj t225.length qi : Value).ownBlock ∧ some k_ ≠ (.slice z0b t230.length z0c : Value).ownBlock ∧ some k_ ≠ (.slice qe t233.length qf : Value).ownBlock ∧ some k_ ≠ (.slice z0d t238.length z0e : Value).ownBlock ∧ some k_ ≠ (.slice qh t241.length qg : Value).ownBlock) (.slice z0f t247.length z0g) t247) := ⟨by rw [← hq_]; exact (by refine ra ?_; exact Kd.R_mono z0a.out (fun _ hk => ⟨hk.1.1.1.1.1.1.1.2, ⟨hk.1.1.1.1.1.1.2, ⟨hk.1.1.1.1.1.2, ⟨hk.1.1.1.1.2, ⟨hk.1.1.1.2, ⟨hk.1.1.2, ⟨hk.1.2, hk.2⟩⟩⟩⟩⟩⟩⟩))⟩; have n9_ : Aside0 (w74.heap[q7]? = some (.cells #[.slice A1_0 l1_0.length c1_0, .int .i64 a1_1] 31 (0, 0))) := ⟨by rw [← hq_]; exact (ba q1.out)⟩; have n10_ : Aside0 (w74.heap[qb]? = some (.cells #[.slice qj t225.length qi, .int .i64 t228] 35 (0, 0))) := ⟨by rw [← hq_]; exact (ba q6.out)⟩; have n11_ : Aside0 (w74.heap[ql]? = some (.cells #[.slice qe t233.length qf, .int .i64 t236] 35 (0, 0))) := ⟨by rw [← hq_]; exact (ba q8.out)⟩; have n12_ : Aside0 (w74.heap[qn]? = some (.cells #[.slice qh t241.length qg, .int .i64 t244] 35 (0, 0))) := ⟨by rw [← hq_]; exact (ba q9.out)⟩; have n13_ : Aside0 (Below w.heap.size w w74) := ⟨by rw [← hq_]; exact (q3)⟩; clear qd qk qm qp qs qu qz z07 z0a q1 q6 q8 q9 HB hq_; have qd := n0_; have qk := n1_; have qm := n2_; have qp := n3_; have qs := n4_; have qu := n5_; have qz := n6_; have z07 := n7_; have z0a := n8_; have q1 := n9_; have q6 := n10_; have q8 := n11_; have q9 := n12_; have HB := n13_; clear n0_ n1_ n2_ n3_ n4_ n5_ n6_ n7_ n8_ n9_ n10_ n11_ n12_ n13_))
               have n0_ := q0 (Kd.R_drew qd.out); have n1_ := q0 (Kd.R_drew qk.out); have n2_ := q0 (Kd.R_drew qm.out); have n3_ := q0 (Kd.R_drew qp.out); have n4_ := q0 (Kd.R_drew qs.out); have n5_ := q0 (Kd.R_drew qu.out); have n6_ := q0 (Kd.R_drew qz.out); have n7_ := q0 (Kd.R_drew z07.out); have n8_ := q0 (Kd.R_drew z0a.out); have n9_ := q0 (blk_drew q1.out); have n10_ := q0 (blk_drew q6.out); have n11_ := q0 (blk_drew q8.out); have n12_ := q0 (blk_drew q9.out); have n13_ := q0 (below_drew1 HB.out); clear qd qk qm qp qs qu qz z07 z0a q1 q6 q8 q9 HB; have qd := n0_; have qk := n1_; have qm := n2_; have qp := n3_; have qs := n4_; have qu := n5_; have qz := n6_; have z07 := n7_; have z0a := n8_; have q1 := n9_; have q6 := n10_; have q8 := n11_; have q9 := n12_; have HB := n13_; clear n0_ n1_ n2_ n3_ n4_ n5_ n6_ n7_ n8_ n9_ n10_ n11_ n12_ n13_
               refine start_ (n := 5) (S := fun w' => w'.cell? ⟨ql, 0, none⟩ = some (.slice qe t233.length qf) ∧ w'.cell? ⟨ql, 1, none⟩ = some (.int .i64 t236) ∧ w'.cell? ⟨q7, 0, none⟩ = some (.slice A1_0 l1_0.length c1_0) ∧ w'.cell? ⟨q7, 1, none⟩ = some (.int .i64 a1_1)) (ds := []) #[false, false, false, false, false] (by kernel_rfl) rfl rfl ⟨(blk_cell q8.out 0).trans rfl, (blk_cell q8.out 1).trans rfl, (blk_cell q1.out 0).trans rfl, (blk_cell q1.out 1).trans rfl⟩ (fun hHeld => ?_)
               generalize w74.drew = w76 at qd qk qm qp qs qu qz z07 z0a q1 q6 q8 q9 HB hHeld ⊢
               refine take_ (i := 0) (N := some 54) (v := ?_) (a' := ?_) #[true, false, false, false, false] rfl rfl (by kernel_rfl) (fun _ _ _ h => h) (Or.inl ⟨by rfl, ?_⟩) hHeld ?_ ?_
               rotate_left
               · rintro w' ⟨s0, s1, s2, s3⟩
                 go_simp
                 with_reducible rfl
               rotate_left
               · simp only [Act.put, List.setIfInBounds_toArray, List.set_cons_zero, List.set_cons_succ, i64_w, i32_w]
                 rfl
               refine take_ (i := 1) (N := some 55) (v := ?_) (a' := ?_) #[true, true, false, false, false] rfl rfl (by kernel_rfl) (fun _ _ _ h => h) (Or.inl ⟨by rfl, ?_⟩) hHeld ?_ ?_
               rotate_left
               · rintro w' ⟨s0, s1, s2, s3⟩
                 go_simp
                 with_reducible rfl
               rotate_left
               · simp only [Act.put, List.setIfInBounds_toArray, List.set_cons_zero, List.set_cons_succ, i64_w, i32_w]
                 rfl
               refine one_ (i := 2) (N := some 56) #[true, true, true, false, false] rfl rfl (by kernel_rfl) (by decide) (fun K hK => ?_)
               refine goes_ Try.func23 (by kernel_rfl) rfl #[.agg #[.slice A1_0 l1_0.length c1_0, .int .i64 a1_1]] (by rfl) rfl rfl ma ?_
               with_reducible refine (laws_toFollower.calls k _ _ l1_0 a1_1 t251 t254 _ ?side1 ?side2 A26.out).mono ?_
               (case side1 => exact ca (Kd.C_below HR1_0.out HB.out))
               (case side2 => exact HC1_0.out)
               rintro e w77 ⟨v252, rfl, ho0, hb⟩
               refine ⟨_, rfl, ?_⟩
               have n0_ := q0 (Kd.R_elder' (ra qd.out) (Kd.R_base ho0) hb); have n1_ := q0 (Kd.R_elder' (ra qk.out) (Kd.R_base ho0) hb); have n2_ := q0 (Kd.R_elder' (ra qm.out) (Kd.R_base ho0) hb); have n3_ := q0 (Kd.R_elder' (ra qp.out) (Kd.R_base ho0) hb); have n4_ := q0 (Kd.R_elder' (ra qs.out) (Kd.R_base ho0) hb); have n5_ := q0 (Kd.R_elder' (ra qu.out) (Kd.R_base ho0) hb); have n6_ := q0 (Kd.R_elder' (ra qz.out) (Kd.R_base ho0) hb); have n7_ := q0 (Kd.R_elder' (ra z07.out) (Kd.R_base ho0) hb); have n8_ := q0 (Kd.R_elder' (ra z0a.out) (Kd.R_base ho0) hb); have n9_ := q0 (Kd.R_lower (Kd.R_new' (Kd.R_new' (Kd.R_new' (Kd.R_new' (Kd.R_new' (Kd.R_new' (Kd.R_new' (Kd.R_new' (Kd.R_new' ho0 (Kd.R_lt (ra qd.out))) (Kd.R_lt (ra qk.out))) (Kd.R_lt (ra qm.out))) (Kd.R_lt (ra qp.out))) (Kd.R_lt (ra qs.out))) (Kd.R_lt (ra qu.out))) (Kd.R_lt (ra qz.out))) (Kd.R_lt (ra z07.out))) (Kd.R_lt (ra z0a.out))) (below_size (q3))); have n10_ := q0 (bb q1.out hb); have n11_ := q0 (bb q6.out hb); have n12_ := q0 (bb q8.out hb); have n13_ := q0 (bb q9.out hb); have n14_ := q0 (below_step (q3) hb); clear qd qk qm qp qs qu qz z07 z0a q1 q6 q8 q9 HB; have qd := n0_; have qk := n1_; have qm := n2_; have qp := n3_; have qs := n4_; have qu := n5_; have qz := n6_; have z07 := n7_; have z0a := n8_; have z0h := n9_; have q1 := n10_; have q6 := n11_; have q8 := n12_; have q9 := n13_; have HB := n14_; clear n0_ n1_ n2_ n3_ n4_ n5_ n6_ n7_ n8_ n9_ n10_ n11_ n12_ n13_ n14_; (try clear hb); (try clear hb2); (try clear hk); (try clear hi); (try clear ho0)
               obtain ⟨z0i, z0j, eo78⟩ := Kd.R_slice z0h.out
               (first | subst eo78 | (injection eo78 with f1_ f2_ f3_; have f4_ := f1_.symm; have f5_ := f3_.symm; clear f1_ f2_ f3_; subst f4_; subst f5_))
               refine hK.out _ _ ⟨(blk_cell q8.out 0).trans rfl, (blk_cell q8.out 1).trans rfl, (blk_cell q1.out 0).trans rfl, (blk_cell q1.out 1).trans rfl⟩ (fun hHeld => ?_)
               clear hK K
               refine norm_ (a' := ?_) ?_ ?_
               rotate_left
               · show Act.put _ (some 56) _ = _
                 simp only [Act.put, List.setIfInBounds_toArray, List.set_cons_zero, List.set_cons_succ, i64_w, i32_w]
                 rfl
               refine one_ (i := 3) (N := some 57) #[true, true, true, true, false] rfl rfl (by kernel_rfl) (by decide) (fun K hK => ?_)
               refine goes_ Try.func26 (by kernel_rfl) rfl #[.agg #[.slice qe t233.length qf, .int .i64 t236], .agg #[.slice z0i t251.length z0j, .int .i64 t254]] (by rfl) rfl rfl ma ?_
               with_reducible refine (laws_eqFollower.calls k _ _ t233 t236 _ _ t251 t254 true _ ?side1 ?side2 ?side3 ?side4 A27.out).mono ?_
               (case side1 => exact ca (Kd.R_reads' qu.out).2.2)
               (case side2 => exact (Kd.R_reads' qu.out).2.1)
               (case side3 => exact ca (Kd.R_reads' z0h.out).2.2)
               (case side4 => exact (Kd.R_reads' z0h.out).2.1)
               rintro e w79 ⟨rfl, hb⟩
               refine ⟨_, rfl, ?_⟩
               have n0_ := q0 (Kd.R_below (ra qd.out) hb); have n1_ := q0 (Kd.R_below (ra qk.out) hb); have n2_ := q0 (Kd.R_below (ra qm.out) hb); have n3_ := q0 (Kd.R_below (ra qp.out) hb); have n4_ := q0 (Kd.R_below (ra qs.out) hb); have n5_ := q0 (Kd.R_below (ra qu.out) hb); have n6_ := q0 (Kd.R_below (ra qz.out) hb); have n7_ := q0 (Kd.R_below (ra z07.out) hb); have n8_ := q0 (Kd.R_below (ra z0a.out) hb); have n9_ := q0 (Kd.R_below (ra z0h.out) hb); have n10_ := q0 (bb q1.out hb); have n11_ := q0 (bb q6.out hb); have n12_ := q0 (bb q8.out hb); have n13_ := q0 (bb q9.out hb); have n14_ := q0 (below_step (q3) hb); clear qd qk qm qp qs qu qz z07 z0a z0h q1 q6 q8 q9 HB; have qd := n0_; have qk := n1_; have qm := n2_; have qp := n3_; have qs := n4_; have qu := n5_; have qz := n6_; have z07 := n7_; have z0a := n8_; have z0h := n9_; have q1 := n10_; have q6 := n11_; have q8 := n12_; have q9 := n13_; have HB := n14_; clear n0_ n1_ n2_ n3_ n4_ n5_ n6_ n7_ n8_ n9_ n10_ n11_ n12_ n13_ n14_; (try clear hb); (try clear hb2); (try clear hk); (try clear hi)
               refine hK.out _ _ ⟨(blk_cell q8.out 0).trans rfl, (blk_cell q8.out 1).trans rfl, (blk_cell q1.out 0).trans rfl, (blk_cell q1.out 1).trans rfl⟩ (fun hHeld => ?_)
               clear hK K
               refine norm_ (a' := ?_) ?_ ?_
               rotate_left
               · show Act.put _ (some 57) _ = _
                 simp only [Act.put, List.setIfInBounds_toArray, List.set_cons_zero, List.set_cons_succ, i64_w, i32_w]
                 rfl
               refine pure_ (i := 4) (N := some 58) (v := ?_) (a' := ?_) #[true, true, true, true, true] rfl rfl (by kernel_rfl) (fun _ _ _ h => h) (Or.inl ⟨by rfl, ?_⟩) ?_ ?_
               rotate_left
               · intro w'
                 go_simp
                 with_reducible rfl
               rotate_left
               · simp only [Act.put, List.setIfInBounds_toArray, List.set_cons_zero, List.set_cons_succ, i64_w, i32_w]
                 rfl
               refine done_ (by kernel_rfl) ?_
               go_upto_region 26 with (first | ((with_reducible refine gate_callee (f := 22) rfl ?_); refine goesL_ (some 61) rfl rfl Try.func22 (by kernel_rfl) rfl #[.slice A2 l2.length c2] rfl ma ?_; (with_reducible refine (laws_toIntS.calls k _ _ l2 t256 _ ?side1 ?side2 A29.out).mono ?_); (case side1 => exact ca (Kd.C_below HR2.out HB.out)); (case side2 => exact HC2.out); rintro e w80 ⟨v257, rfl, ho0, hb⟩; refine ⟨_, rfl, ?_⟩; have n0_ := q0 (Kd.R_elder' (ra qd.out) (Kd.R_base ho0) hb); have n1_ := q0 (Kd.R_elder' (ra qk.out) (Kd.R_base ho0) hb); have n2_ := q0 (Kd.R_elder' (ra qm.out) (Kd.R_base ho0) hb); have n3_ := q0 (Kd.R_elder' (ra qp.out) (Kd.R_base ho0) hb); have n4_ := q0 (Kd.R_elder' (ra qs.out) (Kd.R_base ho0) hb); have n5_ := q0 (Kd.R_elder' (ra qu.out) (Kd.R_base ho0) hb); have n6_ := q0 (Kd.R_elder' (ra qz.out) (Kd.R_base ho0) hb); have n7_ := q0 (Kd.R_elder' (ra z07.out) (Kd.R_base ho0) hb); have n8_ := q0 (Kd.R_elder' (ra z0a.out) (Kd.R_base ho0) hb); have n9_ := q0 (Kd.R_elder' (ra z0h.out) (Kd.R_base ho0) hb); have n10_ := q0 (Kd.R_lower (Kd.R_new' (Kd.R_new' (Kd.R_new' (Kd.R_new' (Kd.R_new' (Kd.R_new' (Kd.R_new' (Kd.R_new' (Kd.R_new' (Kd.R_new' ho0 (Kd.R_lt (ra qd.out))) (Kd.R_lt (ra qk.out))) (Kd.R_lt (ra qm.out))) (Kd.R_lt (ra qp.out))) (Kd.R_lt (ra qs.out))) (Kd.R_lt (ra qu.out))) (Kd.R_lt (ra qz.out))) (Kd.R_lt (ra z07.out))) (Kd.R_lt (ra z0a.out))) (Kd.R_lt (ra z0h.out))) (below_size (q3))); have n11_ := q0 (bb q1.out hb); have n12_ := q0 (bb q6.out hb); have n13_ := q0 (bb q8.out hb); have n14_ := q0 (bb q9.out hb); have n15_ := q0 (below_step (q3) hb); clear qd; clear qk; clear qm; clear qp; clear qs; clear qu; clear qz; clear z07; clear z0a; clear z0h; clear q1; clear q6; clear q8; clear q9; clear HB; have qd := n0_; have qk := n1_; have qm := n2_; have qp := n3_; have qs := n4_; have qu := n5_; have qz := n6_; have z07 := n7_; have z0a := n8_; have z0h := n9_; have z0q := n10_; have q1 := n11_; have q6 := n12_; have q8 := n13_; have q9 := n14_; have HB := n15_; clear n0_ n1_ n2_ n3_ n4_ n5_ n6_ n7_ n8_ n9_ n10_ n11_ n12_ n13_ n14_ n15_; (try clear hb); (try clear hb2); (try clear hk); (try clear hi); (try clear ho0); obtain ⟨z0k, z0l, eo81⟩ := Kd.R_slice z0q.out; subst eo81) | ((with_reducible refine gate_callee (f := 25) rfl ?_); refine goesL_ (some 62) rfl rfl Try.func25 (by kernel_rfl) rfl #[.slice z0d t238.length z0e, .slice z0k t256.length z0l] rfl ma ?_; (with_reducible refine (laws_eqIntS.calls k _ _ t238 _ _ t256 true _ ?side1 ?side2 ?side3 ?side4 A30.out).mono ?_); (case side1 => exact ca (Kd.R_reads' qz.out).2.2); (case side2 => exact (Kd.R_reads' qz.out).2.1); (case side3 => exact ca (Kd.R_reads' z0q.out).2.2); (case side4 => exact (Kd.R_reads' z0q.out).2.1); rintro e w' ⟨rfl, ⟨nd, rfl⟩⟩; refine ⟨_, rfl, ?_⟩) | ((with_reducible refine gate_callee (f := 29) rfl ?_); refine goesL_ (some 66) rfl rfl Try.func29 (by kernel_rfl) rfl #[.slice z0b t230.length z0c, .int .i64 1] rfl ma ?_; (with_reducible refine (laws_markIntS.calls k (fun k_ => some k_ = (.slice z0b t230.length z0c : Value).ownBlock) (.slice z0b t230.length z0c) t230 1 t260 t261 w _ ?side1 ?side2 A32.out).mono ?_); (case side1 => exact (q3)); (case side2 => exact Kd.R_tight rfl qs.out); rintro e w82 ⟨rfl, hy0, hb, hkp⟩; refine ⟨_, rfl, ?_⟩; have n0_ := q0 (blk_kept (ba q1.out) hkp (fun hs_ => (fun e_ => (Kd.R_ne qs.out q1.out (by decide)) e_) hs_)); have n1_ := q0 (Kd.R_mono (ok' := fun k_ => some k_ ≠ (v219 : Value).ownBlock ∧ some k_ ≠ (v223 : Value).ownBlock ∧ some k_ ≠ (.slice qj t225.length qi : Value).ownBlock ∧ some k_ ≠ (.slice z0b t230.length z0c : Value).ownBlock ∧ some k_ ≠ (.slice qe t233.length qf : Value).ownBlock ∧ some k_ ≠ (.slice z0d t238.length z0e : Value).ownBlock ∧ some k_ ≠ (.slice qh t241.length qg : Value).ownBlock ∧ some k_ ≠ (.slice z0f t247.length z0g : Value).ownBlock ∧ some k_ ≠ (.slice z0i t251.length z0j : Value).ownBlock ∧ some k_ ≠ (.slice z0k t256.length z0l : Value).ownBlock) (Kd.R_keptB (qd.out) hkp (fun k_ hk_ hs_ => absurd hs_ (pq hk_))) pk); have n2_ := q0 (Kd.R_mono (ok' := fun k_ => some k_ ≠ (v216 : Value).ownBlock ∧ some k_ ≠ (v223 : Value).ownBlock ∧ some k_ ≠ (.slice qj t225.length qi : Value).ownBlock ∧ some k_ ≠ (.slice z0b t230.length z0c : Value).ownBlock ∧ some k_ ≠ (.slice qe t233.length qf : Value).ownBlock ∧ some k_ ≠ (.slice z0d t238.length z0e : Value).ownBlock ∧ some k_ ≠ (.slice qh t241.length qg : Value).ownBlock ∧ some k_ ≠ (.slice z0f t247.length z0g : Value).ownBlock ∧ some k_ ≠ (.slice z0i t251.length z0j : Value).ownBlock ∧ some k_ ≠ (.slice z0k t256.length z0l : Value).ownBlock) (Kd.R_keptB (qk.out) hkp (fun k_ hk_ hs_ => absurd hs_ (pq hk_))) pk); have n3_ := q0 (Kd.R_mono (ok' := fun k_ => some k_ ≠ (v216 : Value).ownBlock ∧ some k_ ≠ (v219 : Value).ownBlock ∧ some k_ ≠ (.slice qj t225.length qi : Value).ownBlock ∧ some k_ ≠ (.slice z0b t230.length z0c : Value).ownBlock ∧ some k_ ≠ (.slice qe t233.length qf : Value).ownBlock ∧ some k_ ≠ (.slice z0d t238.length z0e : Value).ownBlock ∧ some k_ ≠ (.slice qh t241.length qg : Value).ownBlock ∧ some k_ ≠ (.slice z0f t247.length z0g : Value).ownBlock ∧ some k_ ≠ (.slice z0i t251.length z0j : Value).ownBlock ∧ some k_ ≠ (.slice z0k t256.length z0l : Value).ownBlock) (Kd.R_keptB (qm.out) hkp (fun k_ hk_ hs_ => absurd hs_ (pq hk_))) pk); have n4_ := q0 (Kd.R_mono (ok' := fun k_ => some k_ ≠ (v216 : Value).ownBlock ∧ some k_ ≠ (v219 : Value).ownBlock ∧ some k_ ≠ (v223 : Value).ownBlock ∧ some k_ ≠ (.slice z0b t230.length z0c : Value).ownBlock ∧ some k_ ≠ (.slice qe t233.length qf : Value).ownBlock ∧ some k_ ≠ (.slice z0d t238.length z0e : Value).ownBlock ∧ some k_ ≠ (.slice qh t241.length qg : Value).ownBlock ∧ some k_ ≠ (.slice z0f t247.length z0g : Value).ownBlock ∧ some k_ ≠ (.slice z0i t251.length z0j : Value).ownBlock ∧ some k_ ≠ (.slice z0k t256.length z0l : Value).ownBlock) (Kd.R_keptB (qp.out) hkp (fun k_ hk_ hs_ => absurd hs_ (pq hk_))) pk); have n5_ := q0 (blk_kept (ba q6.out) hkp (fun hs_ => (fun e_ => (Kd.R_ne qs.out q6.out (by decide)) e_) hs_)); have n6_ := q0 (Kd.R_reok rfl hy0 (fun k_ e_ => qs.out.1 k_ e_)); have n7_ := q0 (Kd.R_mono (ok' := fun k_ => some k_ ≠ (v216 : Value).ownBlock ∧ some k_ ≠ (v219 : Value).ownBlock ∧ some k_ ≠ (v223 : Value).ownBlock ∧ some k_ ≠ (.slice qj t225.length qi : Value).ownBlock ∧ some k_ ≠ (.slice z0b t230.length z0c : Value).ownBlock ∧ some k_ ≠ (.slice z0d t238.length z0e : Value).ownBlock ∧ some k_ ≠ (.slice qh t241.length qg : Value).ownBlock ∧ some k_ ≠ (.slice z0f t247.length z0g : Value).ownBlock ∧ some k_ ≠ (.slice z0i t251.length z0j : Value).ownBlock ∧ some k_ ≠ (.slice z0k t256.length z0l : Value).ownBlock) (Kd.R_keptB (qu.out) hkp (fun k_ hk_ hs_ => absurd hs_ (pq hk_))) pk); have n8_ := q0 (blk_kept (ba q8.out) hkp (fun hs_ => (fun e_ => (Kd.R_ne qs.out q8.out (by decide)) e_) hs_)); have n9_ := q0 (Kd.R_mono (ok' := fun k_ => some k_ ≠ (v216 : Value).ownBlock ∧ some k_ ≠ (v219 : Value).ownBlock ∧ some k_ ≠ (v223 : Value).ownBlock ∧ some k_ ≠ (.slice qj t225.length qi : Value).ownBlock ∧ some k_ ≠ (.slice z0b t230.length z0c : Value).ownBlock ∧ some k_ ≠ (.slice qe t233.length qf : Value).ownBlock ∧ some k_ ≠ (.slice qh t241.length qg : Value).ownBlock ∧ some k_ ≠ (.slice z0f t247.length z0g : Value).ownBlock ∧ some k_ ≠ (.slice z0i t251.length z0j : Value).ownBlock ∧ some k_ ≠ (.slice z0k t256.length z0l : Value).ownBlock) (Kd.R_keptB (qz.out) hkp (fun k_ hk_ hs_ => absurd hs_ (pq hk_))) pk); have n10_ := q0 (Kd.R_mono (ok' := fun k_ => some k_ ≠ (v216 : Value).ownBlock ∧ some k_ ≠ (v219 : Value).ownBlock ∧ some k_ ≠ (v223 : Value).ownBlock ∧ some k_ ≠ (.slice qj t225.length qi : Value).ownBlock ∧ some k_ ≠ (.slice z0b t230.length z0c : Value).ownBlock ∧ some k_ ≠ (.slice qe t233.length qf : Value).ownBlock ∧ some k_ ≠ (.slice z0d t238.length z0e : Value).ownBlock ∧ some k_ ≠ (.slice z0f t247.length z0g : Value).ownBlock ∧ some k_ ≠ (.slice z0i t251.length z0j : Value).ownBlock ∧ some k_ ≠ (.slice z0k t256.length z0l : Value).ownBlock) (Kd.R_keptB (z07.out) hkp (fun k_ hk_ hs_ => absurd hs_ (pq hk_))) pk); have n11_ := q0 (blk_kept (ba q9.out) hkp (fun hs_ => (fun e_ => (Kd.R_ne qs.out q9.out (by decide)) e_) hs_)); have n12_ := q0 (Kd.R_mono (ok' := fun k_ => some k_ ≠ (v216 : Value).ownBlock ∧ some k_ ≠ (v219 : Value).ownBlock ∧ some k_ ≠ (v223 : Value).ownBlock ∧ some k_ ≠ (.slice qj t225.length qi : Value).ownBlock ∧ some k_ ≠ (.slice z0b t230.length z0c : Value).ownBlock ∧ some k_ ≠ (.slice qe t233.length qf : Value).ownBlock ∧ some k_ ≠ (.slice z0d t238.length z0e : Value).ownBlock ∧ some k_ ≠ (.slice qh t241.length qg : Value).ownBlock ∧ some k_ ≠ (.slice z0i t251.length z0j : Value).ownBlock ∧ some k_ ≠ (.slice z0k t256.length z0l : Value).ownBlock) (Kd.R_keptB (z0a.out) hkp (fun k_ hk_ hs_ => absurd hs_ (pq hk_))) pk); have n13_ := q0 (Kd.R_mono (ok' := fun k_ => some k_ ≠ (v216 : Value).ownBlock ∧ some k_ ≠ (v219 : Value).ownBlock ∧ some k_ ≠ (v223 : Value).ownBlock ∧ some k_ ≠ (.slice qj t225.length qi : Value).ownBlock ∧ some k_ ≠ (.slice z0b t230.length z0c : Value).ownBlock ∧ some k_ ≠ (.slice qe t233.length qf : Value).ownBlock ∧ some k_ ≠ (.slice z0d t238.length z0e : Value).ownBlock ∧ some k_ ≠ (.slice qh t241.length qg : Value).ownBlock ∧ some k_ ≠ (.slice z0f t247.length z0g : Value).ownBlock ∧ some k_ ≠ (.slice z0k t256.length z0l : Value).ownBlock) (Kd.R_keptB (z0h.out) hkp (fun k_ hk_ hs_ => absurd hs_ (pq hk_))) pk); have n14_ := q0 (Kd.R_mono (ok' := fun k_ => some k_ ≠ (v216 : Value).ownBlock ∧ some k_ ≠ (v219 : Value).ownBlock ∧ some k_ ≠ (v223 : Value).ownBlock ∧ some k_ ≠ (.slice qj t225.length qi : Value).ownBlock ∧ some k_ ≠ (.slice z0b t230.length z0c : Value).ownBlock ∧ some k_ ≠ (.slice qe t233.length qf : Value).ownBlock ∧ some k_ ≠ (.slice z0d t238.length z0e : Value).ownBlock ∧ some k_ ≠ (.slice qh t241.length qg : Value).ownBlock ∧ some k_ ≠ (.slice z0f t247.length z0g : Value).ownBlock ∧ some k_ ≠ (.slice z0i t251.length z0j : Value).ownBlock) (Kd.R_keptB (z0q.out) hkp (fun k_ hk_ hs_ => absurd hs_ (pq hk_))) pk); have n15_ := q0 (hb); clear q1; clear qd; clear qk; clear qm; clear qp; clear q6; clear qs; clear qu; clear q8; clear qz; clear z07; clear q9; clear z0a; clear z0h; clear z0q; clear HB; have q1 := n0_; have qd := n1_; have qk := n2_; have qm := n3_; have qp := n4_; have q6 := n5_; have qs := n6_; have qu := n7_; have q8 := n8_; have qz := n9_; have z07 := n10_; have q9 := n11_; have z0a := n12_; have z0h := n13_; have z0q := n14_; have HB := n15_; clear n0_ n1_ n2_ n3_ n4_ n5_ n6_ n7_ n8_ n9_ n10_ n11_ n12_ n13_ n14_ n15_; (try clear hb); (try clear hkp); (try clear hy0); have hcz83_0 : w82.cell? ⟨ql, 0, none⟩ = some (.slice qe t233.length qf) := (blk_cell q8.out 0).trans rfl; have hcz83_1 : w82.cell? ⟨ql, 1, none⟩ = some (.int .i64 t236) := (blk_cell q8.out 1).trans rfl; have hfz83_0 := blk_frozen q8.out 0; have hfz83_1 := blk_frozen q8.out 1) | ((with_reducible refine gate_callee (f := 30) rfl ?_); refine goesL_ (some 69) rfl rfl Try.func30 (by kernel_rfl) rfl #[.agg #[.slice qe t233.length qf, .int .i64 t236], .int .i64 t260] rfl ma ?_; (with_reducible refine (laws_markFollower.calls k (fun k_ => some k_ = (.slice qe t233.length qf : Value).ownBlock) (.slice qe t233.length qf) t233 t236 t260 t262 t263 w _ ?side1 ?side2 A33.out).mono ?_); (case side1 => exact (q3)); (case side2 => exact Kd.R_tight rfl qu.out); rintro e w84 ⟨rfl, hy0, hb, hkp⟩; refine ⟨_, rfl, ?_⟩; have n0_ := q0 (blk_kept (ba q1.out) hkp (fun hs_ => (fun e_ => (Kd.R_ne qu.out q1.out (by decide)) e_) hs_)); have n1_ := q0 (Kd.R_mono (ok' := fun k_ => some k_ ≠ (v219 : Value).ownBlock ∧ some k_ ≠ (v223 : Value).ownBlock ∧ some k_ ≠ (.slice qj t225.length qi : Value).ownBlock ∧ some k_ ≠ (.slice z0b t230.length z0c : Value).ownBlock ∧ some k_ ≠ (.slice qe t233.length qf : Value).ownBlock ∧ some k_ ≠ (.slice z0d t238.length z0e : Value).ownBlock ∧ some k_ ≠ (.slice qh t241.length qg : Value).ownBlock ∧ some k_ ≠ (.slice z0f t247.length z0g : Value).ownBlock ∧ some k_ ≠ (.slice z0i t251.length z0j : Value).ownBlock ∧ some k_ ≠ (.slice z0k t256.length z0l : Value).ownBlock) (Kd.R_keptB (qd.out) hkp (fun k_ hk_ hs_ => absurd hs_ (pq hk_))) pk); have n2_ := q0 (Kd.R_mono (ok' := fun k_ => some k_ ≠ (v216 : Value).ownBlock ∧ some k_ ≠ (v223 : Value).ownBlock ∧ some k_ ≠ (.slice qj t225.length qi : Value).ownBlock ∧ some k_ ≠ (.slice z0b t230.length z0c : Value).ownBlock ∧ some k_ ≠ (.slice qe t233.length qf : Value).ownBlock ∧ some k_ ≠ (.slice z0d t238.length z0e : Value).ownBlock ∧ some k_ ≠ (.slice qh t241.length qg : Value).ownBlock ∧ some k_ ≠ (.slice z0f t247.length z0g : Value).ownBlock ∧ some k_ ≠ (.slice z0i t251.length z0j : Value).ownBlock ∧ some k_ ≠ (.slice z0k t256.length z0l : Value).ownBlock) (Kd.R_keptB (qk.out) hkp (fun k_ hk_ hs_ => absurd hs_ (pq hk_))) pk); have n3_ := q0 (Kd.R_mono (ok' := fun k_ => some k_ ≠ (v216 : Value).ownBlock ∧ some k_ ≠ (v219 : Value).ownBlock ∧ some k_ ≠ (.slice qj t225.length qi : Value).ownBlock ∧ some k_ ≠ (.slice z0b t230.length z0c : Value).ownBlock ∧ some k_ ≠ (.slice qe t233.length qf : Value).ownBlock ∧ some k_ ≠ (.slice z0d t238.length z0e : Value).ownBlock ∧ some k_ ≠ (.slice qh t241.length qg : Value).ownBlock ∧ some k_ ≠ (.slice z0f t247.length z0g : Value).ownBlock ∧ some k_ ≠ (.slice z0i t251.length z0j : Value).ownBlock ∧ some k_ ≠ (.slice z0k t256.length z0l : Value).ownBlock) (Kd.R_keptB (qm.out) hkp (fun k_ hk_ hs_ => absurd hs_ (pq hk_))) pk); have n4_ := q0 (Kd.R_mono (ok' := fun k_ => some k_ ≠ (v216 : Value).ownBlock ∧ some k_ ≠ (v219 : Value).ownBlock ∧ some k_ ≠ (v223 : Value).ownBlock ∧ some k_ ≠ (.slice z0b t230.length z0c : Value).ownBlock ∧ some k_ ≠ (.slice qe t233.length qf : Value).ownBlock ∧ some k_ ≠ (.slice z0d t238.length z0e : Value).ownBlock ∧ some k_ ≠ (.slice qh t241.length qg : Value).ownBlock ∧ some k_ ≠ (.slice z0f t247.length z0g : Value).ownBlock ∧ some k_ ≠ (.slice z0i t251.length z0j : Value).ownBlock ∧ some k_ ≠ (.slice z0k t256.length z0l : Value).ownBlock) (Kd.R_keptB (qp.out) hkp (fun k_ hk_ hs_ => absurd hs_ (pq hk_))) pk); have n5_ := q0 (blk_kept (ba q6.out) hkp (fun hs_ => (fun e_ => (Kd.R_ne qu.out q6.out (by decide)) e_) hs_)); have n6_ := q0 (Kd.R_mono (ok' := fun k_ => some k_ ≠ (v216 : Value).ownBlock ∧ some k_ ≠ (v219 : Value).ownBlock ∧ some k_ ≠ (v223 : Value).ownBlock ∧ some k_ ≠ (.slice qj t225.length qi : Value).ownBlock ∧ some k_ ≠ (.slice qe t233.length qf : Value).ownBlock ∧ some k_ ≠ (.slice z0d t238.length z0e : Value).ownBlock ∧ some k_ ≠ (.slice qh t241.length qg : Value).ownBlock ∧ some k_ ≠ (.slice z0f t247.length z0g : Value).ownBlock ∧ some k_ ≠ (.slice z0i t251.length z0j : Value).ownBlock ∧ some k_ ≠ (.slice z0k t256.length z0l : Value).ownBlock) (Kd.R_keptB (qs.out) hkp (fun k_ hk_ hs_ => absurd hs_ (pq hk_))) pk); have n7_ := q0 (Kd.R_reok rfl hy0 (fun k_ e_ => qu.out.1 k_ e_)); have n8_ := q0 (blk_kept (ba q8.out) hkp (fun hs_ => (fun e_ => (Kd.R_ne qu.out q8.out (by decide)) e_) hs_)); have n9_ := q0 (Kd.R_mono (ok' := fun k_ => some k_ ≠ (v216 : Value).ownBlock ∧ some k_ ≠ (v219 : Value).ownBlock ∧ some k_ ≠ (v223 : Value).ownBlock ∧ some k_ ≠ (.slice qj t225.length qi : Value).ownBlock ∧ some k_ ≠ (.slice z0b t230.length z0c : Value).ownBlock ∧ some k_ ≠ (.slice qe t233.length qf : Value).ownBlock ∧ some k_ ≠ (.slice qh t241.length qg : Value).ownBlock ∧ some k_ ≠ (.slice z0f t247.length z0g : Value).ownBlock ∧ some k_ ≠ (.slice z0i t251.length z0j : Value).ownBlock ∧ some k_ ≠ (.slice z0k t256.length z0l : Value).ownBlock) (Kd.R_keptB (qz.out) hkp (fun k_ hk_ hs_ => absurd hs_ (pq hk_))) pk); have n10_ := q0 (Kd.R_mono (ok' := fun k_ => some k_ ≠ (v216 : Value).ownBlock ∧ some k_ ≠ (v219 : Value).ownBlock ∧ some k_ ≠ (v223 : Value).ownBlock ∧ some k_ ≠ (.slice qj t225.length qi : Value).ownBlock ∧ some k_ ≠ (.slice z0b t230.length z0c : Value).ownBlock ∧ some k_ ≠ (.slice qe t233.length qf : Value).ownBlock ∧ some k_ ≠ (.slice z0d t238.length z0e : Value).ownBlock ∧ some k_ ≠ (.slice z0f t247.length z0g : Value).ownBlock ∧ some k_ ≠ (.slice z0i t251.length z0j : Value).ownBlock ∧ some k_ ≠ (.slice z0k t256.length z0l : Value).ownBlock) (Kd.R_keptB (z07.out) hkp (fun k_ hk_ hs_ => absurd hs_ (pq hk_))) pk); have n11_ := q0 (blk_kept (ba q9.out) hkp (fun hs_ => (fun e_ => (Kd.R_ne qu.out q9.out (by decide)) e_) hs_)); have n12_ := q0 (Kd.R_mono (ok' := fun k_ => some k_ ≠ (v216 : Value).ownBlock ∧ some k_ ≠ (v219 : Value).ownBlock ∧ some k_ ≠ (v223 : Value).ownBlock ∧ some k_ ≠ (.slice qj t225.length qi : Value).ownBlock ∧ some k_ ≠ (.slice z0b t230.length z0c : Value).ownBlock ∧ some k_ ≠ (.slice qe t233.length qf : Value).ownBlock ∧ some k_ ≠ (.slice z0d t238.length z0e : Value).ownBlock ∧ some k_ ≠ (.slice qh t241.length qg : Value).ownBlock ∧ some k_ ≠ (.slice z0i t251.length z0j : Value).ownBlock ∧ some k_ ≠ (.slice z0k t256.length z0l : Value).ownBlock) (Kd.R_keptB (z0a.out) hkp (fun k_ hk_ hs_ => absurd hs_ (pq hk_))) pk); have n13_ := q0 (Kd.R_mono (ok' := fun k_ => some k_ ≠ (v216 : Value).ownBlock ∧ some k_ ≠ (v219 : Value).ownBlock ∧ some k_ ≠ (v223 : Value).ownBlock ∧ some k_ ≠ (.slice qj t225.length qi : Value).ownBlock ∧ some k_ ≠ (.slice z0b t230.length z0c : Value).ownBlock ∧ some k_ ≠ (.slice qe t233.length qf : Value).ownBlock ∧ some k_ ≠ (.slice z0d t238.length z0e : Value).ownBlock ∧ some k_ ≠ (.slice qh t241.length qg : Value).ownBlock ∧ some k_ ≠ (.slice z0f t247.length z0g : Value).ownBlock ∧ some k_ ≠ (.slice z0k t256.length z0l : Value).ownBlock) (Kd.R_keptB (z0h.out) hkp (fun k_ hk_ hs_ => absurd hs_ (pq hk_))) pk); have n14_ := q0 (Kd.R_mono (ok' := fun k_ => some k_ ≠ (v216 : Value).ownBlock ∧ some k_ ≠ (v219 : Value).ownBlock ∧ some k_ ≠ (v223 : Value).ownBlock ∧ some k_ ≠ (.slice qj t225.length qi : Value).ownBlock ∧ some k_ ≠ (.slice z0b t230.length z0c : Value).ownBlock ∧ some k_ ≠ (.slice qe t233.length qf : Value).ownBlock ∧ some k_ ≠ (.slice z0d t238.length z0e : Value).ownBlock ∧ some k_ ≠ (.slice qh t241.length qg : Value).ownBlock ∧ some k_ ≠ (.slice z0f t247.length z0g : Value).ownBlock ∧ some k_ ≠ (.slice z0i t251.length z0j : Value).ownBlock) (Kd.R_keptB (z0q.out) hkp (fun k_ hk_ hs_ => absurd hs_ (pq hk_))) pk); have n15_ := q0 (hb); clear q1; clear qd; clear qk; clear qm; clear qp; clear q6; clear qs; clear qu; clear q8; clear qz; clear z07; clear q9; clear z0a; clear z0h; clear z0q; clear HB; have q1 := n0_; have qd := n1_; have qk := n2_; have qm := n3_; have qp := n4_; have q6 := n5_; have qs := n6_; have qu := n7_; have q8 := n8_; have qz := n9_; have z07 := n10_; have q9 := n11_; have z0a := n12_; have z0h := n13_; have z0q := n14_; have HB := n15_; clear n0_ n1_ n2_ n3_ n4_ n5_ n6_ n7_ n8_ n9_ n10_ n11_ n12_ n13_ n14_ n15_; (try clear hb); (try clear hkp); (try clear hy0)) | ((with_reducible refine gate_callee (f := 29) rfl ?_); refine goesL_ (some 72) rfl rfl Try.func29 (by kernel_rfl) rfl #[.slice z0d t238.length z0e, .int .i64 t262] rfl ma ?_; (with_reducible refine (laws_markIntS.calls k (fun k_ => some k_ = (.slice z0d t238.length z0e : Value).ownBlock) (.slice z0d t238.length z0e) t238 t262 t264 t265 w _ ?side1 ?side2 A34.out).mono ?_); (case side1 => exact (q3)); (case side2 => exact Kd.R_tight rfl qz.out); rintro e w85 ⟨rfl, hy0, hb, hkp⟩; refine ⟨_, rfl, ?_⟩; have n0_ := q0 (blk_kept (ba q1.out) hkp (fun hs_ => (fun e_ => (Kd.R_ne qz.out q1.out (by decide)) e_) hs_)); have n1_ := q0 (Kd.R_mono (ok' := fun k_ => some k_ ≠ (v219 : Value).ownBlock ∧ some k_ ≠ (v223 : Value).ownBlock ∧ some k_ ≠ (.slice qj t225.length qi : Value).ownBlock ∧ some k_ ≠ (.slice z0b t230.length z0c : Value).ownBlock ∧ some k_ ≠ (.slice qe t233.length qf : Value).ownBlock ∧ some k_ ≠ (.slice z0d t238.length z0e : Value).ownBlock ∧ some k_ ≠ (.slice qh t241.length qg : Value).ownBlock ∧ some k_ ≠ (.slice z0f t247.length z0g : Value).ownBlock ∧ some k_ ≠ (.slice z0i t251.length z0j : Value).ownBlock ∧ some k_ ≠ (.slice z0k t256.length z0l : Value).ownBlock) (Kd.R_keptB (qd.out) hkp (fun k_ hk_ hs_ => absurd hs_ (pq hk_))) pk); have n2_ := q0 (Kd.R_mono (ok' := fun k_ => some k_ ≠ (v216 : Value).ownBlock ∧ some k_ ≠ (v223 : Value).ownBlock ∧ some k_ ≠ (.slice qj t225.length qi : Value).ownBlock ∧ some k_ ≠ (.slice z0b t230.length z0c : Value).ownBlock ∧ some k_ ≠ (.slice qe t233.length qf : Value).ownBlock ∧ some k_ ≠ (.slice z0d t238.length z0e : Value).ownBlock ∧ some k_ ≠ (.slice qh t241.length qg : Value).ownBlock ∧ some k_ ≠ (.slice z0f t247.length z0g : Value).ownBlock ∧ some k_ ≠ (.slice z0i t251.length z0j : Value).ownBlock ∧ some k_ ≠ (.slice z0k t256.length z0l : Value).ownBlock) (Kd.R_keptB (qk.out) hkp (fun k_ hk_ hs_ => absurd hs_ (pq hk_))) pk); have n3_ := q0 (Kd.R_mono (ok' := fun k_ => some k_ ≠ (v216 : Value).ownBlock ∧ some k_ ≠ (v219 : Value).ownBlock ∧ some k_ ≠ (.slice qj t225.length qi : Value).ownBlock ∧ some k_ ≠ (.slice z0b t230.length z0c : Value).ownBlock ∧ some k_ ≠ (.slice qe t233.length qf : Value).ownBlock ∧ some k_ ≠ (.slice z0d t238.length z0e : Value).ownBlock ∧ some k_ ≠ (.slice qh t241.length qg : Value).ownBlock ∧ some k_ ≠ (.slice z0f t247.length z0g : Value).ownBlock ∧ some k_ ≠ (.slice z0i t251.length z0j : Value).ownBlock ∧ some k_ ≠ (.slice z0k t256.length z0l : Value).ownBlock) (Kd.R_keptB (qm.out) hkp (fun k_ hk_ hs_ => absurd hs_ (pq hk_))) pk); have n4_ := q0 (Kd.R_mono (ok' := fun k_ => some k_ ≠ (v216 : Value).ownBlock ∧ some k_ ≠ (v219 : Value).ownBlock ∧ some k_ ≠ (v223 : Value).ownBlock ∧ some k_ ≠ (.slice z0b t230.length z0c : Value).ownBlock ∧ some k_ ≠ (.slice qe t233.length qf : Value).ownBlock ∧ some k_ ≠ (.slice z0d t238.length z0e : Value).ownBlock ∧ some k_ ≠ (.slice qh t241.length qg : Value).ownBlock ∧ some k_ ≠ (.slice z0f t247.length z0g : Value).ownBlock ∧ some k_ ≠ (.slice z0i t251.length z0j : Value).ownBlock ∧ some k_ ≠ (.slice z0k t256.length z0l : Value).ownBlock) (Kd.R_keptB (qp.out) hkp (fun k_ hk_ hs_ => absurd hs_ (pq hk_))) pk); have n5_ := q0 (blk_kept (ba q6.out) hkp (fun hs_ => (fun e_ => (Kd.R_ne qz.out q6.out (by decide)) e_) hs_)); have n6_ := q0 (Kd.R_mono (ok' := fun k_ => some k_ ≠ (v216 : Value).ownBlock ∧ some k_ ≠ (v219 : Value).ownBlock ∧ some k_ ≠ (v223 : Value).ownBlock ∧ some k_ ≠ (.slice qj t225.length qi : Value).ownBlock ∧ some k_ ≠ (.slice qe t233.length qf : Value).ownBlock ∧ some k_ ≠ (.slice z0d t238.length z0e : Value).ownBlock ∧ some k_ ≠ (.slice qh t241.length qg : Value).ownBlock ∧ some k_ ≠ (.slice z0f t247.length z0g : Value).ownBlock ∧ some k_ ≠ (.slice z0i t251.length z0j : Value).ownBlock ∧ some k_ ≠ (.slice z0k t256.length z0l : Value).ownBlock) (Kd.R_keptB (qs.out) hkp (fun k_ hk_ hs_ => absurd hs_ (pq hk_))) pk); have n7_ := q0 (Kd.R_mono (ok' := fun k_ => some k_ ≠ (v216 : Value).ownBlock ∧ some k_ ≠ (v219 : Value).ownBlock ∧ some k_ ≠ (v223 : Value).ownBlock ∧ some k_ ≠ (.slice qj t225.length qi : Value).ownBlock ∧ some k_ ≠ (.slice z0b t230.length z0c : Value).ownBlock ∧ some k_ ≠ (.slice z0d t238.length z0e : Value).ownBlock ∧ some k_ ≠ (.slice qh t241.length qg : Value).ownBlock ∧ some k_ ≠ (.slice z0f t247.length z0g : Value).ownBlock ∧ some k_ ≠ (.slice z0i t251.length z0j : Value).ownBlock ∧ some k_ ≠ (.slice z0k t256.length z0l : Value).ownBlock) (Kd.R_keptB (qu.out) hkp (fun k_ hk_ hs_ => absurd hs_ (pq hk_))) pk); have n8_ := q0 (blk_kept (ba q8.out) hkp (fun hs_ => (fun e_ => (Kd.R_ne qz.out q8.out (by decide)) e_) hs_)); have n9_ := q0 (Kd.R_reok rfl hy0 (fun k_ e_ => qz.out.1 k_ e_)); have n10_ := q0 (Kd.R_mono (ok' := fun k_ => some k_ ≠ (v216 : Value).ownBlock ∧ some k_ ≠ (v219 : Value).ownBlock ∧ some k_ ≠ (v223 : Value).ownBlock ∧ some k_ ≠ (.slice qj t225.length qi : Value).ownBlock ∧ some k_ ≠ (.slice z0b t230.length z0c : Value).ownBlock ∧ some k_ ≠ (.slice qe t233.length qf : Value).ownBlock ∧ some k_ ≠ (.slice z0d t238.length z0e : Value).ownBlock ∧ some k_ ≠ (.slice z0f t247.length z0g : Value).ownBlock ∧ some k_ ≠ (.slice z0i t251.length z0j : Value).ownBlock ∧ some k_ ≠ (.slice z0k t256.length z0l : Value).ownBlock) (Kd.R_keptB (z07.out) hkp (fun k_ hk_ hs_ => absurd hs_ (pq hk_))) pk); have n11_ := q0 (blk_kept (ba q9.out) hkp (fun hs_ => (fun e_ => (Kd.R_ne qz.out q9.out (by decide)) e_) hs_)); have n12_ := q0 (Kd.R_mono (ok' := fun k_ => some k_ ≠ (v216 : Value).ownBlock ∧ some k_ ≠ (v219 : Value).ownBlock ∧ some k_ ≠ (v223 : Value).ownBlock ∧ some k_ ≠ (.slice qj t225.length qi : Value).ownBlock ∧ some k_ ≠ (.slice z0b t230.length z0c : Value).ownBlock ∧ some k_ ≠ (.slice qe t233.length qf : Value).ownBlock ∧ some k_ ≠ (.slice z0d t238.length z0e : Value).ownBlock ∧ some k_ ≠ (.slice qh t241.length qg : Value).ownBlock ∧ some k_ ≠ (.slice z0i t251.length z0j : Value).ownBlock ∧ some k_ ≠ (.slice z0k t256.length z0l : Value).ownBlock) (Kd.R_keptB (z0a.out) hkp (fun k_ hk_ hs_ => absurd hs_ (pq hk_))) pk); have n13_ := q0 (Kd.R_mono (ok' := fun k_ => some k_ ≠ (v216 : Value).ownBlock ∧ some k_ ≠ (v219 : Value).ownBlock ∧ some k_ ≠ (v223 : Value).ownBlock ∧ some k_ ≠ (.slice qj t225.length qi : Value).ownBlock ∧ some k_ ≠ (.slice z0b t230.length z0c : Value).ownBlock ∧ some k_ ≠ (.slice qe t233.length qf : Value).ownBlock ∧ some k_ ≠ (.slice z0d t238.length z0e : Value).ownBlock ∧ some k_ ≠ (.slice qh t241.length qg : Value).ownBlock ∧ some k_ ≠ (.slice z0f t247.length z0g : Value).ownBlock ∧ some k_ ≠ (.slice z0k t256.length z0l : Value).ownBlock) (Kd.R_keptB (z0h.out) hkp (fun k_ hk_ hs_ => absurd hs_ (pq hk_))) pk); have n14_ := q0 (Kd.R_mono (ok' := fun k_ => some k_ ≠ (v216 : Value).ownBlock ∧ some k_ ≠ (v219 : Value).ownBlock ∧ some k_ ≠ (v223 : Value).ownBlock ∧ some k_ ≠ (.slice qj t225.length qi : Value).ownBlock ∧ some k_ ≠ (.slice z0b t230.length z0c : Value).ownBlock ∧ some k_ ≠ (.slice qe t233.length qf : Value).ownBlock ∧ some k_ ≠ (.slice z0d t238.length z0e : Value).ownBlock ∧ some k_ ≠ (.slice qh t241.length qg : Value).ownBlock ∧ some k_ ≠ (.slice z0f t247.length z0g : Value).ownBlock ∧ some k_ ≠ (.slice z0i t251.length z0j : Value).ownBlock) (Kd.R_keptB (z0q.out) hkp (fun k_ hk_ hs_ => absurd hs_ (pq hk_))) pk); have n15_ := q0 (hb); clear q1; clear qd; clear qk; clear qm; clear qp; clear q6; clear qs; clear qu; clear q8; clear qz; clear z07; clear q9; clear z0a; clear z0h; clear z0q; clear HB; have q1 := n0_; have qd := n1_; have qk := n2_; have qm := n3_; have qp := n4_; have q6 := n5_; have qs := n6_; have qu := n7_; have q8 := n8_; have qz := n9_; have z07 := n10_; have q9 := n11_; have z0a := n12_; have z0h := n13_; have z0q := n14_; have HB := n15_; clear n0_ n1_ n2_ n3_ n4_ n5_ n6_ n7_ n8_ n9_ n10_ n11_ n12_ n13_ n14_ n15_; (try clear hb); (try clear hkp); (try clear hy0)))
               (try simp only [Act.put, List.setIfInBounds_toArray, List.set_cons_zero, List.set_cons_succ])
               go_cut [80] (fun v80 wc => ∃ (kq : Nat) (x80_34 : Bool), v80 = .bool x80_34 ∧ Aside0 (laws_FnExactHearAll.j0 kq l0 l2 x80_34 l1_0 a1_1 t225 t228 t241 t244 = some true) ∧ Aside0 (kq ≤ k) ∧ Aside0 (Kd.R (Kd.int .i64) 3 wc w.heap.size (fun k_ => some k_ ≠ ((.slice qe t233.length qf) : Value).ownBlock ∧ some k_ ≠ ((.slice qh t241.length qg) : Value).ownBlock) (.slice qj t225.length qi) t225) ∧ Aside0 (Kd.R (Kd.int .i64) 3 wc w.heap.size (fun k_ => some k_ ≠ ((.slice qj t225.length qi) : Value).ownBlock ∧ some k_ ≠ ((.slice qh t241.length qg) : Value).ownBlock) (.slice qe t233.length qf) t263) ∧ Aside0 (Kd.R (Kd.int .i64) 3 wc w.heap.size (fun k_ => some k_ ≠ ((.slice qj t225.length qi) : Value).ownBlock ∧ some k_ ≠ ((.slice qe t233.length qf) : Value).ownBlock) (.slice qh t241.length qg) t241) ∧ Aside0 (wc.heap[q7]? = some (.cells #[(.slice A1_0 l1_0.length c1_0), .int .i64 a1_1] 31 (0, 0))) ∧ Aside0 (wc.heap[qb]? = some (.cells #[(.slice qj t225.length qi), .int .i64 t228] 35 (0, 0))) ∧ Aside0 (wc.heap[ql]? = some (.cells #[(.slice qe t233.length qf), .int .i64 t236] 35 (0, 0))) ∧ Aside0 (wc.heap[qn]? = some (.cells #[(.slice qh t241.length qg), .int .i64 t244] 35 (0, 0))) ∧ Aside0 (Below w.heap.size w wc))
               case first =>
                have H := HC35.out
                clear HC35
                by_cases c86 : t264 < 0
                · rw [if_pos c86] at H
                  have c86b0 : decide (t264 < 0) = true := decide_eq_true c86
                  clear c86
                  (first | rw [c86b0] | (simp only [i64_w, i32_w]; rw [c86b0]) | skip)
                  exact absurd H (by cases k <;> simp [laws_FnExactHearAll.j0])
                · rw [if_neg c86] at H
                  have c86b0 : decide (t264 < 0) = false := decide_eq_false c86
                  clear c86
                  (first | rw [c86b0] | (simp only [i64_w, i32_w]; rw [c86b0]) | skip)
                  replace H := Option.bind_eq_some_iff.mp H
                  obtain ⟨t266, A870, H⟩ := H
                  try dsimp only at H
                  have A87 := q0 A870
                  clear A870
                  have H' := q0 H
                  clear H
                  have hnb88 := z12.out
                  have hnc88 := z0u.out
                  have hnb89 := z13.out
                  have hnc89 := z0v.out
                  have hnb90 := z14.out
                  have hnc90 := z0w.out
                  have hcz91_0 : w85.cell? ⟨qn, 0, none⟩ = some (.slice qh t241.length qg) := (blk_cell q9.out 0).trans rfl
                  have hcz91_1 : w85.cell? ⟨qn, 1, none⟩ = some (.int .i64 t244) := (blk_cell q9.out 1).trans rfl
                  have hfz91_0 := blk_frozen q9.out 0
                  have hfz91_1 := blk_frozen q9.out 1
                  have hnb92 := qv.out
                  have hnc92 := qq.out
                  have hnb93 := z0t.out
                  have hnc93 := z11.out
                  have hcz94_0 : w85.cell? ⟨qb, 0, none⟩ = some (.slice qj t225.length qi) := (blk_cell q6.out 0).trans rfl
                  have hcz94_1 : w85.cell? ⟨qb, 1, none⟩ = some (.int .i64 t228) := (blk_cell q6.out 1).trans rfl
                  have hfz94_0 := blk_frozen q6.out 0
                  have hfz94_1 := blk_frozen q6.out 1
                  go_wp2_with (first | (go_at_call 26; (with_reducible refine (laws_eqFollower.calls k _ _ t241 t244 _ _ t225 t228 t266 _ ?side1 ?side2 ?side3 ?side4 A87.out).mono ?_); (case side1 => exact ca (Kd.R_reads' z07.out).2.2); (case side2 => exact (Kd.R_reads' z07.out).2.1); (case side3 => exact ca (Kd.R_reads' qp.out).2.2); (case side4 => exact (Kd.R_reads' qp.out).2.1); rintro e w95 ⟨rfl, hb⟩; have n0_ := q0 (Kd.R_below (ra qd.out) hb); have n1_ := q0 (Kd.R_below (ra qk.out) hb); have n2_ := q0 (Kd.R_below (ra qm.out) hb); have n3_ := q0 (Kd.R_below (ra qp.out) hb); have n4_ := q0 (Kd.R_below (ra qs.out) hb); have n5_ := q0 (Kd.R_below (ra qu.out) hb); have n6_ := q0 (Kd.R_below (ra qz.out) hb); have n7_ := q0 (Kd.R_below (ra z07.out) hb); have n8_ := q0 (Kd.R_below (ra z0a.out) hb); have n9_ := q0 (Kd.R_below (ra z0h.out) hb); have n10_ := q0 (Kd.R_below (ra z0q.out) hb); have n11_ := q0 (bb q1.out hb); have n12_ := q0 (bb q6.out hb); have n13_ := q0 (bb q8.out hb); have n14_ := q0 (bb q9.out hb); have n15_ := q0 (below_step (q3) hb); clear qd; clear qk; clear qm; clear qp; clear qs; clear qu; clear qz; clear z07; clear z0a; clear z0h; clear z0q; clear q1; clear q6; clear q8; clear q9; clear HB; have qd := n0_; have qk := n1_; have qm := n2_; have qp := n3_; have qs := n4_; have qu := n5_; have qz := n6_; have z07 := n7_; have z0a := n8_; have z0h := n9_; have z0q := n10_; have q1 := n11_; have q6 := n12_; have q8 := n13_; have q9 := n14_; have HB := n15_; clear n0_ n1_ n2_ n3_ n4_ n5_ n6_ n7_ n8_ n9_ n10_ n11_ n12_ n13_ n14_ n15_; (try clear hb); (try clear hb2); (try clear hk); (try clear hi)))
                  go_meet
                  case rel => exact ⟨_, (!t266), (by first | rfl | (simp; done) | (simp [*]; done)), H', ⟨by first | omega | exact Nat.le_refl _⟩, ⟨by refine ra ?_; exact Kd.R_mono qp.out (fun _ hk => ⟨hk.2.2.2.2.1, hk.2.2.2.2.2.2.1⟩)⟩, ⟨by refine ra ?_; exact Kd.R_mono qu.out (fun _ hk => ⟨hk.2.2.2.1, hk.2.2.2.2.2.2.1⟩)⟩, ⟨by refine ra ?_; exact Kd.R_mono z07.out (fun _ hk => ⟨hk.2.2.2.1, hk.2.2.2.2.2.1⟩)⟩, ⟨by refine ba ?_; exact q1.out⟩, ⟨by refine ba ?_; exact q6.out⟩, ⟨by refine ba ?_; exact q8.out⟩, ⟨by refine ba ?_; exact q9.out⟩, ⟨by exact (q3)⟩⟩
               case rest =>
                clear HC35
                try clear c1
                try clear c2
                try clear p2
                try clear c3
                try clear c4
                try clear c5
                try clear c6
                try clear c7
                try clear c8
                try clear c9
                try clear c22
                try clear c23
                try clear c25
                try clear c26
                try clear c29
                try clear c30
                try clear c43
                try clear c44
                try clear c53
                try clear c58
                try clear c59
                try clear c68
                try clear c69
                try clear c70
                try clear c86
                try clear c86b0
                try clear c88
                try clear c89
                try clear c90
                try clear c92
                try clear c93
                try clear hcz54_0
                try clear hcz54_1
                try clear hcz60_0
                try clear hcz60_1
                try clear hcz62_0
                try clear hcz62_1
                try clear hcz71_0
                try clear hcz71_1
                try clear hcz72_0
                try clear hcz72_1
                try clear hcz83_0
                try clear hcz83_1
                try clear hcz91_0
                try clear hcz91_1
                try clear hcz94_0
                try clear hcz94_1
                try clear hfz54_0
                try clear hfz54_1
                try clear hfz60_0
                try clear hfz60_1
                try clear hfz62_0
                try clear hfz62_1
                try clear hfz71_0
                try clear hfz71_1
                try clear hfz72_0
                try clear hfz72_1
                try clear hfz83_0
                try clear hfz83_1
                try clear hfz91_0
                try clear hfz91_1
                try clear hfz94_0
                try clear hfz94_1
                obtain ⟨kq, x80_34, rfl, HA, HJ34, q4, q5, q2, q1, q6, q8, q9, HB⟩ := hcut
                have hl238000_34 := (Kd.R_reads' q5.out).1
                rw [hl238000_34] at q5
                (try simp only [hl238000_34])
                (try simp only [hl238000_34] at q1)
                (try simp only [hl238000_34] at q6)
                (try simp only [hl238000_34] at q8)
                (try simp only [hl238000_34] at q9)
                (try simp only [hl238000_34] at q4)
                (try simp only [hl238000_34] at q2)
                cases kq with
                | zero => exact absurd HA.out (by simp [laws_FnExactHearAll.j0])
                | succ kj34 =>
                 have H := HA.out
                 clear HA
                 simp only [laws_FnExactHearAll.j0] at H
                 by_cases c96 : x80_34 = true
                 · subst c96
                   have H1 := H; rw [if_pos rfl] at H1
                   clear H
                   have H := H1
                   clear H1
                   exact absurd H (by simp)
                 · replace c96 := Bool.eq_false_iff.mpr c96
                   subst c96
                   have H1 : ((laws_markFollower.f kj34 t241 t244 1).bind fun bt267 => ((laws_heldFollower.f kj34 bt267.2 t244 1).bind fun t269 => (if t269 < 0 then (some false) else (if t269 = bt267.1 then ((laws_toIntS.f kj34 l0).bind fun t270 => ((laws_toFollower.f kj34 l1_0 a1_1).bind fun bt273 => ((laws_toIntS.f kj34 l2).bind fun t277 => ((impl_HearAll.f kj34 t270 bt273.1 bt273.2 t277).bind fun bt280 => ((laws_eqFollower.f kj34 bt280.1 bt280.2 t225 t228).bind fun t285 => (if t285 = true then ((laws_heldFollower.f kj34 bt267.2 t244 1).bind fun t286 => (if t286 < 0 then (some false) else (if t286 = bt267.1 then (some true) else (some false)))) else (some false))))))) else (some false))))) = some true := by rw [if_neg (show ¬ (false = true) by decide)] at H; exact H
                   clear H
                   have H := H1
                   clear H1
                   replace H := Option.bind_eq_some_iff.mp H
                   obtain ⟨⟨t267, t268⟩, A970, H⟩ := H
                   try dsimp only at H
                   have A97 := q0 A970
                   clear A970
                   replace H := Option.bind_eq_some_iff.mp H
                   obtain ⟨t269, A980, H⟩ := H
                   try dsimp only at H
                   have A98 := q0 A980
                   clear A980
                   by_cases c99 : t269 < 0
                   · rw [if_pos c99] at H
                     have c99b0 : decide (t269 < 0) = true := decide_eq_true c99
                     clear c99
                     exact absurd H (by simp)
                   · rw [if_neg c99] at H
                     have c99b0 : decide (t269 < 0) = false := decide_eq_false c99
                     clear c99
                     by_cases c107 : t269 = t267
                     · rw [if_pos c107] at H
                       have c107b0 : (t269 == t267) = true := beq_iff_eq.mpr c107
                       have c107b1 : (t269 != t267) = false := bne_eq_false_iff_eq.mpr c107
                       clear c107
                       replace H := Option.bind_eq_some_iff.mp H
                       obtain ⟨t270, A1080, H⟩ := H
                       try dsimp only at H
                       have A108 := q0 A1080
                       clear A1080
                       replace H := Option.bind_eq_some_iff.mp H
                       obtain ⟨⟨t273, t276⟩, A1090, H⟩ := H
                       try dsimp only at H
                       have A109 := q0 A1090
                       clear A1090
                       replace H := Option.bind_eq_some_iff.mp H
                       obtain ⟨t277, A1100, H⟩ := H
                       try dsimp only at H
                       have A110 := q0 A1100
                       clear A1100
                       replace H := Option.bind_eq_some_iff.mp H
                       obtain ⟨⟨t280, t283⟩, A1110, H⟩ := H
                       try dsimp only at H
                       have A111 := q0 A1110
                       clear A1110
                       replace H := Option.bind_eq_some_iff.mp H
                       obtain ⟨t285, A1120, H⟩ := H
                       try dsimp only at H
                       have A112 := q0 A1120
                       clear A1120
                       by_cases c113 : t285 = true
                       · subst c113
                         have H1 := H; rw [if_pos rfl] at H1
                         clear H
                         have H := H1
                         clear H1
                         replace H := Option.bind_eq_some_iff.mp H
                         obtain ⟨t286, A1140, H⟩ := H
                         try dsimp only at H
                         have A114 := q0 A1140
                         clear A1140
                         by_cases c115 : t286 < 0
                         · rw [if_pos c115] at H
                           have c115b0 : decide (t286 < 0) = true := decide_eq_true c115
                           clear c115
                           exact absurd H (by simp)
                         · rw [if_neg c115] at H
                           have c115b0 : decide (t286 < 0) = false := decide_eq_false c115
                           clear c115
                           by_cases c147 : t286 = t267
                           · rw [if_pos c147] at H
                             have c147b0 : (t286 == t267) = true := beq_iff_eq.mpr c147
                             have c147b1 : (t286 != t267) = false := bne_eq_false_iff_eq.mpr c147
                             clear c147 H
                             have hnb148 := z12.out
                             have hnc148 := z0u.out
                             have hnb149 := z13.out
                             have hnc149 := z0v.out
                             have hnb150 := z14.out
                             have hnc150 := z0w.out
                             have hcz151_0 : wc.cell? ⟨qn, 0, none⟩ = some (.slice qh t241.length qg) := (blk_cell q9.out 0).trans rfl
                             have hcz151_1 : wc.cell? ⟨qn, 1, none⟩ = some (.int .i64 t244) := (blk_cell q9.out 1).trans rfl
                             have hfz151_0 := blk_frozen q9.out 0
                             have hfz151_1 := blk_frozen q9.out 1
                             try go_wp2_with (first | ((with_reducible refine gate_callee (f := 30) rfl ?_); refine goesL_ (some 83) rfl rfl Try.func30 (by kernel_rfl) rfl #[.agg #[.slice qh t241.length qg, .int .i64 t244], .int .i64 1] rfl ma ?_; (with_reducible refine (laws_markFollower.calls kj34 (fun k_ => some k_ = (.slice qh t241.length qg : Value).ownBlock) (.slice qh t241.length qg) t241 t244 1 t267 t268 w _ ?side1 ?side2 A97.out).mono ?_); (case side1 => exact (q3)); (case side2 => exact Kd.R_tight rfl q2.out); rintro e w152 ⟨rfl, hy0, hb, hkp⟩; refine ⟨_, rfl, ?_⟩; have n0_ := q0 (Kd.R_mono (ok' := fun k_ => some k_ ≠ (.slice qe t263.length qf : Value).ownBlock ∧ some k_ ≠ (.slice qh t241.length qg : Value).ownBlock) (Kd.R_keptB (q4.out) hkp (fun k_ hk_ hs_ => absurd hs_ (pq hk_))) pk); have n1_ := q0 (Kd.R_mono (ok' := fun k_ => some k_ ≠ (.slice qj t225.length qi : Value).ownBlock ∧ some k_ ≠ (.slice qh t241.length qg : Value).ownBlock) (Kd.R_keptB (q5.out) hkp (fun k_ hk_ hs_ => absurd hs_ (pq hk_))) pk); have n2_ := q0 (Kd.R_reok rfl hy0 (fun k_ e_ => q2.out.1 k_ e_)); have n3_ := q0 (blk_kept (ba q1.out) hkp (fun hs_ => (fun e_ => (Kd.R_ne q2.out q1.out (by decide)) e_) hs_)); have n4_ := q0 (blk_kept (ba q6.out) hkp (fun hs_ => (fun e_ => (Kd.R_ne q2.out q6.out (by decide)) e_) hs_)); have n5_ := q0 (blk_kept (ba q8.out) hkp (fun hs_ => (fun e_ => (Kd.R_ne q2.out q8.out (by decide)) e_) hs_)); have n6_ := q0 (blk_kept (ba q9.out) hkp (fun hs_ => (fun e_ => (Kd.R_ne q2.out q9.out (by decide)) e_) hs_)); have n7_ := q0 (hb); clear q4; clear q5; clear q2; clear q1; clear q6; clear q8; clear q9; clear HB; have q4 := n0_; have q5 := n1_; have q2 := n2_; have q1 := n3_; have q6 := n4_; have q8 := n5_; have q9 := n6_; have HB := n7_; clear n0_ n1_ n2_ n3_ n4_ n5_ n6_ n7_; (try clear hb); (try clear hkp); (try clear hy0); have hcz153_0 : w152.cell? ⟨qn, 0, none⟩ = some (.slice qh t241.length qg) := (blk_cell q9.out 0).trans rfl; have hcz153_1 : w152.cell? ⟨qn, 1, none⟩ = some (.int .i64 t244) := (blk_cell q9.out 1).trans rfl; have hfz153_0 := blk_frozen q9.out 0; have hfz153_1 := blk_frozen q9.out 1) | ((with_reducible refine gate_callee (f := 31) rfl ?_); refine goesL_ (some 86) rfl rfl Try.func31 (by kernel_rfl) rfl #[.agg #[.slice qh t268.length qg, .int .i64 t244], .int .i64 1] rfl (by (try simp only [List.map_toArray, List.map_cons, List.map_nil]); first | done | (rw [show t268.length = t241.length from (Kd.R_reads' q2.out).1.symm] <;> rfl) | rfl | (simp only [List.length_drop, List.length_take]; rfl)) ?_; (with_reducible refine (laws_heldFollower.calls kj34 _ _ t268 t244 1 t269 _ ?side1 ?side2 A98.out).mono ?_); (case side1 => exact ca (Kd.R_reads' q2.out).2.2); (case side2 => rw [show t268.length = t241.length from (Kd.R_reads' q2.out).1.symm]; exact (Kd.R_reads' q2.out).2.1); rintro e w154 ⟨rfl, hb⟩; refine ⟨_, rfl, ?_⟩; have n0_ := q0 (Kd.R_below (ra q4.out) hb); have n1_ := q0 (Kd.R_below (ra q5.out) hb); have n2_ := q0 (Kd.R_below (ra q2.out) hb); have n3_ := q0 (bb q1.out hb); have n4_ := q0 (bb q6.out hb); have n5_ := q0 (bb q8.out hb); have n6_ := q0 (bb q9.out hb); have n7_ := q0 (below_step (q3) hb); clear q4; clear q5; clear q2; clear q1; clear q6; clear q8; clear q9; clear HB; have q4 := n0_; have q5 := n1_; have q2 := n2_; have q1 := n3_; have q6 := n4_; have q8 := n5_; have q9 := n6_; have HB := n7_; clear n0_ n1_ n2_ n3_ n4_ n5_ n6_ n7_; (try clear hb); (try clear hb2); (try clear hk); (try clear hi)))
                             have n0_ := q0 (Kd.R_drew q4.out); have n1_ := q0 (Kd.R_drew q5.out); have n2_ := q0 (Kd.R_drew q2.out); have n3_ := q0 (blk_drew q1.out); have n4_ := q0 (blk_drew q6.out); have n5_ := q0 (blk_drew q8.out); have n6_ := q0 (blk_drew q9.out); have n7_ := q0 (below_drew1 HB.out); clear q4 q5 q2 q1 q6 q8 q9 HB; have q4 := n0_; have q5 := n1_; have q2 := n2_; have q1 := n3_; have q6 := n4_; have q8 := n5_; have q9 := n6_; have HB := n7_; clear n0_ n1_ n2_ n3_ n4_ n5_ n6_ n7_
                             refine start_ (n := 9) (S := fun w' => w'.cell? ⟨q7, 0, none⟩ = some (.slice A1_0 l1_0.length c1_0) ∧ w'.cell? ⟨q7, 1, none⟩ = some (.int .i64 a1_1)) (ds := []) #[false, false, false, false, false, false, false, false, false] (by kernel_rfl) rfl rfl ⟨(blk_cell q1.out 0).trans rfl, (blk_cell q1.out 1).trans rfl⟩ (fun hHeld => ?_); refine with_tabW laws_FnExactHearAll.tab36 laws_FnExactHearAll.bits36 (fun HT_ HW_ => ?_)
                             generalize w154.drew = w155 at q4 q5 q2 q1 q6 q8 q9 HB hHeld ⊢
                             refine pure_ (i := 0) (N := some 92) (v := ?_) (a' := ?_) #[true, false, false, false, false, false, false, false, false] rfl rfl (any_of HT_.out (by kernel_rfl)) (fun _ _ _ h => h) (Or.inl ⟨by rfl, ?_⟩) ?_ ?_
                             rotate_left
                             · intro w'
                               go_simp
                               with_reducible rfl
                             rotate_left
                             · simp only [Act.put, List.setIfInBounds_toArray, List.set_cons_zero, List.set_cons_succ, i64_w, i32_w]
                               rfl
                             refine pure_ (i := 4) (N := some 96) (v := ?_) (a' := ?_) #[true, false, false, false, true, false, false, false, false] rfl rfl (any_of HT_.out (by kernel_rfl)) (fun _ _ _ h => h) (Or.inl ⟨by rfl, ?_⟩) ?_ ?_
                             rotate_left
                             · intro w'
                               go_simp
                               with_reducible rfl
                             rotate_left
                             · simp only [Act.put, List.setIfInBounds_toArray, List.set_cons_zero, List.set_cons_succ, i64_w, i32_w]
                               rfl
                             refine take_ (i := 2) (N := some 94) (v := ?_) (a' := ?_) #[true, false, true, false, true, false, false, false, false] rfl rfl (take_ofW HT_.out HW_.out (by kernel_rfl)) (fun _ _ _ h => h) (Or.inl ⟨by rfl, ?_⟩) hHeld ?_ ?_
                             rotate_left
                             · rintro w' ⟨s0, s1⟩
                               go_simp
                               with_reducible rfl
                             rotate_left
                             · simp only [Act.put, List.setIfInBounds_toArray, List.set_cons_zero, List.set_cons_succ, i64_w, i32_w]
                               rfl
                             refine join_ (σ := Value × Value × Value × Value × Nat) 1 #[true, true, true, true, true, true, true, true, false] (fun s_ => [(93, s_.1), (95, .agg #[s_.2.1, .int .i64 t276]), (97, s_.2.2.1), (98, .agg #[s_.2.2.2.1, .int .i64 t283]), (16, .pointer (some ⟨s_.2.2.2.2, 0, none⟩))]) (fun s_ w' => (w'.cell? ⟨q7, 0, none⟩ = some (.slice A1_0 l1_0.length c1_0) ∧ w'.cell? ⟨q7, 1, none⟩ = some (.int .i64 a1_1)) ∧ (Kd.R (Kd.int .i64) 3 w' w.heap.size (fun k_ => some k_ ≠ (s_.2.1 : Value).ownBlock ∧ some k_ ≠ (s_.2.2.1 : Value).ownBlock ∧ some k_ ≠ (s_.2.2.2.1 : Value).ownBlock ∧ some k_ ≠ (.slice qj t225.length qi : Value).ownBlock ∧ some k_ ≠ (.slice qe t263.length qf : Value).ownBlock ∧ some k_ ≠ (.slice qh t241.length qg : Value).ownBlock) s_.1 t270) ∧ (Kd.R (Kd.int .i64) 3 w' w.heap.size (fun k_ => some k_ ≠ (s_.1 : Value).ownBlock ∧ some k_ ≠ (s_.2.2.1 : Value).ownBlock ∧ some k_ ≠ (s_.2.2.2.1 : Value).ownBlock ∧ some k_ ≠ (.slice qj t225.length qi : Value).ownBlock ∧ some k_ ≠ (.slice qe t263.length qf : Value).ownBlock ∧ some k_ ≠ (.slice qh t241.length qg : Value).ownBlock) s_.2.1 t273) ∧ (Kd.R (Kd.int .i64) 3 w' w.heap.size (fun k_ => some k_ ≠ (s_.1 : Value).ownBlock ∧ some k_ ≠ (s_.2.1 : Value).ownBlock ∧ some k_ ≠ (s_.2.2.2.1 : Value).ownBlock ∧ some k_ ≠ (.slice qj t225.length qi : Value).ownBlock ∧ some k_ ≠ (.slice qe t263.length qf : Value).ownBlock ∧ some k_ ≠ (.slice qh t241.length qg : Value).ownBlock) s_.2.2.1 t277) ∧ (Kd.R (Kd.int .i64) 3 w' w.heap.size (fun k_ => some k_ ≠ (s_.1 : Value).ownBlock ∧ some k_ ≠ (s_.2.1 : Value).ownBlock ∧ some k_ ≠ (s_.2.2.1 : Value).ownBlock ∧ some k_ ≠ (.slice qj t225.length qi : Value).ownBlock ∧ some k_ ≠ (.slice qe t263.length qf : Value).ownBlock ∧ some k_ ≠ (.slice qh t241.length qg : Value).ownBlock) s_.2.2.2.1 t280) ∧ (Kd.R (Kd.int .i64) 3 w' w.heap.size (fun k_ => some k_ ≠ (s_.1 : Value).ownBlock ∧ some k_ ≠ (s_.2.1 : Value).ownBlock ∧ some k_ ≠ (s_.2.2.1 : Value).ownBlock ∧ some k_ ≠ (s_.2.2.2.1 : Value).ownBlock ∧ some k_ ≠ (.slice qe t263.length qf : Value).ownBlock ∧ some k_ ≠ (.slice qh t241.length qg : Value).ownBlock) (.slice qj t225.length qi) t225) ∧ (Kd.R (Kd.int .i64) 3 w' w.heap.size (fun k_ => some k_ ≠ (s_.1 : Value).ownBlock ∧ some k_ ≠ (s_.2.1 : Value).ownBlock ∧ some k_ ≠ (s_.2.2.1 : Value).ownBlock ∧ some k_ ≠ (s_.2.2.2.1 : Value).ownBlock ∧ some k_ ≠ (.slice qj t225.length qi : Value).ownBlock ∧ some k_ ≠ (.slice qh t241.length qg : Value).ownBlock) (.slice qe t263.length qf) t263) ∧ (Kd.R (Kd.int .i64) 3 w' w.heap.size (fun k_ => some k_ ≠ (s_.1 : Value).ownBlock ∧ some k_ ≠ (s_.2.1 : Value).ownBlock ∧ some k_ ≠ (s_.2.2.1 : Value).ownBlock ∧ some k_ ≠ (s_.2.2.2.1 : Value).ownBlock ∧ some k_ ≠ (.slice qj t225.length qi : Value).ownBlock ∧ some k_ ≠ (.slice qe t263.length qf : Value).ownBlock) (.slice qh t241.length qg) t268) ∧ (w'.heap[q7]? = some (.cells #[.slice A1_0 l1_0.length c1_0, .int .i64 a1_1] 31 (0, 0))) ∧ (w'.heap[qb]? = some (.cells #[.slice qj t225.length qi, .int .i64 t228] 35 (0, 0))) ∧ (w'.heap[ql]? = some (.cells #[.slice qe t263.length qf, .int .i64 t236] 35 (0, 0))) ∧ (w'.heap[qn]? = some (.cells #[.slice qh t241.length qg, .int .i64 t244] 35 (0, 0))) ∧ (w'.heap[s_.2.2.2.2]? = some (.cells #[.slice none 0 0, .int .i64 0] 35 (0, 0))) ∧ (w.heap.size ≤ s_.2.2.2.2) ∧ (w.heap.size ≤ s_.2.2.2.2) ∧ (q7 ≠ s_.2.2.2.2) ∧ (s_.2.2.2.2 ≠ q7) ∧ (qb ≠ s_.2.2.2.2) ∧ (s_.2.2.2.2 ≠ qb) ∧ (ql ≠ s_.2.2.2.2) ∧ (s_.2.2.2.2 ≠ ql) ∧ (qn ≠ s_.2.2.2.2) ∧ (s_.2.2.2.2 ≠ qn) ∧ (Below w.heap.size w w')) ?_ ?_
                             rotate_left
                             · intro z0p
                               refine join_ (σ := Value × Value × Value × Value) 2 #[true, true, true, true, true, true, true, false, false] (fun s_ => [(93, s_.1), (95, .agg #[s_.2.1, .int .i64 t276]), (97, s_.2.2.1), (98, .agg #[s_.2.2.2, .int .i64 t283])]) (fun s_ w' => (w'.cell? ⟨q7, 0, none⟩ = some (.slice A1_0 l1_0.length c1_0) ∧ w'.cell? ⟨q7, 1, none⟩ = some (.int .i64 a1_1)) ∧ (Kd.R (Kd.int .i64) 3 w' w.heap.size (fun k_ => some k_ ≠ (s_.2.1 : Value).ownBlock ∧ some k_ ≠ (s_.2.2.1 : Value).ownBlock ∧ some k_ ≠ (s_.2.2.2 : Value).ownBlock ∧ some k_ ≠ (.slice qj t225.length qi : Value).ownBlock ∧ some k_ ≠ (.slice qe t263.length qf : Value).ownBlock ∧ some k_ ≠ (.slice qh t241.length qg : Value).ownBlock) s_.1 t270) ∧ (Kd.R (Kd.int .i64) 3 w' w.heap.size (fun k_ => some k_ ≠ (s_.1 : Value).ownBlock ∧ some k_ ≠ (s_.2.2.1 : Value).ownBlock ∧ some k_ ≠ (s_.2.2.2 : Value).ownBlock ∧ some k_ ≠ (.slice qj t225.length qi : Value).ownBlock ∧ some k_ ≠ (.slice qe t263.length qf : Value).ownBlock ∧ some k_ ≠ (.slice qh t241.length qg : Value).ownBlock) s_.2.1 t273) ∧ (Kd.R (Kd.int .i64) 3 w' w.heap.size (fun k_ => some k_ ≠ (s_.1 : Value).ownBlock ∧ some k_ ≠ (s_.2.1 : Value).ownBlock ∧ some k_ ≠ (s_.2.2.2 : Value).ownBlock ∧ some k_ ≠ (.slice qj t225.length qi : Value).ownBlock ∧ some k_ ≠ (.slice qe t263.length qf : Value).ownBlock ∧ some k_ ≠ (.slice qh t241.length qg : Value).ownBlock) s_.2.2.1 t277) ∧ (Kd.R (Kd.int .i64) 3 w' w.heap.size (fun k_ => some k_ ≠ (s_.1 : Value).ownBlock ∧ some k_ ≠ (s_.2.1 : Value).ownBlock ∧ some k_ ≠ (s_.2.2.1 : Value).ownBlock ∧ some k_ ≠ (.slice qj t225.length qi : Value).ownBlock ∧ some k_ ≠ (.slice qe t263.length qf : Value).ownBlock ∧ some k_ ≠ (.slice qh t241.length qg : Value).ownBlock) s_.2.2.2 t280) ∧ (Kd.R (Kd.int .i64) 3 w' w.heap.size (fun k_ => some k_ ≠ (s_.1 : Value).ownBlock ∧ some k_ ≠ (s_.2.1 : Value).ownBlock ∧ some k_ ≠ (s_.2.2.1 : Value).ownBlock ∧ some k_ ≠ (s_.2.2.2 : Value).ownBlock ∧ some k_ ≠ (.slice qe t263.length qf : Value).ownBlock ∧ some k_ ≠ (.slice qh t241.length qg : Value).ownBlock) (.slice qj t225.length qi) t225) ∧ (Kd.R (Kd.int .i64) 3 w' w.heap.size (fun k_ => some k_ ≠ (s_.1 : Value).ownBlock ∧ some k_ ≠ (s_.2.1 : Value).ownBlock ∧ some k_ ≠ (s_.2.2.1 : Value).ownBlock ∧ some k_ ≠ (s_.2.2.2 : Value).ownBlock ∧ some k_ ≠ (.slice qj t225.length qi : Value).ownBlock ∧ some k_ ≠ (.slice qh t241.length qg : Value).ownBlock) (.slice qe t263.length qf) t263) ∧ (Kd.R (Kd.int .i64) 3 w' w.heap.size (fun k_ => some k_ ≠ (s_.1 : Value).ownBlock ∧ some k_ ≠ (s_.2.1 : Value).ownBlock ∧ some k_ ≠ (s_.2.2.1 : Value).ownBlock ∧ some k_ ≠ (s_.2.2.2 : Value).ownBlock ∧ some k_ ≠ (.slice qj t225.length qi : Value).ownBlock ∧ some k_ ≠ (.slice qe t263.length qf : Value).ownBlock) (.slice qh t241.length qg) t268) ∧ (w'.heap[q7]? = some (.cells #[.slice A1_0 l1_0.length c1_0, .int .i64 a1_1] 31 (0, 0))) ∧ (w'.heap[qb]? = some (.cells #[.slice qj t225.length qi, .int .i64 t228] 35 (0, 0))) ∧ (w'.heap[ql]? = some (.cells #[.slice qe t263.length qf, .int .i64 t236] 35 (0, 0))) ∧ (w'.heap[qn]? = some (.cells #[.slice qh t241.length qg, .int .i64 t244] 35 (0, 0))) ∧ (Below w.heap.size w w')) ?_ ?_
                               rotate_left
                               · intro z0z
                                 refine join_ (σ := Value × Value × Value × Nat) 2 #[true, true, true, true, true, true, false, true, false] (fun s_ => [(93, s_.1), (95, .agg #[s_.2.1, .int .i64 t276]), (97, s_.2.2.1), (16, .pointer (some ⟨s_.2.2.2, 0, none⟩))]) (fun s_ w' => (w'.cell? ⟨q7, 0, none⟩ = some (.slice A1_0 l1_0.length c1_0) ∧ w'.cell? ⟨q7, 1, none⟩ = some (.int .i64 a1_1)) ∧ (Kd.R (Kd.int .i64) 3 w' w.heap.size (fun k_ => some k_ ≠ (s_.2.1 : Value).ownBlock ∧ some k_ ≠ (s_.2.2.1 : Value).ownBlock ∧ some k_ ≠ (.slice qj t225.length qi : Value).ownBlock ∧ some k_ ≠ (.slice qe t263.length qf : Value).ownBlock ∧ some k_ ≠ (.slice qh t241.length qg : Value).ownBlock) s_.1 t270) ∧ (Kd.R (Kd.int .i64) 3 w' w.heap.size (fun k_ => some k_ ≠ (s_.1 : Value).ownBlock ∧ some k_ ≠ (s_.2.2.1 : Value).ownBlock ∧ some k_ ≠ (.slice qj t225.length qi : Value).ownBlock ∧ some k_ ≠ (.slice qe t263.length qf : Value).ownBlock ∧ some k_ ≠ (.slice qh t241.length qg : Value).ownBlock) s_.2.1 t273) ∧ (Kd.R (Kd.int .i64) 3 w' w.heap.size (fun k_ => some k_ ≠ (s_.1 : Value).ownBlock ∧ some k_ ≠ (s_.2.1 : Value).ownBlock ∧ some k_ ≠ (.slice qj t225.length qi : Value).ownBlock ∧ some k_ ≠ (.slice qe t263.length qf : Value).ownBlock ∧ some k_ ≠ (.slice qh t241.length qg : Value).ownBlock) s_.2.2.1 t277) ∧ (Kd.R (Kd.int .i64) 3 w' w.heap.size (fun k_ => some k_ ≠ (s_.1 : Value).ownBlock ∧ some k_ ≠ (s_.2.1 : Value).ownBlock ∧ some k_ ≠ (s_.2.2.1 : Value).ownBlock ∧ some k_ ≠ (.slice qe t263.length qf : Value).ownBlock ∧ some k_ ≠ (.slice qh t241.length qg : Value).ownBlock) (.slice qj t225.length qi) t225) ∧ (Kd.R (Kd.int .i64) 3 w' w.heap.size (fun k_ => some k_ ≠ (s_.1 : Value).ownBlock ∧ some k_ ≠ (s_.2.1 : Value).ownBlock ∧ some k_ ≠ (s_.2.2.1 : Value).ownBlock ∧ some k_ ≠ (.slice qj t225.length qi : Value).ownBlock ∧ some k_ ≠ (.slice qh t241.length qg : Value).ownBlock) (.slice qe t263.length qf) t263) ∧ (Kd.R (Kd.int .i64) 3 w' w.heap.size (fun k_ => some k_ ≠ (s_.1 : Value).ownBlock ∧ some k_ ≠ (s_.2.1 : Value).ownBlock ∧ some k_ ≠ (s_.2.2.1 : Value).ownBlock ∧ some k_ ≠ (.slice qj t225.length qi : Value).ownBlock ∧ some k_ ≠ (.slice qe t263.length qf : Value).ownBlock) (.slice qh t241.length qg) t268) ∧ (w'.heap[q7]? = some (.cells #[.slice A1_0 l1_0.length c1_0, .int .i64 a1_1] 31 (0, 0))) ∧ (w'.heap[qb]? = some (.cells #[.slice qj t225.length qi, .int .i64 t228] 35 (0, 0))) ∧ (w'.heap[ql]? = some (.cells #[.slice qe t263.length qf, .int .i64 t236] 35 (0, 0))) ∧ (w'.heap[qn]? = some (.cells #[.slice qh t241.length qg, .int .i64 t244] 35 (0, 0))) ∧ (w'.heap[s_.2.2.2]? = some (.cells #[.slice none 0 0, .int .i64 0] 35 (0, 0))) ∧ (w.heap.size ≤ s_.2.2.2) ∧ (w.heap.size ≤ s_.2.2.2) ∧ (q7 ≠ s_.2.2.2) ∧ (s_.2.2.2 ≠ q7) ∧ (qb ≠ s_.2.2.2) ∧ (s_.2.2.2 ≠ qb) ∧ (ql ≠ s_.2.2.2) ∧ (s_.2.2.2 ≠ ql) ∧ (qn ≠ s_.2.2.2) ∧ (s_.2.2.2 ≠ qn) ∧ (Below w.heap.size w w')) ?_ ?_
                                 rotate_left
                                 · intro z0s
                                   refine join_ (σ := Value × Value × Value) 3 #[true, true, true, true, true, true, false, false, false] (fun s_ => [(93, s_.1), (95, .agg #[s_.2.1, .int .i64 t276]), (97, s_.2.2)]) (fun s_ w' => (w'.cell? ⟨q7, 0, none⟩ = some (.slice A1_0 l1_0.length c1_0) ∧ w'.cell? ⟨q7, 1, none⟩ = some (.int .i64 a1_1)) ∧ (Kd.R (Kd.int .i64) 3 w' w.heap.size (fun k_ => some k_ ≠ (s_.2.1 : Value).ownBlock ∧ some k_ ≠ (s_.2.2 : Value).ownBlock ∧ some k_ ≠ (.slice qj t225.length qi : Value).ownBlock ∧ some k_ ≠ (.slice qe t263.length qf : Value).ownBlock ∧ some k_ ≠ (.slice qh t241.length qg : Value).ownBlock) s_.1 t270) ∧ (Kd.R (Kd.int .i64) 3 w' w.heap.size (fun k_ => some k_ ≠ (s_.1 : Value).ownBlock ∧ some k_ ≠ (s_.2.2 : Value).ownBlock ∧ some k_ ≠ (.slice qj t225.length qi : Value).ownBlock ∧ some k_ ≠ (.slice qe t263.length qf : Value).ownBlock ∧ some k_ ≠ (.slice qh t241.length qg : Value).ownBlock) s_.2.1 t273) ∧ (Kd.R (Kd.int .i64) 3 w' w.heap.size (fun k_ => some k_ ≠ (s_.1 : Value).ownBlock ∧ some k_ ≠ (s_.2.1 : Value).ownBlock ∧ some k_ ≠ (.slice qj t225.length qi : Value).ownBlock ∧ some k_ ≠ (.slice qe t263.length qf : Value).ownBlock ∧ some k_ ≠ (.slice qh t241.length qg : Value).ownBlock) s_.2.2 t277) ∧ (Kd.R (Kd.int .i64) 3 w' w.heap.size (fun k_ => some k_ ≠ (s_.1 : Value).ownBlock ∧ some k_ ≠ (s_.2.1 : Value).ownBlock ∧ some k_ ≠ (s_.2.2 : Value).ownBlock ∧ some k_ ≠ (.slice qe t263.length qf : Value).ownBlock ∧ some k_ ≠ (.slice qh t241.length qg : Value).ownBlock) (.slice qj t225.length qi) t225) ∧ (Kd.R (Kd.int .i64) 3 w' w.heap.size (fun k_ => some k_ ≠ (s_.1 : Value).ownBlock ∧ some k_ ≠ (s_.2.1 : Value).ownBlock ∧ some k_ ≠ (s_.2.2 : Value).ownBlock ∧ some k_ ≠ (.slice qj t225.length qi : Value).ownBlock ∧ some k_ ≠ (.slice qh t241.length qg : Value).ownBlock) (.slice qe t263.length qf) t263) ∧ (Kd.R (Kd.int .i64) 3 w' w.heap.size (fun k_ => some k_ ≠ (s_.1 : Value).ownBlock ∧ some k_ ≠ (s_.2.1 : Value).ownBlock ∧ some k_ ≠ (s_.2.2 : Value).ownBlock ∧ some k_ ≠ (.slice qj t225.length qi : Value).ownBlock ∧ some k_ ≠ (.slice qe t263.length qf : Value).ownBlock) (.slice qh t241.length qg) t268) ∧ (w'.heap[q7]? = some (.cells #[.slice A1_0 l1_0.length c1_0, .int .i64 a1_1] 31 (0, 0))) ∧ (w'.heap[qb]? = some (.cells #[.slice qj t225.length qi, .int .i64 t228] 35 (0, 0))) ∧ (w'.heap[ql]? = some (.cells #[.slice qe t263.length qf, .int .i64 t236] 35 (0, 0))) ∧ (w'.heap[qn]? = some (.cells #[.slice qh t241.length qg, .int .i64 t244] 35 (0, 0))) ∧ (Below w.heap.size w w')) ?_ ?_
                                   rotate_left
                                   · intro z19
                                     refine join_ (σ := Value × Value × Nat) 3 #[true, true, true, true, true, false, false, true, false] (fun s_ => [(93, s_.1), (95, .agg #[s_.2.1, .int .i64 t276]), (16, .pointer (some ⟨s_.2.2, 0, none⟩))]) (fun s_ w' => (w'.cell? ⟨q7, 0, none⟩ = some (.slice A1_0 l1_0.length c1_0) ∧ w'.cell? ⟨q7, 1, none⟩ = some (.int .i64 a1_1)) ∧ (Kd.R (Kd.int .i64) 3 w' w.heap.size (fun k_ => some k_ ≠ (s_.2.1 : Value).ownBlock ∧ some k_ ≠ (.slice qj t225.length qi : Value).ownBlock ∧ some k_ ≠ (.slice qe t263.length qf : Value).ownBlock ∧ some k_ ≠ (.slice qh t241.length qg : Value).ownBlock) s_.1 t270) ∧ (Kd.R (Kd.int .i64) 3 w' w.heap.size (fun k_ => some k_ ≠ (s_.1 : Value).ownBlock ∧ some k_ ≠ (.slice qj t225.length qi : Value).ownBlock ∧ some k_ ≠ (.slice qe t263.length qf : Value).ownBlock ∧ some k_ ≠ (.slice qh t241.length qg : Value).ownBlock) s_.2.1 t273) ∧ (Kd.R (Kd.int .i64) 3 w' w.heap.size (fun k_ => some k_ ≠ (s_.1 : Value).ownBlock ∧ some k_ ≠ (s_.2.1 : Value).ownBlock ∧ some k_ ≠ (.slice qe t263.length qf : Value).ownBlock ∧ some k_ ≠ (.slice qh t241.length qg : Value).ownBlock) (.slice qj t225.length qi) t225) ∧ (Kd.R (Kd.int .i64) 3 w' w.heap.size (fun k_ => some k_ ≠ (s_.1 : Value).ownBlock ∧ some k_ ≠ (s_.2.1 : Value).ownBlock ∧ some k_ ≠ (.slice qj t225.length qi : Value).ownBlock ∧ some k_ ≠ (.slice qh t241.length qg : Value).ownBlock) (.slice qe t263.length qf) t263) ∧ (Kd.R (Kd.int .i64) 3 w' w.heap.size (fun k_ => some k_ ≠ (s_.1 : Value).ownBlock ∧ some k_ ≠ (s_.2.1 : Value).ownBlock ∧ some k_ ≠ (.slice qj t225.length qi : Value).ownBlock ∧ some k_ ≠ (.slice qe t263.length qf : Value).ownBlock) (.slice qh t241.length qg) t268) ∧ (w'.heap[q7]? = some (.cells #[.slice A1_0 l1_0.length c1_0, .int .i64 a1_1] 31 (0, 0))) ∧ (w'.heap[qb]? = some (.cells #[.slice qj t225.length qi, .int .i64 t228] 35 (0, 0))) ∧ (w'.heap[ql]? = some (.cells #[.slice qe t263.length qf, .int .i64 t236] 35 (0, 0))) ∧ (w'.heap[qn]? = some (.cells #[.slice qh t241.length qg, .int .i64 t244] 35 (0, 0))) ∧ (w'.heap[s_.2.2]? = some (.cells #[.slice none 0 0, .int .i64 0] 35 (0, 0))) ∧ (w.heap.size ≤ s_.2.2) ∧ (w.heap.size ≤ s_.2.2) ∧ (q7 ≠ s_.2.2) ∧ (s_.2.2 ≠ q7) ∧ (qb ≠ s_.2.2) ∧ (s_.2.2 ≠ qb) ∧ (ql ≠ s_.2.2) ∧ (s_.2.2 ≠ ql) ∧ (qn ≠ s_.2.2) ∧ (s_.2.2 ≠ qn) ∧ (Below w.heap.size w w')) ?_ ?_
                                     rotate_left
                                     · intro z0y
                                       refine join_ (σ := Value × Value) 4 #[true, true, true, true, true, false, false, false, false] (fun s_ => [(93, s_.1), (95, .agg #[s_.2, .int .i64 t276])]) (fun s_ w' => (w'.cell? ⟨q7, 0, none⟩ = some (.slice A1_0 l1_0.length c1_0) ∧ w'.cell? ⟨q7, 1, none⟩ = some (.int .i64 a1_1)) ∧ (Kd.R (Kd.int .i64) 3 w' w.heap.size (fun k_ => some k_ ≠ (s_.2 : Value).ownBlock ∧ some k_ ≠ (.slice qj t225.length qi : Value).ownBlock ∧ some k_ ≠ (.slice qe t263.length qf : Value).ownBlock ∧ some k_ ≠ (.slice qh t241.length qg : Value).ownBlock) s_.1 t270) ∧ (Kd.R (Kd.int .i64) 3 w' w.heap.size (fun k_ => some k_ ≠ (s_.1 : Value).ownBlock ∧ some k_ ≠ (.slice qj t225.length qi : Value).ownBlock ∧ some k_ ≠ (.slice qe t263.length qf : Value).ownBlock ∧ some k_ ≠ (.slice qh t241.length qg : Value).ownBlock) s_.2 t273) ∧ (Kd.R (Kd.int .i64) 3 w' w.heap.size (fun k_ => some k_ ≠ (s_.1 : Value).ownBlock ∧ some k_ ≠ (s_.2 : Value).ownBlock ∧ some k_ ≠ (.slice qe t263.length qf : Value).ownBlock ∧ some k_ ≠ (.slice qh t241.length qg : Value).ownBlock) (.slice qj t225.length qi) t225) ∧ (Kd.R (Kd.int .i64) 3 w' w.heap.size (fun k_ => some k_ ≠ (s_.1 : Value).ownBlock ∧ some k_ ≠ (s_.2 : Value).ownBlock ∧ some k_ ≠ (.slice qj t225.length qi : Value).ownBlock ∧ some k_ ≠ (.slice qh t241.length qg : Value).ownBlock) (.slice qe t263.length qf) t263) ∧ (Kd.R (Kd.int .i64) 3 w' w.heap.size (fun k_ => some k_ ≠ (s_.1 : Value).ownBlock ∧ some k_ ≠ (s_.2 : Value).ownBlock ∧ some k_ ≠ (.slice qj t225.length qi : Value).ownBlock ∧ some k_ ≠ (.slice qe t263.length qf : Value).ownBlock) (.slice qh t241.length qg) t268) ∧ (w'.heap[q7]? = some (.cells #[.slice A1_0 l1_0.length c1_0, .int .i64 a1_1] 31 (0, 0))) ∧ (w'.heap[qb]? = some (.cells #[.slice qj t225.length qi, .int .i64 t228] 35 (0, 0))) ∧ (w'.heap[ql]? = some (.cells #[.slice qe t263.length qf, .int .i64 t236] 35 (0, 0))) ∧ (w'.heap[qn]? = some (.cells #[.slice qh t241.length qg, .int .i64 t244] 35 (0, 0))) ∧ (Below w.heap.size w w')) ?_ ?_
                                       rotate_left
                                       · intro z1i
                                         refine join_ (σ := Value × Nat) 4 #[true, true, true, false, true, false, false, true, false] (fun s_ => [(93, s_.1), (16, .pointer (some ⟨s_.2, 0, none⟩))]) (fun s_ w' => (w'.cell? ⟨q7, 0, none⟩ = some (.slice A1_0 l1_0.length c1_0) ∧ w'.cell? ⟨q7, 1, none⟩ = some (.int .i64 a1_1)) ∧ (Kd.R (Kd.int .i64) 3 w' w.heap.size (fun k_ => some k_ ≠ (.slice qj t225.length qi : Value).ownBlock ∧ some k_ ≠ (.slice qe t263.length qf : Value).ownBlock ∧ some k_ ≠ (.slice qh t241.length qg : Value).ownBlock) s_.1 t270) ∧ (Kd.R (Kd.int .i64) 3 w' w.heap.size (fun k_ => some k_ ≠ (s_.1 : Value).ownBlock ∧ some k_ ≠ (.slice qe t263.length qf : Value).ownBlock ∧ some k_ ≠ (.slice qh t241.length qg : Value).ownBlock) (.slice qj t225.length qi) t225) ∧ (Kd.R (Kd.int .i64) 3 w' w.heap.size (fun k_ => some k_ ≠ (s_.1 : Value).ownBlock ∧ some k_ ≠ (.slice qj t225.length qi : Value).ownBlock ∧ some k_ ≠ (.slice qh t241.length qg : Value).ownBlock) (.slice qe t263.length qf) t263) ∧ (Kd.R (Kd.int .i64) 3 w' w.heap.size (fun k_ => some k_ ≠ (s_.1 : Value).ownBlock ∧ some k_ ≠ (.slice qj t225.length qi : Value).ownBlock ∧ some k_ ≠ (.slice qe t263.length qf : Value).ownBlock) (.slice qh t241.length qg) t268) ∧ (w'.heap[q7]? = some (.cells #[.slice A1_0 l1_0.length c1_0, .int .i64 a1_1] 31 (0, 0))) ∧ (w'.heap[qb]? = some (.cells #[.slice qj t225.length qi, .int .i64 t228] 35 (0, 0))) ∧ (w'.heap[ql]? = some (.cells #[.slice qe t263.length qf, .int .i64 t236] 35 (0, 0))) ∧ (w'.heap[qn]? = some (.cells #[.slice qh t241.length qg, .int .i64 t244] 35 (0, 0))) ∧ (w'.heap[s_.2]? = some (.cells #[.slice none 0 0, .int .i64 0] 35 (0, 0))) ∧ (w.heap.size ≤ s_.2) ∧ (w.heap.size ≤ s_.2) ∧ (q7 ≠ s_.2) ∧ (s_.2 ≠ q7) ∧ (qb ≠ s_.2) ∧ (s_.2 ≠ qb) ∧ (ql ≠ s_.2) ∧ (s_.2 ≠ ql) ∧ (qn ≠ s_.2) ∧ (s_.2 ≠ qn) ∧ (Below w.heap.size w w')) ?_ ?_
                                         rotate_left
                                         · intro z1a
                                           refine join_ (σ := Value) 5 #[true, true, true, false, true, false, false, false, false] (fun s_ => [(93, s_)]) (fun s_ w' => (w'.cell? ⟨q7, 0, none⟩ = some (.slice A1_0 l1_0.length c1_0) ∧ w'.cell? ⟨q7, 1, none⟩ = some (.int .i64 a1_1)) ∧ (Kd.R (Kd.int .i64) 3 w' w.heap.size (fun k_ => some k_ ≠ (.slice qj t225.length qi : Value).ownBlock ∧ some k_ ≠ (.slice qe t263.length qf : Value).ownBlock ∧ some k_ ≠ (.slice qh t241.length qg : Value).ownBlock) s_ t270) ∧ (Kd.R (Kd.int .i64) 3 w' w.heap.size (fun k_ => some k_ ≠ (s_ : Value).ownBlock ∧ some k_ ≠ (.slice qe t263.length qf : Value).ownBlock ∧ some k_ ≠ (.slice qh t241.length qg : Value).ownBlock) (.slice qj t225.length qi) t225) ∧ (Kd.R (Kd.int .i64) 3 w' w.heap.size (fun k_ => some k_ ≠ (s_ : Value).ownBlock ∧ some k_ ≠ (.slice qj t225.length qi : Value).ownBlock ∧ some k_ ≠ (.slice qh t241.length qg : Value).ownBlock) (.slice qe t263.length qf) t263) ∧ (Kd.R (Kd.int .i64) 3 w' w.heap.size (fun k_ => some k_ ≠ (s_ : Value).ownBlock ∧ some k_ ≠ (.slice qj t225.length qi : Value).ownBlock ∧ some k_ ≠ (.slice qe t263.length qf : Value).ownBlock) (.slice qh t241.length qg) t268) ∧ (w'.heap[q7]? = some (.cells #[.slice A1_0 l1_0.length c1_0, .int .i64 a1_1] 31 (0, 0))) ∧ (w'.heap[qb]? = some (.cells #[.slice qj t225.length qi, .int .i64 t228] 35 (0, 0))) ∧ (w'.heap[ql]? = some (.cells #[.slice qe t263.length qf, .int .i64 t236] 35 (0, 0))) ∧ (w'.heap[qn]? = some (.cells #[.slice qh t241.length qg, .int .i64 t244] 35 (0, 0))) ∧ (Below w.heap.size w w')) ?_ ?_
                                           rotate_left
                                           · intro hJ1
                                             refine join_ (σ := Nat) 5 #[true, false, true, false, true, false, false, true, false] (fun s_ => [(16, .pointer (some ⟨s_, 0, none⟩))]) (fun s_ w' => (w'.cell? ⟨q7, 0, none⟩ = some (.slice A1_0 l1_0.length c1_0) ∧ w'.cell? ⟨q7, 1, none⟩ = some (.int .i64 a1_1)) ∧ (Kd.R (Kd.int .i64) 3 w' w.heap.size (fun k_ => some k_ ≠ (.slice qe t263.length qf : Value).ownBlock ∧ some k_ ≠ (.slice qh t241.length qg : Value).ownBlock) (.slice qj t225.length qi) t225) ∧ (Kd.R (Kd.int .i64) 3 w' w.heap.size (fun k_ => some k_ ≠ (.slice qj t225.length qi : Value).ownBlock ∧ some k_ ≠ (.slice qh t241.length qg : Value).ownBlock) (.slice qe t263.length qf) t263) ∧ (Kd.R (Kd.int .i64) 3 w' w.heap.size (fun k_ => some k_ ≠ (.slice qj t225.length qi : Value).ownBlock ∧ some k_ ≠ (.slice qe t263.length qf : Value).ownBlock) (.slice qh t241.length qg) t268) ∧ (w'.heap[q7]? = some (.cells #[.slice A1_0 l1_0.length c1_0, .int .i64 a1_1] 31 (0, 0))) ∧ (w'.heap[qb]? = some (.cells #[.slice qj t225.length qi, .int .i64 t228] 35 (0, 0))) ∧ (w'.heap[ql]? = some (.cells #[.slice qe t263.length qf, .int .i64 t236] 35 (0, 0))) ∧ (w'.heap[qn]? = some (.cells #[.slice qh t241.length qg, .int .i64 t244] 35 (0, 0))) ∧ (w'.heap[s_]? = some (.cells #[.slice none 0 0, .int .i64 0] 35 (0, 0))) ∧ (w.heap.size ≤ s_) ∧ (w.heap.size ≤ s_) ∧ (q7 ≠ s_) ∧ (s_ ≠ q7) ∧ (qb ≠ s_) ∧ (s_ ≠ qb) ∧ (ql ≠ s_) ∧ (s_ ≠ ql) ∧ (qn ≠ s_) ∧ (s_ ≠ qn) ∧ (Below w.heap.size w w')) ?_ ?_
                                             rotate_left
                                             · intro hJ7
                                               refine two_ (i := 1) (j := 7) (Ni := some 93) (Nj := some 16) #[true, true, true, false, true, false, false, false, false] #[true, false, true, false, true, false, false, true, false] rfl rfl rfl rfl (two_of HT_.out (by kernel_rfl)) (by decide) (by decide) (fun K hK => ?_) (fun K hK => ?_)
                                               · skip
                                                 refine goes_ Try.func22 (by kernel_rfl) rfl #[.slice A0 l0.length c0] (by rfl) rfl rfl ma ?_
                                                 with_reducible refine (laws_toIntS.calls kj34 _ _ l0 t270 _ ?side1 ?side2 A108.out).mono ?_
                                                 (case side1 => exact ca (Kd.C_below HR0.out HB.out))
                                                 (case side2 => exact HC0.out)
                                                 rintro e w156 ⟨v271, rfl, ho0, hb⟩
                                                 refine ⟨_, rfl, ?_⟩
                                                 have n0_ := q0 (Kd.R_elder' (ra q4.out) (Kd.R_base ho0) hb); have n1_ := q0 (Kd.R_elder' (ra q5.out) (Kd.R_base ho0) hb); have n2_ := q0 (Kd.R_elder' (ra q2.out) (Kd.R_base ho0) hb); have n3_ := q0 (Kd.R_lower (Kd.R_new' (Kd.R_new' (Kd.R_new' ho0 (Kd.R_lt (ra q4.out))) (Kd.R_lt (ra q5.out))) (Kd.R_lt (ra q2.out))) (below_size (q3))); have n4_ := q0 (bb q1.out hb); have n5_ := q0 (bb q6.out hb); have n6_ := q0 (bb q8.out hb); have n7_ := q0 (bb q9.out hb); have n8_ := q0 (below_step (q3) hb); clear q4 q5 q2 q1 q6 q8 q9 HB; have q4 := n0_; have q5 := n1_; have q2 := n2_; have qr := n3_; have q1 := n4_; have q6 := n5_; have q8 := n6_; have q9 := n7_; have HB := n8_; clear n0_ n1_ n2_ n3_ n4_ n5_ n6_ n7_ n8_; (try clear hb); (try clear hb2); (try clear hk); (try clear hi); (try clear ho0)
                                                 refine hK.out _ _ ⟨(blk_cell q1.out 0).trans rfl, (blk_cell q1.out 1).trans rfl⟩ (fun hHeld => ?_)
                                                 clear hK K
                                                 refine norm_ (a' := ?_) ?_ ?_
                                                 rotate_left
                                                 · show Act.put _ (some 93) _ = _
                                                   simp only [Act.put, List.setIfInBounds_toArray, List.set_cons_zero, List.set_cons_succ, i64_w, i32_w]
                                                   rfl
                                                 exact norm_ pa (hJ1 (v271) _ ⟨hHeld, (by refine ra ?_; exact Kd.R_mono qr.out (fun _ hk => ⟨hk.1.1.2, ⟨hk.1.2, hk.2⟩⟩)), (by refine ra ?_; exact Kd.R_mono q4.out (fun _ hk => ⟨hk.2, ⟨hk.1.1, hk.1.2⟩⟩)), (by refine ra ?_; exact Kd.R_mono q5.out (fun _ hk => ⟨hk.2, ⟨hk.1.1, hk.1.2⟩⟩)), (by refine ra ?_; exact Kd.R_mono q2.out (fun _ hk => ⟨hk.2, ⟨hk.1.1, hk.1.2⟩⟩)), (ba q1.out), (ba q6.out), (ba q8.out), (ba q9.out), (q3)⟩)
                                               · skip
                                                 refine box_step ?hg (N := 16) ?hd (cs := #[.slice none 0 0, .int .i64 0]) (t := 35) ?hr ?_; (case hd => rfl); (case hg => rfl); (case hr => first | (go_simp; done) | (go_simp; rfl))
                                                 intro qa hg w156 hbox hb
                                                 have n0_ := q0 (Kd.R_below (ra q4.out) hb); have n1_ := q0 (Kd.R_below (ra q5.out) hb); have n2_ := q0 (Kd.R_below (ra q2.out) hb); have n3_ := q0 (bb q1.out hb); have n4_ := q0 (bb q6.out hb); have n5_ := q0 (bb q8.out hb); have n6_ := q0 (bb q9.out hb); have n7_ := q0 (below_step (q3) hb); have n8_ := q0 (hbox); have n9_ := q0 ((by rw [hg]; exact (below_size (q3)) : w.heap.size ≤ qa)); have n10_ := q0 ((by rw [hg]; exact (below_size (q3)) : w.heap.size ≤ qa)); have n11_ := q0 ((by rw [hg]; exact Nat.ne_of_lt (bl q1.out) : q7 ≠ qa)); have n12_ := q0 ((by rw [hg]; exact Nat.ne_of_gt (bl q1.out) : qa ≠ q7)); have n13_ := q0 ((by rw [hg]; exact Nat.ne_of_lt (bl q6.out) : qb ≠ qa)); have n14_ := q0 ((by rw [hg]; exact Nat.ne_of_gt (bl q6.out) : qa ≠ qb)); have n15_ := q0 ((by rw [hg]; exact Nat.ne_of_lt (bl q8.out) : ql ≠ qa)); have n16_ := q0 ((by rw [hg]; exact Nat.ne_of_gt (bl q8.out) : qa ≠ ql)); have n17_ := q0 ((by rw [hg]; exact Nat.ne_of_lt (bl q9.out) : qn ≠ qa)); have n18_ := q0 ((by rw [hg]; exact Nat.ne_of_gt (bl q9.out) : qa ≠ qn)); clear q4 q5 q2 q1 q6 q8 q9 HB; have q4 := n0_; have q5 := n1_; have q2 := n2_; have q1 := n3_; have q6 := n4_; have q8 := n5_; have q9 := n6_; have HB := n7_; have z00 := n8_; have GW284 := n9_; have z0n := n10_; have qt := n11_; have z03 := n12_; have qw := n13_; have z04 := n14_; have qx := n15_; have z05 := n16_; have qy := n17_; have z06 := n18_; clear n0_ n1_ n2_ n3_ n4_ n5_ n6_ n7_ n8_ n9_ n10_ n11_ n12_ n13_ n14_ n15_ n16_ n17_ n18_ hb hbox hg
                                                 refine hK.out _ _ ⟨(blk_cell q1.out 0).trans rfl, (blk_cell q1.out 1).trans rfl⟩ (fun hHeld => ?_)
                                                 clear hK K
                                                 refine norm_ (a' := ?_) ?_ ?_
                                                 rotate_left
                                                 · show Act.put _ (some 16) _ = _
                                                   simp only [Act.put, List.setIfInBounds_toArray, List.set_cons_zero, List.set_cons_succ, i64_w, i32_w]
                                                   rfl
                                                 exact norm_ pa (hJ7 (qa) _ ⟨hHeld, (ra q4.out), (ra q5.out), (ra q2.out), (ba q1.out), (ba q6.out), (ba q8.out), (ba q9.out), (ba z00.out), GW284.out, z0n.out, qt.out, z03.out, qw.out, z04.out, qx.out, z05.out, qy.out, z06.out, (qc)⟩)
                                             · skip
                                               rintro qa w157 ⟨hS_, h0_, h1_, h2_, h3_, h4_, h5_, h6_, h7_, h8_, h9_, h10_, h11_, h12_, h13_, h14_, h15_, h16_, h17_, h18_⟩
                                               have n0_ : Aside0 (Kd.R (Kd.int .i64) 3 w157 w.heap.size (fun k_ => some k_ ≠ (.slice qe t263.length qf : Value).ownBlock ∧ some k_ ≠ (.slice qh t241.length qg : Value).ownBlock) (.slice qj t225.length qi) t225) := ⟨h0_⟩
                                               have n1_ : Aside0 (Kd.R (Kd.int .i64) 3 w157 w.heap.size (fun k_ => some k_ ≠ (.slice qj t225.length qi : Value).ownBlock ∧ some k_ ≠ (.slice qh t241.length qg : Value).ownBlock) (.slice qe t263.length qf) t263) := ⟨h1_⟩
                                               have n2_ : Aside0 (Kd.R (Kd.int .i64) 3 w157 w.heap.size (fun k_ => some k_ ≠ (.slice qj t225.length qi : Value).ownBlock ∧ some k_ ≠ (.slice qe t263.length qf : Value).ownBlock) (.slice qh t241.length qg) t268) := ⟨h2_⟩
                                               have n3_ : Aside0 (w157.heap[q7]? = some (.cells #[.slice A1_0 l1_0.length c1_0, .int .i64 a1_1] 31 (0, 0))) := ⟨h3_⟩
                                               have n4_ : Aside0 (w157.heap[qb]? = some (.cells #[.slice qj t225.length qi, .int .i64 t228] 35 (0, 0))) := ⟨h4_⟩
                                               have n5_ : Aside0 (w157.heap[ql]? = some (.cells #[.slice qe t263.length qf, .int .i64 t236] 35 (0, 0))) := ⟨h5_⟩
                                               have n6_ : Aside0 (w157.heap[qn]? = some (.cells #[.slice qh t241.length qg, .int .i64 t244] 35 (0, 0))) := ⟨h6_⟩
                                               have n7_ : Aside0 (w157.heap[qa]? = some (.cells #[.slice none 0 0, .int .i64 0] 35 (0, 0))) := ⟨h7_⟩
                                               have n8_ : Aside0 (w.heap.size ≤ qa) := ⟨h8_⟩
                                               have n9_ : Aside0 (w.heap.size ≤ qa) := ⟨h9_⟩
                                               have n10_ : Aside0 (q7 ≠ qa) := ⟨h10_⟩
                                               have n11_ : Aside0 (qa ≠ q7) := ⟨h11_⟩
                                               have n12_ : Aside0 (qb ≠ qa) := ⟨h12_⟩
                                               have n13_ : Aside0 (qa ≠ qb) := ⟨h13_⟩
                                               have n14_ : Aside0 (ql ≠ qa) := ⟨h14_⟩
                                               have n15_ : Aside0 (qa ≠ ql) := ⟨h15_⟩
                                               have n16_ : Aside0 (qn ≠ qa) := ⟨h16_⟩
                                               have n17_ : Aside0 (qa ≠ qn) := ⟨h17_⟩
                                               have n18_ : Aside0 (Below w.heap.size w w157) := ⟨h18_⟩
                                               clear q4 q5 q2 q1 q6 q8 q9 HB h0_ h1_ h2_ h3_ h4_ h5_ h6_ h7_ h8_ h9_ h10_ h11_ h12_ h13_ h14_ h15_ h16_ h17_ h18_; have q4 := n0_; have q5 := n1_; have q2 := n2_; have q1 := n3_; have q6 := n4_; have q8 := n5_; have q9 := n6_; have z00 := n7_; have GW284 := n8_; have z0n := n9_; have qt := n10_; have z03 := n11_; have qw := n12_; have z04 := n13_; have qx := n14_; have z05 := n15_; have qy := n16_; have z06 := n17_; have HB := n18_; clear n0_ n1_ n2_ n3_ n4_ n5_ n6_ n7_ n8_ n9_ n10_ n11_ n12_ n13_ n14_ n15_ n16_ n17_ n18_
                                               have hHeld : w157.cell? ⟨q7, 0, none⟩ = some (.slice A1_0 l1_0.length c1_0) ∧ w157.cell? ⟨q7, 1, none⟩ = some (.int .i64 a1_1) := hS_
                                               refine norm_ (a' := ?_) ?_ ?_
                                               rotate_left
                                               · simp only [putAll, Act.put, List.setIfInBounds_toArray, List.set_cons_zero, List.set_cons_succ]
                                                 rfl
                                               refine one_ (i := 1) (N := some 93) #[true, true, true, false, true, false, false, true, false] rfl rfl (one_of HT_.out (by kernel_rfl)) (by decide) (fun K hK => ?_)
                                               refine goes_ Try.func22 (by kernel_rfl) rfl #[.slice A0 l0.length c0] (by rfl) rfl rfl ma ?_
                                               with_reducible refine (laws_toIntS.calls kj34 _ _ l0 t270 _ ?side1 ?side2 A108.out).mono ?_
                                               (case side1 => exact ca (Kd.C_below HR0.out HB.out))
                                               (case side2 => exact HC0.out)
                                               rintro e w158 ⟨v271, rfl, ho0, hb⟩
                                               refine ⟨_, rfl, ?_⟩
                                               have n0_ := q0 (Kd.R_elder' (ra q4.out) (Kd.R_base ho0) hb); have n1_ := q0 (Kd.R_elder' (ra q5.out) (Kd.R_base ho0) hb); have n2_ := q0 (Kd.R_elder' (ra q2.out) (Kd.R_base ho0) hb); have n3_ := q0 (Kd.R_lower (Kd.R_new' (Kd.R_new' (Kd.R_new' ho0 (Kd.R_lt (ra q4.out))) (Kd.R_lt (ra q5.out))) (Kd.R_lt (ra q2.out))) (below_size (qc))); have n4_ := q0 (bb q1.out hb); have n5_ := q0 (bb q6.out hb); have n6_ := q0 (bb q8.out hb); have n7_ := q0 (bb q9.out hb); have n8_ := q0 (bb z00.out hb); have n9_ := q0 (below_step (qc) hb); clear q4 q5 q2 q1 q6 q8 q9 z00 HB; have q4 := n0_; have q5 := n1_; have q2 := n2_; have qr := n3_; have q1 := n4_; have q6 := n5_; have q8 := n6_; have q9 := n7_; have z00 := n8_; have HB := n9_; clear n0_ n1_ n2_ n3_ n4_ n5_ n6_ n7_ n8_ n9_; (try clear hb); (try clear hb2); (try clear hk); (try clear hi); (try clear ho0)
                                               refine hK.out _ _ ⟨(blk_cell q1.out 0).trans rfl, (blk_cell q1.out 1).trans rfl⟩ (fun hHeld => ?_)
                                               clear hK K
                                               refine norm_ (a' := ?_) ?_ ?_
                                               rotate_left
                                               · show Act.put _ (some 93) _ = _
                                                 simp only [Act.put, List.setIfInBounds_toArray, List.set_cons_zero, List.set_cons_succ, i64_w, i32_w]
                                                 rfl
                                               exact norm_ pa (z1a (v271, qa) _ ⟨hHeld, (by refine ra ?_; exact Kd.R_mono qr.out (fun _ hk => ⟨hk.1.1.2, ⟨hk.1.2, hk.2⟩⟩)), (by refine ra ?_; exact Kd.R_mono q4.out (fun _ hk => ⟨hk.2, ⟨hk.1.1, hk.1.2⟩⟩)), (by refine ra ?_; exact Kd.R_mono q5.out (fun _ hk => ⟨hk.2, ⟨hk.1.1, hk.1.2⟩⟩)), (by refine ra ?_; exact Kd.R_mono q2.out (fun _ hk => ⟨hk.2, ⟨hk.1.1, hk.1.2⟩⟩)), (ba q1.out), (ba q6.out), (ba q8.out), (ba q9.out), (ba z00.out), GW284.out, z0n.out, qt.out, z03.out, qw.out, z04.out, qx.out, z05.out, qy.out, z06.out, (qc)⟩)
                                           · skip
                                             rintro v271 w157 ⟨hS_, h0_, h1_, h2_, h3_, h4_, h5_, h6_, h7_, h8_⟩
                                             have n0_ : Aside0 (Kd.R (Kd.int .i64) 3 w157 w.heap.size (fun k_ => some k_ ≠ (.slice qj t225.length qi : Value).ownBlock ∧ some k_ ≠ (.slice qe t263.length qf : Value).ownBlock ∧ some k_ ≠ (.slice qh t241.length qg : Value).ownBlock) v271 t270) := ⟨h0_⟩
                                             have n1_ : Aside0 (Kd.R (Kd.int .i64) 3 w157 w.heap.size (fun k_ => some k_ ≠ (v271 : Value).ownBlock ∧ some k_ ≠ (.slice qe t263.length qf : Value).ownBlock ∧ some k_ ≠ (.slice qh t241.length qg : Value).ownBlock) (.slice qj t225.length qi) t225) := ⟨h1_⟩
                                             have n2_ : Aside0 (Kd.R (Kd.int .i64) 3 w157 w.heap.size (fun k_ => some k_ ≠ (v271 : Value).ownBlock ∧ some k_ ≠ (.slice qj t225.length qi : Value).ownBlock ∧ some k_ ≠ (.slice qh t241.length qg : Value).ownBlock) (.slice qe t263.length qf) t263) := ⟨h2_⟩
                                             have n3_ : Aside0 (Kd.R (Kd.int .i64) 3 w157 w.heap.size (fun k_ => some k_ ≠ (v271 : Value).ownBlock ∧ some k_ ≠ (.slice qj t225.length qi : Value).ownBlock ∧ some k_ ≠ (.slice qe t263.length qf : Value).ownBlock) (.slice qh t241.length qg) t268) := ⟨h3_⟩
                                             have n4_ : Aside0 (w157.heap[q7]? = some (.cells #[.slice A1_0 l1_0.length c1_0, .int .i64 a1_1] 31 (0, 0))) := ⟨h4_⟩
                                             have n5_ : Aside0 (w157.heap[qb]? = some (.cells #[.slice qj t225.length qi, .int .i64 t228] 35 (0, 0))) := ⟨h5_⟩
                                             have n6_ : Aside0 (w157.heap[ql]? = some (.cells #[.slice qe t263.length qf, .int .i64 t236] 35 (0, 0))) := ⟨h6_⟩
                                             have n7_ : Aside0 (w157.heap[qn]? = some (.cells #[.slice qh t241.length qg, .int .i64 t244] 35 (0, 0))) := ⟨h7_⟩
                                             have n8_ : Aside0 (Below w.heap.size w w157) := ⟨h8_⟩
                                             clear q4 q5 q2 q1 q6 q8 q9 HB h0_ h1_ h2_ h3_ h4_ h5_ h6_ h7_ h8_; have qr := n0_; have q4 := n1_; have q5 := n2_; have q2 := n3_; have q1 := n4_; have q6 := n5_; have q8 := n6_; have q9 := n7_; have HB := n8_; clear n0_ n1_ n2_ n3_ n4_ n5_ n6_ n7_ n8_
                                             have hHeld : w157.cell? ⟨q7, 0, none⟩ = some (.slice A1_0 l1_0.length c1_0) ∧ w157.cell? ⟨q7, 1, none⟩ = some (.int .i64 a1_1) := hS_
                                             refine norm_ (a' := ?_) ?_ ?_
                                             rotate_left
                                             · simp only [putAll, Act.put, List.setIfInBounds_toArray, List.set_cons_zero, List.set_cons_succ]
                                               rfl
                                             refine two_ (i := 3) (j := 7) (Ni := some 95) (Nj := some 16) #[true, true, true, true, true, false, false, false, false] #[true, true, true, false, true, false, false, true, false] rfl rfl rfl rfl (two_of HT_.out (by kernel_rfl)) (by decide) (by decide) (fun K hK => ?_) (fun K hK => ?_)
                                             · skip
                                               refine goes_ Try.func23 (by kernel_rfl) rfl #[.agg #[.slice A1_0 l1_0.length c1_0, .int .i64 a1_1]] (by rfl) rfl rfl ma ?_
                                               with_reducible refine (laws_toFollower.calls kj34 _ _ l1_0 a1_1 t273 t276 _ ?side1 ?side2 A109.out).mono ?_
                                               (case side1 => exact ca (Kd.C_below HR1_0.out HB.out))
                                               (case side2 => exact HC1_0.out)
                                               rintro e w158 ⟨v274, rfl, ho0, hb⟩
                                               refine ⟨_, rfl, ?_⟩
                                               have n0_ := q0 (Kd.R_elder' (ra q4.out) (Kd.R_base ho0) hb); have n1_ := q0 (Kd.R_elder' (ra q5.out) (Kd.R_base ho0) hb); have n2_ := q0 (Kd.R_elder' (ra q2.out) (Kd.R_base ho0) hb); have n3_ := q0 (Kd.R_elder' (ra qr.out) (Kd.R_base ho0) hb); have n4_ := q0 (Kd.R_lower (Kd.R_new' (Kd.R_new' (Kd.R_new' (Kd.R_new' ho0 (Kd.R_lt (ra q4.out))) (Kd.R_lt (ra q5.out))) (Kd.R_lt (ra q2.out))) (Kd.R_lt (ra qr.out))) (below_size (q3))); have n5_ := q0 (bb q1.out hb); have n6_ := q0 (bb q6.out hb); have n7_ := q0 (bb q8.out hb); have n8_ := q0 (bb q9.out hb); have n9_ := q0 (below_step (q3) hb); clear q4 q5 q2 qr q1 q6 q8 q9 HB; have q4 := n0_; have q5 := n1_; have q2 := n2_; have qr := n3_; have z01 := n4_; have q1 := n5_; have q6 := n6_; have q8 := n7_; have q9 := n8_; have HB := n9_; clear n0_ n1_ n2_ n3_ n4_ n5_ n6_ n7_ n8_ n9_; (try clear hb); (try clear hb2); (try clear hk); (try clear hi); (try clear ho0)
                                               refine hK.out _ _ ⟨(blk_cell q1.out 0).trans rfl, (blk_cell q1.out 1).trans rfl⟩ (fun hHeld => ?_)
                                               clear hK K
                                               refine norm_ (a' := ?_) ?_ ?_
                                               rotate_left
                                               · show Act.put _ (some 95) _ = _
                                                 simp only [Act.put, List.setIfInBounds_toArray, List.set_cons_zero, List.set_cons_succ, i64_w, i32_w]
                                                 rfl
                                               exact norm_ pa (z1i (v271, v274) _ ⟨hHeld, (by refine ra ?_; exact Kd.R_mono qr.out (fun _ hk => ⟨hk.2, ⟨hk.1.1, ⟨hk.1.2.1, hk.1.2.2⟩⟩⟩)), (by refine ra ?_; exact Kd.R_mono z01.out (fun _ hk => ⟨hk.2, ⟨hk.1.1.1.2, ⟨hk.1.1.2, hk.1.2⟩⟩⟩)), (by refine ra ?_; exact Kd.R_mono q4.out (fun _ hk => ⟨hk.1.1, ⟨hk.2, ⟨hk.1.2.1, hk.1.2.2⟩⟩⟩)), (by refine ra ?_; exact Kd.R_mono q5.out (fun _ hk => ⟨hk.1.1, ⟨hk.2, ⟨hk.1.2.1, hk.1.2.2⟩⟩⟩)), (by refine ra ?_; exact Kd.R_mono q2.out (fun _ hk => ⟨hk.1.1, ⟨hk.2, ⟨hk.1.2.1, hk.1.2.2⟩⟩⟩)), (ba q1.out), (ba q6.out), (ba q8.out), (ba q9.out), (q3)⟩)
                                             · skip
                                               refine box_step ?hg (N := 16) ?hd (cs := #[.slice none 0 0, .int .i64 0]) (t := 35) ?hr ?_; (case hd => rfl); (case hg => rfl); (case hr => first | (go_simp; done) | (go_simp; rfl))
                                               intro qa hg w158 hbox hb
                                               have n0_ := q0 (Kd.R_below (ra q4.out) hb); have n1_ := q0 (Kd.R_below (ra q5.out) hb); have n2_ := q0 (Kd.R_below (ra q2.out) hb); have n3_ := q0 (Kd.R_below (ra qr.out) hb); have n4_ := q0 (bb q1.out hb); have n5_ := q0 (bb q6.out hb); have n6_ := q0 (bb q8.out hb); have n7_ := q0 (bb q9.out hb); have n8_ := q0 (below_step (q3) hb); have n9_ := q0 (hbox); have n10_ := q0 ((by rw [hg]; exact (below_size (q3)) : w.heap.size ≤ qa)); have n11_ := q0 ((by rw [hg]; exact (below_size (q3)) : w.heap.size ≤ qa)); have n12_ := q0 ((by rw [hg]; exact Nat.ne_of_lt (bl q1.out) : q7 ≠ qa)); have n13_ := q0 ((by rw [hg]; exact Nat.ne_of_gt (bl q1.out) : qa ≠ q7)); have n14_ := q0 ((by rw [hg]; exact Nat.ne_of_lt (bl q6.out) : qb ≠ qa)); have n15_ := q0 ((by rw [hg]; exact Nat.ne_of_gt (bl q6.out) : qa ≠ qb)); have n16_ := q0 ((by rw [hg]; exact Nat.ne_of_lt (bl q8.out) : ql ≠ qa)); have n17_ := q0 ((by rw [hg]; exact Nat.ne_of_gt (bl q8.out) : qa ≠ ql)); have n18_ := q0 ((by rw [hg]; exact Nat.ne_of_lt (bl q9.out) : qn ≠ qa)); have n19_ := q0 ((by rw [hg]; exact Nat.ne_of_gt (bl q9.out) : qa ≠ qn)); clear q4 q5 q2 qr q1 q6 q8 q9 HB; have q4 := n0_; have q5 := n1_; have q2 := n2_; have qr := n3_; have q1 := n4_; have q6 := n5_; have q8 := n6_; have q9 := n7_; have HB := n8_; have z00 := n9_; have GW284 := n10_; have z0n := n11_; have qt := n12_; have z03 := n13_; have qw := n14_; have z04 := n15_; have qx := n16_; have z05 := n17_; have qy := n18_; have z06 := n19_; clear n0_ n1_ n2_ n3_ n4_ n5_ n6_ n7_ n8_ n9_ n10_ n11_ n12_ n13_ n14_ n15_ n16_ n17_ n18_ n19_ hb hbox hg
                                               refine hK.out _ _ ⟨(blk_cell q1.out 0).trans rfl, (blk_cell q1.out 1).trans rfl⟩ (fun hHeld => ?_)
                                               clear hK K
                                               refine norm_ (a' := ?_) ?_ ?_
                                               rotate_left
                                               · show Act.put _ (some 16) _ = _
                                                 simp only [Act.put, List.setIfInBounds_toArray, List.set_cons_zero, List.set_cons_succ, i64_w, i32_w]
                                                 rfl
                                               exact norm_ pa (z1a (v271, qa) _ ⟨hHeld, (ra qr.out), (ra q4.out), (ra q5.out), (ra q2.out), (ba q1.out), (ba q6.out), (ba q8.out), (ba q9.out), (ba z00.out), GW284.out, z0n.out, qt.out, z03.out, qw.out, z04.out, qx.out, z05.out, qy.out, z06.out, (qc)⟩)
                                         · skip
                                           rintro ⟨v271, qa⟩ w158 ⟨hS_, h0_, h1_, h2_, h3_, h4_, h5_, h6_, h7_, h8_, h9_, h10_, h11_, h12_, h13_, h14_, h15_, h16_, h17_, h18_, h19_⟩
                                           have n0_ : Aside0 (Kd.R (Kd.int .i64) 3 w158 w.heap.size (fun k_ => some k_ ≠ (.slice qj t225.length qi : Value).ownBlock ∧ some k_ ≠ (.slice qe t263.length qf : Value).ownBlock ∧ some k_ ≠ (.slice qh t241.length qg : Value).ownBlock) v271 t270) := ⟨h0_⟩
                                           have n1_ : Aside0 (Kd.R (Kd.int .i64) 3 w158 w.heap.size (fun k_ => some k_ ≠ (v271 : Value).ownBlock ∧ some k_ ≠ (.slice qe t263.length qf : Value).ownBlock ∧ some k_ ≠ (.slice qh t241.length qg : Value).ownBlock) (.slice qj t225.length qi) t225) := ⟨h1_⟩
                                           have n2_ : Aside0 (Kd.R (Kd.int .i64) 3 w158 w.heap.size (fun k_ => some k_ ≠ (v271 : Value).ownBlock ∧ some k_ ≠ (.slice qj t225.length qi : Value).ownBlock ∧ some k_ ≠ (.slice qh t241.length qg : Value).ownBlock) (.slice qe t263.length qf) t263) := ⟨h2_⟩
                                           have n3_ : Aside0 (Kd.R (Kd.int .i64) 3 w158 w.heap.size (fun k_ => some k_ ≠ (v271 : Value).ownBlock ∧ some k_ ≠ (.slice qj t225.length qi : Value).ownBlock ∧ some k_ ≠ (.slice qe t263.length qf : Value).ownBlock) (.slice qh t241.length qg) t268) := ⟨h3_⟩
                                           have n4_ : Aside0 (w158.heap[q7]? = some (.cells #[.slice A1_0 l1_0.length c1_0, .int .i64 a1_1] 31 (0, 0))) := ⟨h4_⟩
                                           have n5_ : Aside0 (w158.heap[qb]? = some (.cells #[.slice qj t225.length qi, .int .i64 t228] 35 (0, 0))) := ⟨h5_⟩
                                           have n6_ : Aside0 (w158.heap[ql]? = some (.cells #[.slice qe t263.length qf, .int .i64 t236] 35 (0, 0))) := ⟨h6_⟩
                                           have n7_ : Aside0 (w158.heap[qn]? = some (.cells #[.slice qh t241.length qg, .int .i64 t244] 35 (0, 0))) := ⟨h7_⟩
                                           have n8_ : Aside0 (w158.heap[qa]? = some (.cells #[.slice none 0 0, .int .i64 0] 35 (0, 0))) := ⟨h8_⟩
                                           have n9_ : Aside0 (w.heap.size ≤ qa) := ⟨h9_⟩
                                           have n10_ : Aside0 (w.heap.size ≤ qa) := ⟨h10_⟩
                                           have n11_ : Aside0 (q7 ≠ qa) := ⟨h11_⟩
                                           have n12_ : Aside0 (qa ≠ q7) := ⟨h12_⟩
                                           have n13_ : Aside0 (qb ≠ qa) := ⟨h13_⟩
                                           have n14_ : Aside0 (qa ≠ qb) := ⟨h14_⟩
                                           have n15_ : Aside0 (ql ≠ qa) := ⟨h15_⟩
                                           have n16_ : Aside0 (qa ≠ ql) := ⟨h16_⟩
                                           have n17_ : Aside0 (qn ≠ qa) := ⟨h17_⟩
                                           have n18_ : Aside0 (qa ≠ qn) := ⟨h18_⟩
                                           have n19_ : Aside0 (Below w.heap.size w w158) := ⟨h19_⟩
                                           clear q4 q5 q2 q1 q6 q8 q9 HB h0_ h1_ h2_ h3_ h4_ h5_ h6_ h7_ h8_ h9_ h10_ h11_ h12_ h13_ h14_ h15_ h16_ h17_ h18_ h19_; have qr := n0_; have q4 := n1_; have q5 := n2_; have q2 := n3_; have q1 := n4_; have q6 := n5_; have q8 := n6_; have q9 := n7_; have z00 := n8_; have GW284 := n9_; have z0n := n10_; have qt := n11_; have z03 := n12_; have qw := n13_; have z04 := n14_; have qx := n15_; have z05 := n16_; have qy := n17_; have z06 := n18_; have HB := n19_; clear n0_ n1_ n2_ n3_ n4_ n5_ n6_ n7_ n8_ n9_ n10_ n11_ n12_ n13_ n14_ n15_ n16_ n17_ n18_ n19_
                                           have hHeld : w158.cell? ⟨q7, 0, none⟩ = some (.slice A1_0 l1_0.length c1_0) ∧ w158.cell? ⟨q7, 1, none⟩ = some (.int .i64 a1_1) := hS_
                                           refine norm_ (a' := ?_) ?_ ?_
                                           rotate_left
                                           · simp only [putAll, Act.put, List.setIfInBounds_toArray, List.set_cons_zero, List.set_cons_succ]
                                             rfl
                                           refine one_ (i := 3) (N := some 95) #[true, true, true, true, true, false, false, true, false] rfl rfl (one_of HT_.out (by kernel_rfl)) (by decide) (fun K hK => ?_)
                                           refine goes_ Try.func23 (by kernel_rfl) rfl #[.agg #[.slice A1_0 l1_0.length c1_0, .int .i64 a1_1]] (by rfl) rfl rfl ma ?_
                                           with_reducible refine (laws_toFollower.calls kj34 _ _ l1_0 a1_1 t273 t276 _ ?side1 ?side2 A109.out).mono ?_
                                           (case side1 => exact ca (Kd.C_below HR1_0.out HB.out))
                                           (case side2 => exact HC1_0.out)
                                           rintro e w159 ⟨v274, rfl, ho0, hb⟩
                                           refine ⟨_, rfl, ?_⟩
                                           have n0_ := q0 (Kd.R_elder' (ra q4.out) (Kd.R_base ho0) hb); have n1_ := q0 (Kd.R_elder' (ra q5.out) (Kd.R_base ho0) hb); have n2_ := q0 (Kd.R_elder' (ra q2.out) (Kd.R_base ho0) hb); have n3_ := q0 (Kd.R_elder' (ra qr.out) (Kd.R_base ho0) hb); have n4_ := q0 (Kd.R_lower (Kd.R_new' (Kd.R_new' (Kd.R_new' (Kd.R_new' ho0 (Kd.R_lt (ra q4.out))) (Kd.R_lt (ra q5.out))) (Kd.R_lt (ra q2.out))) (Kd.R_lt (ra qr.out))) (below_size (qc))); have n5_ := q0 (bb q1.out hb); have n6_ := q0 (bb q6.out hb); have n7_ := q0 (bb q8.out hb); have n8_ := q0 (bb q9.out hb); have n9_ := q0 (bb z00.out hb); have n10_ := q0 (below_step (qc) hb); clear q4 q5 q2 qr q1 q6 q8 q9 z00 HB; have q4 := n0_; have q5 := n1_; have q2 := n2_; have qr := n3_; have z01 := n4_; have q1 := n5_; have q6 := n6_; have q8 := n7_; have q9 := n8_; have z00 := n9_; have HB := n10_; clear n0_ n1_ n2_ n3_ n4_ n5_ n6_ n7_ n8_ n9_ n10_; (try clear hb); (try clear hb2); (try clear hk); (try clear hi); (try clear ho0)
                                           refine hK.out _ _ ⟨(blk_cell q1.out 0).trans rfl, (blk_cell q1.out 1).trans rfl⟩ (fun hHeld => ?_)
                                           clear hK K
                                           refine norm_ (a' := ?_) ?_ ?_
                                           rotate_left
                                           · show Act.put _ (some 95) _ = _
                                             simp only [Act.put, List.setIfInBounds_toArray, List.set_cons_zero, List.set_cons_succ, i64_w, i32_w]
                                             rfl
                                           exact norm_ pa (z0y (v271, v274, qa) _ ⟨hHeld, (by refine ra ?_; exact Kd.R_mono qr.out (fun _ hk => ⟨hk.2, ⟨hk.1.1, ⟨hk.1.2.1, hk.1.2.2⟩⟩⟩)), (by refine ra ?_; exact Kd.R_mono z01.out (fun _ hk => ⟨hk.2, ⟨hk.1.1.1.2, ⟨hk.1.1.2, hk.1.2⟩⟩⟩)), (by refine ra ?_; exact Kd.R_mono q4.out (fun _ hk => ⟨hk.1.1, ⟨hk.2, ⟨hk.1.2.1, hk.1.2.2⟩⟩⟩)), (by refine ra ?_; exact Kd.R_mono q5.out (fun _ hk => ⟨hk.1.1, ⟨hk.2, ⟨hk.1.2.1, hk.1.2.2⟩⟩⟩)), (by refine ra ?_; exact Kd.R_mono q2.out (fun _ hk => ⟨hk.1.1, ⟨hk.2, ⟨hk.1.2.1, hk.1.2.2⟩⟩⟩)), (ba q1.out), (ba q6.out), (ba q8.out), (ba q9.out), (ba z00.out), GW284.out, z0n.out, qt.out, z03.out, qw.out, z04.out, qx.out, z05.out, qy.out, z06.out, (qc)⟩)
                                       · skip
                                         rintro ⟨v271, v274⟩ w158 ⟨hS_, h0_, h1_, h2_, h3_, h4_, h5_, h6_, h7_, h8_, h9_⟩
                                         have n0_ : Aside0 (Kd.R (Kd.int .i64) 3 w158 w.heap.size (fun k_ => some k_ ≠ (v274 : Value).ownBlock ∧ some k_ ≠ (.slice qj t225.length qi : Value).ownBlock ∧ some k_ ≠ (.slice qe t263.length qf : Value).ownBlock ∧ some k_ ≠ (.slice qh t241.length qg : Value).ownBlock) v271 t270) := ⟨h0_⟩
                                         have n1_ : Aside0 (Kd.R (Kd.int .i64) 3 w158 w.heap.size (fun k_ => some k_ ≠ (v271 : Value).ownBlock ∧ some k_ ≠ (.slice qj t225.length qi : Value).ownBlock ∧ some k_ ≠ (.slice qe t263.length qf : Value).ownBlock ∧ some k_ ≠ (.slice qh t241.length qg : Value).ownBlock) v274 t273) := ⟨h1_⟩
                                         have n2_ : Aside0 (Kd.R (Kd.int .i64) 3 w158 w.heap.size (fun k_ => some k_ ≠ (v271 : Value).ownBlock ∧ some k_ ≠ (v274 : Value).ownBlock ∧ some k_ ≠ (.slice qe t263.length qf : Value).ownBlock ∧ some k_ ≠ (.slice qh t241.length qg : Value).ownBlock) (.slice qj t225.length qi) t225) := ⟨h2_⟩
                                         have n3_ : Aside0 (Kd.R (Kd.int .i64) 3 w158 w.heap.size (fun k_ => some k_ ≠ (v271 : Value).ownBlock ∧ some k_ ≠ (v274 : Value).ownBlock ∧ some k_ ≠ (.slice qj t225.length qi : Value).ownBlock ∧ some k_ ≠ (.slice qh t241.length qg : Value).ownBlock) (.slice qe t263.length qf) t263) := ⟨h3_⟩
                                         have n4_ : Aside0 (Kd.R (Kd.int .i64) 3 w158 w.heap.size (fun k_ => some k_ ≠ (v271 : Value).ownBlock ∧ some k_ ≠ (v274 : Value).ownBlock ∧ some k_ ≠ (.slice qj t225.length qi : Value).ownBlock ∧ some k_ ≠ (.slice qe t263.length qf : Value).ownBlock) (.slice qh t241.length qg) t268) := ⟨h4_⟩
                                         have n5_ : Aside0 (w158.heap[q7]? = some (.cells #[.slice A1_0 l1_0.length c1_0, .int .i64 a1_1] 31 (0, 0))) := ⟨h5_⟩
                                         have n6_ : Aside0 (w158.heap[qb]? = some (.cells #[.slice qj t225.length qi, .int .i64 t228] 35 (0, 0))) := ⟨h6_⟩
                                         have n7_ : Aside0 (w158.heap[ql]? = some (.cells #[.slice qe t263.length qf, .int .i64 t236] 35 (0, 0))) := ⟨h7_⟩
                                         have n8_ : Aside0 (w158.heap[qn]? = some (.cells #[.slice qh t241.length qg, .int .i64 t244] 35 (0, 0))) := ⟨h8_⟩
                                         have n9_ : Aside0 (Below w.heap.size w w158) := ⟨h9_⟩
                                         clear q4 q5 q2 q1 q6 q8 q9 HB h0_ h1_ h2_ h3_ h4_ h5_ h6_ h7_ h8_ h9_; have qr := n0_; have z01 := n1_; have q4 := n2_; have q5 := n3_; have q2 := n4_; have q1 := n5_; have q6 := n6_; have q8 := n7_; have q9 := n8_; have HB := n9_; clear n0_ n1_ n2_ n3_ n4_ n5_ n6_ n7_ n8_ n9_
                                         have hHeld : w158.cell? ⟨q7, 0, none⟩ = some (.slice A1_0 l1_0.length c1_0) ∧ w158.cell? ⟨q7, 1, none⟩ = some (.int .i64 a1_1) := hS_
                                         refine norm_ (a' := ?_) ?_ ?_
                                         rotate_left
                                         · simp only [putAll, Act.put, List.setIfInBounds_toArray, List.set_cons_zero, List.set_cons_succ]
                                           rfl
                                         refine two_ (i := 5) (j := 7) (Ni := some 97) (Nj := some 16) #[true, true, true, true, true, true, false, false, false] #[true, true, true, true, true, false, false, true, false] rfl rfl rfl rfl (two_of HT_.out (by kernel_rfl)) (by decide) (by decide) (fun K hK => ?_) (fun K hK => ?_)
                                         · skip
                                           refine goes_ Try.func22 (by kernel_rfl) rfl #[.slice A2 l2.length c2] (by rfl) rfl rfl ma ?_
                                           with_reducible refine (laws_toIntS.calls kj34 _ _ l2 t277 _ ?side1 ?side2 A110.out).mono ?_
                                           (case side1 => exact ca (Kd.C_below HR2.out HB.out))
                                           (case side2 => exact HC2.out)
                                           rintro e w159 ⟨v278, rfl, ho0, hb⟩
                                           refine ⟨_, rfl, ?_⟩
                                           have n0_ := q0 (Kd.R_elder' (ra q4.out) (Kd.R_base ho0) hb); have n1_ := q0 (Kd.R_elder' (ra q5.out) (Kd.R_base ho0) hb); have n2_ := q0 (Kd.R_elder' (ra q2.out) (Kd.R_base ho0) hb); have n3_ := q0 (Kd.R_elder' (ra qr.out) (Kd.R_base ho0) hb); have n4_ := q0 (Kd.R_elder' (ra z01.out) (Kd.R_base ho0) hb); have n5_ := q0 (Kd.R_lower (Kd.R_new' (Kd.R_new' (Kd.R_new' (Kd.R_new' (Kd.R_new' ho0 (Kd.R_lt (ra q4.out))) (Kd.R_lt (ra q5.out))) (Kd.R_lt (ra q2.out))) (Kd.R_lt (ra qr.out))) (Kd.R_lt (ra z01.out))) (below_size (q3))); have n6_ := q0 (bb q1.out hb); have n7_ := q0 (bb q6.out hb); have n8_ := q0 (bb q8.out hb); have n9_ := q0 (bb q9.out hb); have n10_ := q0 (below_step (q3) hb); clear q4 q5 q2 qr z01 q1 q6 q8 q9 HB; have q4 := n0_; have q5 := n1_; have q2 := n2_; have qr := n3_; have z01 := n4_; have z08 := n5_; have q1 := n6_; have q6 := n7_; have q8 := n8_; have q9 := n9_; have HB := n10_; clear n0_ n1_ n2_ n3_ n4_ n5_ n6_ n7_ n8_ n9_ n10_; (try clear hb); (try clear hb2); (try clear hk); (try clear hi); (try clear ho0)
                                           refine hK.out _ _ ⟨(blk_cell q1.out 0).trans rfl, (blk_cell q1.out 1).trans rfl⟩ (fun hHeld => ?_)
                                           clear hK K
                                           refine norm_ (a' := ?_) ?_ ?_
                                           rotate_left
                                           · show Act.put _ (some 97) _ = _
                                             simp only [Act.put, List.setIfInBounds_toArray, List.set_cons_zero, List.set_cons_succ, i64_w, i32_w]
                                             rfl
                                           exact norm_ pa (z19 (v271, v274, v278) _ ⟨hHeld, (by refine ra ?_; exact Kd.R_mono qr.out (fun _ hk => ⟨hk.1.1, ⟨hk.2, ⟨hk.1.2.1, ⟨hk.1.2.2.1, hk.1.2.2.2⟩⟩⟩⟩)), (by refine ra ?_; exact Kd.R_mono z01.out (fun _ hk => ⟨hk.1.1, ⟨hk.2, ⟨hk.1.2.1, ⟨hk.1.2.2.1, hk.1.2.2.2⟩⟩⟩⟩)), (by refine ra ?_; exact Kd.R_mono z08.out (fun _ hk => ⟨hk.1.2, ⟨hk.2, ⟨hk.1.1.1.1.2, ⟨hk.1.1.1.2, hk.1.1.2⟩⟩⟩⟩)), (by refine ra ?_; exact Kd.R_mono q4.out (fun _ hk => ⟨hk.1.1, ⟨hk.1.2.1, ⟨hk.2, ⟨hk.1.2.2.1, hk.1.2.2.2⟩⟩⟩⟩)), (by refine ra ?_; exact Kd.R_mono q5.out (fun _ hk => ⟨hk.1.1, ⟨hk.1.2.1, ⟨hk.2, ⟨hk.1.2.2.1, hk.1.2.2.2⟩⟩⟩⟩)), (by refine ra ?_; exact Kd.R_mono q2.out (fun _ hk => ⟨hk.1.1, ⟨hk.1.2.1, ⟨hk.2, ⟨hk.1.2.2.1, hk.1.2.2.2⟩⟩⟩⟩)), (ba q1.out), (ba q6.out), (ba q8.out), (ba q9.out), (q3)⟩)
                                         · skip
                                           refine box_step ?hg (N := 16) ?hd (cs := #[.slice none 0 0, .int .i64 0]) (t := 35) ?hr ?_; (case hd => rfl); (case hg => rfl); (case hr => first | (go_simp; done) | (go_simp; rfl))
                                           intro qa hg w159 hbox hb
                                           have n0_ := q0 (Kd.R_below (ra q4.out) hb); have n1_ := q0 (Kd.R_below (ra q5.out) hb); have n2_ := q0 (Kd.R_below (ra q2.out) hb); have n3_ := q0 (Kd.R_below (ra qr.out) hb); have n4_ := q0 (Kd.R_below (ra z01.out) hb); have n5_ := q0 (bb q1.out hb); have n6_ := q0 (bb q6.out hb); have n7_ := q0 (bb q8.out hb); have n8_ := q0 (bb q9.out hb); have n9_ := q0 (below_step (q3) hb); have n10_ := q0 (hbox); have n11_ := q0 ((by rw [hg]; exact (below_size (q3)) : w.heap.size ≤ qa)); have n12_ := q0 ((by rw [hg]; exact (below_size (q3)) : w.heap.size ≤ qa)); have n13_ := q0 ((by rw [hg]; exact Nat.ne_of_lt (bl q1.out) : q7 ≠ qa)); have n14_ := q0 ((by rw [hg]; exact Nat.ne_of_gt (bl q1.out) : qa ≠ q7)); have n15_ := q0 ((by rw [hg]; exact Nat.ne_of_lt (bl q6.out) : qb ≠ qa)); have n16_ := q0 ((by rw [hg]; exact Nat.ne_of_gt (bl q6.out) : qa ≠ qb)); have n17_ := q0 ((by rw [hg]; exact Nat.ne_of_lt (bl q8.out) : ql ≠ qa)); have n18_ := q0 ((by rw [hg]; exact Nat.ne_of_gt (bl q8.out) : qa ≠ ql)); have n19_ := q0 ((by rw [hg]; exact Nat.ne_of_lt (bl q9.out) : qn ≠ qa)); have n20_ := q0 ((by rw [hg]; exact Nat.ne_of_gt (bl q9.out) : qa ≠ qn)); clear q4 q5 q2 qr z01 q1 q6 q8 q9 HB; have q4 := n0_; have q5 := n1_; have q2 := n2_; have qr := n3_; have z01 := n4_; have q1 := n5_; have q6 := n6_; have q8 := n7_; have q9 := n8_; have HB := n9_; have z00 := n10_; have GW284 := n11_; have z0n := n12_; have qt := n13_; have z03 := n14_; have qw := n15_; have z04 := n16_; have qx := n17_; have z05 := n18_; have qy := n19_; have z06 := n20_; clear n0_ n1_ n2_ n3_ n4_ n5_ n6_ n7_ n8_ n9_ n10_ n11_ n12_ n13_ n14_ n15_ n16_ n17_ n18_ n19_ n20_ hb hbox hg
                                           refine hK.out _ _ ⟨(blk_cell q1.out 0).trans rfl, (blk_cell q1.out 1).trans rfl⟩ (fun hHeld => ?_)
                                           clear hK K
                                           refine norm_ (a' := ?_) ?_ ?_
                                           rotate_left
                                           · show Act.put _ (some 16) _ = _
                                             simp only [Act.put, List.setIfInBounds_toArray, List.set_cons_zero, List.set_cons_succ, i64_w, i32_w]
                                             rfl
                                           exact norm_ pa (z0y (v271, v274, qa) _ ⟨hHeld, (ra qr.out), (ra z01.out), (ra q4.out), (ra q5.out), (ra q2.out), (ba q1.out), (ba q6.out), (ba q8.out), (ba q9.out), (ba z00.out), GW284.out, z0n.out, qt.out, z03.out, qw.out, z04.out, qx.out, z05.out, qy.out, z06.out, (qc)⟩)
                                     · skip
                                       rintro ⟨v271, v274, qa⟩ w159 ⟨hS_, h0_, h1_, h2_, h3_, h4_, h5_, h6_, h7_, h8_, h9_, h10_, h11_, h12_, h13_, h14_, h15_, h16_, h17_, h18_, h19_, h20_⟩
                                       have n0_ : Aside0 (Kd.R (Kd.int .i64) 3 w159 w.heap.size (fun k_ => some k_ ≠ (v274 : Value).ownBlock ∧ some k_ ≠ (.slice qj t225.length qi : Value).ownBlock ∧ some k_ ≠ (.slice qe t263.length qf : Value).ownBlock ∧ some k_ ≠ (.slice qh t241.length qg : Value).ownBlock) v271 t270) := ⟨h0_⟩
                                       have n1_ : Aside0 (Kd.R (Kd.int .i64) 3 w159 w.heap.size (fun k_ => some k_ ≠ (v271 : Value).ownBlock ∧ some k_ ≠ (.slice qj t225.length qi : Value).ownBlock ∧ some k_ ≠ (.slice qe t263.length qf : Value).ownBlock ∧ some k_ ≠ (.slice qh t241.length qg : Value).ownBlock) v274 t273) := ⟨h1_⟩
                                       have n2_ : Aside0 (Kd.R (Kd.int .i64) 3 w159 w.heap.size (fun k_ => some k_ ≠ (v271 : Value).ownBlock ∧ some k_ ≠ (v274 : Value).ownBlock ∧ some k_ ≠ (.slice qe t263.length qf : Value).ownBlock ∧ some k_ ≠ (.slice qh t241.length qg : Value).ownBlock) (.slice qj t225.length qi) t225) := ⟨h2_⟩
                                       have n3_ : Aside0 (Kd.R (Kd.int .i64) 3 w159 w.heap.size (fun k_ => some k_ ≠ (v271 : Value).ownBlock ∧ some k_ ≠ (v274 : Value).ownBlock ∧ some k_ ≠ (.slice qj t225.length qi : Value).ownBlock ∧ some k_ ≠ (.slice qh t241.length qg : Value).ownBlock) (.slice qe t263.length qf) t263) := ⟨h3_⟩
                                       have n4_ : Aside0 (Kd.R (Kd.int .i64) 3 w159 w.heap.size (fun k_ => some k_ ≠ (v271 : Value).ownBlock ∧ some k_ ≠ (v274 : Value).ownBlock ∧ some k_ ≠ (.slice qj t225.length qi : Value).ownBlock ∧ some k_ ≠ (.slice qe t263.length qf : Value).ownBlock) (.slice qh t241.length qg) t268) := ⟨h4_⟩
                                       have n5_ : Aside0 (w159.heap[q7]? = some (.cells #[.slice A1_0 l1_0.length c1_0, .int .i64 a1_1] 31 (0, 0))) := ⟨h5_⟩
                                       have n6_ : Aside0 (w159.heap[qb]? = some (.cells #[.slice qj t225.length qi, .int .i64 t228] 35 (0, 0))) := ⟨h6_⟩
                                       have n7_ : Aside0 (w159.heap[ql]? = some (.cells #[.slice qe t263.length qf, .int .i64 t236] 35 (0, 0))) := ⟨h7_⟩
                                       have n8_ : Aside0 (w159.heap[qn]? = some (.cells #[.slice qh t241.length qg, .int .i64 t244] 35 (0, 0))) := ⟨h8_⟩
                                       have n9_ : Aside0 (w159.heap[qa]? = some (.cells #[.slice none 0 0, .int .i64 0] 35 (0, 0))) := ⟨h9_⟩
                                       have n10_ : Aside0 (w.heap.size ≤ qa) := ⟨h10_⟩
                                       have n11_ : Aside0 (w.heap.size ≤ qa) := ⟨h11_⟩
                                       have n12_ : Aside0 (q7 ≠ qa) := ⟨h12_⟩
                                       have n13_ : Aside0 (qa ≠ q7) := ⟨h13_⟩
                                       have n14_ : Aside0 (qb ≠ qa) := ⟨h14_⟩
                                       have n15_ : Aside0 (qa ≠ qb) := ⟨h15_⟩
                                       have n16_ : Aside0 (ql ≠ qa) := ⟨h16_⟩
                                       have n17_ : Aside0 (qa ≠ ql) := ⟨h17_⟩
                                       have n18_ : Aside0 (qn ≠ qa) := ⟨h18_⟩
                                       have n19_ : Aside0 (qa ≠ qn) := ⟨h19_⟩
                                       have n20_ : Aside0 (Below w.heap.size w w159) := ⟨h20_⟩
                                       clear q4 q5 q2 q1 q6 q8 q9 HB h0_ h1_ h2_ h3_ h4_ h5_ h6_ h7_ h8_ h9_ h10_ h11_ h12_ h13_ h14_ h15_ h16_ h17_ h18_ h19_ h20_; have qr := n0_; have z01 := n1_; have q4 := n2_; have q5 := n3_; have q2 := n4_; have q1 := n5_; have q6 := n6_; have q8 := n7_; have q9 := n8_; have z00 := n9_; have GW284 := n10_; have z0n := n11_; have qt := n12_; have z03 := n13_; have qw := n14_; have z04 := n15_; have qx := n16_; have z05 := n17_; have qy := n18_; have z06 := n19_; have HB := n20_; clear n0_ n1_ n2_ n3_ n4_ n5_ n6_ n7_ n8_ n9_ n10_ n11_ n12_ n13_ n14_ n15_ n16_ n17_ n18_ n19_ n20_
                                       have hHeld : w159.cell? ⟨q7, 0, none⟩ = some (.slice A1_0 l1_0.length c1_0) ∧ w159.cell? ⟨q7, 1, none⟩ = some (.int .i64 a1_1) := hS_
                                       refine norm_ (a' := ?_) ?_ ?_
                                       rotate_left
                                       · simp only [putAll, Act.put, List.setIfInBounds_toArray, List.set_cons_zero, List.set_cons_succ]
                                         rfl
                                       refine one_ (i := 5) (N := some 97) #[true, true, true, true, true, true, false, true, false] rfl rfl (one_of HT_.out (by kernel_rfl)) (by decide) (fun K hK => ?_)
                                       refine goes_ Try.func22 (by kernel_rfl) rfl #[.slice A2 l2.length c2] (by rfl) rfl rfl ma ?_
                                       with_reducible refine (laws_toIntS.calls kj34 _ _ l2 t277 _ ?side1 ?side2 A110.out).mono ?_
                                       (case side1 => exact ca (Kd.C_below HR2.out HB.out))
                                       (case side2 => exact HC2.out)
                                       rintro e w160 ⟨v278, rfl, ho0, hb⟩
                                       refine ⟨_, rfl, ?_⟩
                                       have n0_ := q0 (Kd.R_elder' (ra q4.out) (Kd.R_base ho0) hb); have n1_ := q0 (Kd.R_elder' (ra q5.out) (Kd.R_base ho0) hb); have n2_ := q0 (Kd.R_elder' (ra q2.out) (Kd.R_base ho0) hb); have n3_ := q0 (Kd.R_elder' (ra qr.out) (Kd.R_base ho0) hb); have n4_ := q0 (Kd.R_elder' (ra z01.out) (Kd.R_base ho0) hb); have n5_ := q0 (Kd.R_lower (Kd.R_new' (Kd.R_new' (Kd.R_new' (Kd.R_new' (Kd.R_new' ho0 (Kd.R_lt (ra q4.out))) (Kd.R_lt (ra q5.out))) (Kd.R_lt (ra q2.out))) (Kd.R_lt (ra qr.out))) (Kd.R_lt (ra z01.out))) (below_size (qc))); have n6_ := q0 (bb q1.out hb); have n7_ := q0 (bb q6.out hb); have n8_ := q0 (bb q8.out hb); have n9_ := q0 (bb q9.out hb); have n10_ := q0 (bb z00.out hb); have n11_ := q0 (below_step (qc) hb); clear q4 q5 q2 qr z01 q1 q6 q8 q9 z00 HB; have q4 := n0_; have q5 := n1_; have q2 := n2_; have qr := n3_; have z01 := n4_; have z08 := n5_; have q1 := n6_; have q6 := n7_; have q8 := n8_; have q9 := n9_; have z00 := n10_; have HB := n11_; clear n0_ n1_ n2_ n3_ n4_ n5_ n6_ n7_ n8_ n9_ n10_ n11_; (try clear hb); (try clear hb2); (try clear hk); (try clear hi); (try clear ho0)
                                       refine hK.out _ _ ⟨(blk_cell q1.out 0).trans rfl, (blk_cell q1.out 1).trans rfl⟩ (fun hHeld => ?_)
                                       clear hK K
                                       refine norm_ (a' := ?_) ?_ ?_
                                       rotate_left
                                       · show Act.put _ (some 97) _ = _
                                         simp only [Act.put, List.setIfInBounds_toArray, List.set_cons_zero, List.set_cons_succ, i64_w, i32_w]
                                         rfl
                                       exact norm_ pa (z0s (v271, v274, v278, qa) _ ⟨hHeld, (by refine ra ?_; exact Kd.R_mono qr.out (fun _ hk => ⟨hk.1.1, ⟨hk.2, ⟨hk.1.2.1, ⟨hk.1.2.2.1, hk.1.2.2.2⟩⟩⟩⟩)), (by refine ra ?_; exact Kd.R_mono z01.out (fun _ hk => ⟨hk.1.1, ⟨hk.2, ⟨hk.1.2.1, ⟨hk.1.2.2.1, hk.1.2.2.2⟩⟩⟩⟩)), (by refine ra ?_; exact Kd.R_mono z08.out (fun _ hk => ⟨hk.1.2, ⟨hk.2, ⟨hk.1.1.1.1.2, ⟨hk.1.1.1.2, hk.1.1.2⟩⟩⟩⟩)), (by refine ra ?_; exact Kd.R_mono q4.out (fun _ hk => ⟨hk.1.1, ⟨hk.1.2.1, ⟨hk.2, ⟨hk.1.2.2.1, hk.1.2.2.2⟩⟩⟩⟩)), (by refine ra ?_; exact Kd.R_mono q5.out (fun _ hk => ⟨hk.1.1, ⟨hk.1.2.1, ⟨hk.2, ⟨hk.1.2.2.1, hk.1.2.2.2⟩⟩⟩⟩)), (by refine ra ?_; exact Kd.R_mono q2.out (fun _ hk => ⟨hk.1.1, ⟨hk.1.2.1, ⟨hk.2, ⟨hk.1.2.2.1, hk.1.2.2.2⟩⟩⟩⟩)), (ba q1.out), (ba q6.out), (ba q8.out), (ba q9.out), (ba z00.out), GW284.out, z0n.out, qt.out, z03.out, qw.out, z04.out, qx.out, z05.out, qy.out, z06.out, (qc)⟩)
                                   · skip
                                     rintro ⟨v271, v274, v278⟩ w159 ⟨hS_, h0_, h1_, h2_, h3_, h4_, h5_, h6_, h7_, h8_, h9_, h10_⟩
                                     have n0_ : Aside0 (Kd.R (Kd.int .i64) 3 w159 w.heap.size (fun k_ => some k_ ≠ (v274 : Value).ownBlock ∧ some k_ ≠ (v278 : Value).ownBlock ∧ some k_ ≠ (.slice qj t225.length qi : Value).ownBlock ∧ some k_ ≠ (.slice qe t263.length qf : Value).ownBlock ∧ some k_ ≠ (.slice qh t241.length qg : Value).ownBlock) v271 t270) := ⟨h0_⟩
                                     have n1_ : Aside0 (Kd.R (Kd.int .i64) 3 w159 w.heap.size (fun k_ => some k_ ≠ (v271 : Value).ownBlock ∧ some k_ ≠ (v278 : Value).ownBlock ∧ some k_ ≠ (.slice qj t225.length qi : Value).ownBlock ∧ some k_ ≠ (.slice qe t263.length qf : Value).ownBlock ∧ some k_ ≠ (.slice qh t241.length qg : Value).ownBlock) v274 t273) := ⟨h1_⟩
                                     have n2_ : Aside0 (Kd.R (Kd.int .i64) 3 w159 w.heap.size (fun k_ => some k_ ≠ (v271 : Value).ownBlock ∧ some k_ ≠ (v274 : Value).ownBlock ∧ some k_ ≠ (.slice qj t225.length qi : Value).ownBlock ∧ some k_ ≠ (.slice qe t263.length qf : Value).ownBlock ∧ some k_ ≠ (.slice qh t241.length qg : Value).ownBlock) v278 t277) := ⟨h2_⟩
                                     have n3_ : Aside0 (Kd.R (Kd.int .i64) 3 w159 w.heap.size (fun k_ => some k_ ≠ (v271 : Value).ownBlock ∧ some k_ ≠ (v274 : Value).ownBlock ∧ some k_ ≠ (v278 : Value).ownBlock ∧ some k_ ≠ (.slice qe t263.length qf : Value).ownBlock ∧ some k_ ≠ (.slice qh t241.length qg : Value).ownBlock) (.slice qj t225.length qi) t225) := ⟨h3_⟩
                                     have n4_ : Aside0 (Kd.R (Kd.int .i64) 3 w159 w.heap.size (fun k_ => some k_ ≠ (v271 : Value).ownBlock ∧ some k_ ≠ (v274 : Value).ownBlock ∧ some k_ ≠ (v278 : Value).ownBlock ∧ some k_ ≠ (.slice qj t225.length qi : Value).ownBlock ∧ some k_ ≠ (.slice qh t241.length qg : Value).ownBlock) (.slice qe t263.length qf) t263) := ⟨h4_⟩
                                     have n5_ : Aside0 (Kd.R (Kd.int .i64) 3 w159 w.heap.size (fun k_ => some k_ ≠ (v271 : Value).ownBlock ∧ some k_ ≠ (v274 : Value).ownBlock ∧ some k_ ≠ (v278 : Value).ownBlock ∧ some k_ ≠ (.slice qj t225.length qi : Value).ownBlock ∧ some k_ ≠ (.slice qe t263.length qf : Value).ownBlock) (.slice qh t241.length qg) t268) := ⟨h5_⟩
                                     have n6_ : Aside0 (w159.heap[q7]? = some (.cells #[.slice A1_0 l1_0.length c1_0, .int .i64 a1_1] 31 (0, 0))) := ⟨h6_⟩
                                     have n7_ : Aside0 (w159.heap[qb]? = some (.cells #[.slice qj t225.length qi, .int .i64 t228] 35 (0, 0))) := ⟨h7_⟩
                                     have n8_ : Aside0 (w159.heap[ql]? = some (.cells #[.slice qe t263.length qf, .int .i64 t236] 35 (0, 0))) := ⟨h8_⟩
                                     have n9_ : Aside0 (w159.heap[qn]? = some (.cells #[.slice qh t241.length qg, .int .i64 t244] 35 (0, 0))) := ⟨h9_⟩
                                     have n10_ : Aside0 (Below w.heap.size w w159) := ⟨h10_⟩
                                     clear q4 q5 q2 q1 q6 q8 q9 HB h0_ h1_ h2_ h3_ h4_ h5_ h6_ h7_ h8_ h9_ h10_; have qr := n0_; have z01 := n1_; have z08 := n2_; have q4 := n3_; have q5 := n4_; have q2 := n5_; have q1 := n6_; have q6 := n7_; have q8 := n8_; have q9 := n9_; have HB := n10_; clear n0_ n1_ n2_ n3_ n4_ n5_ n6_ n7_ n8_ n9_ n10_
                                     have hHeld : w159.cell? ⟨q7, 0, none⟩ = some (.slice A1_0 l1_0.length c1_0) ∧ w159.cell? ⟨q7, 1, none⟩ = some (.int .i64 a1_1) := hS_
                                     obtain ⟨z1j, z1k, eo160⟩ := Kd.R_slice qr.out
                                     (first | subst eo160 | (injection eo160 with f1_ f2_ f3_; have f4_ := f1_.symm; have f5_ := f3_.symm; clear f1_ f2_ f3_; subst f4_; subst f5_))
                                     obtain ⟨z15, z16, eo161⟩ := Kd.R_slice z01.out
                                     (first | subst eo161 | (injection eo161 with f1_ f2_ f3_; have f4_ := f1_.symm; have f5_ := f3_.symm; clear f1_ f2_ f3_; subst f4_; subst f5_))
                                     obtain ⟨z17, z18, eo162⟩ := Kd.R_slice z08.out
                                     (first | subst eo162 | (injection eo162 with f1_ f2_ f3_; have f4_ := f1_.symm; have f5_ := f3_.symm; clear f1_ f2_ f3_; subst f4_; subst f5_))
                                     refine norm_ (a' := ?_) ?_ ?_
                                     rotate_left
                                     · simp only [putAll, Act.put, List.setIfInBounds_toArray, List.set_cons_zero, List.set_cons_succ]
                                       rfl
                                     refine two_ (i := 6) (j := 7) (Ni := some 98) (Nj := some 16) #[true, true, true, true, true, true, true, false, false] #[true, true, true, true, true, true, false, true, false] rfl rfl rfl rfl (two_of HT_.out (by kernel_rfl)) (by decide) (by decide) (fun K hK => ?_) (fun K hK => ?_)
                                     · skip
                                       refine goes_ Try.func44 (by kernel_rfl) rfl #[.slice z1j t270.length z1k, .agg #[.slice z15 t273.length z16, .int .i64 t276], .slice z17 t277.length z18] (by rfl) rfl rfl ma ?_
                                       with_reducible refine (impl_HearAll.calls kj34 _ _ t270 _ _ t273 t276 _ _ t277 t280 t283 _ ?side1 ?side2 ?side3 ?side4 ?side5 ?side6 A111.out).mono ?_
                                       (case side1 => exact ca (Kd.R_reads' qr.out).2.2)
                                       (case side2 => exact (Kd.R_reads' qr.out).2.1)
                                       (case side3 => exact ca (Kd.R_reads' z01.out).2.2)
                                       (case side4 => exact (Kd.R_reads' z01.out).2.1)
                                       (case side5 => exact ca (Kd.R_reads' z08.out).2.2)
                                       (case side6 => exact (Kd.R_reads' z08.out).2.1)
                                       rintro e w163 ⟨v281, rfl, ho0, hb⟩
                                       refine ⟨_, rfl, ?_⟩
                                       have n0_ := q0 (Kd.R_elder' (ra q4.out) (Kd.R_base ho0) hb); have n1_ := q0 (Kd.R_elder' (ra q5.out) (Kd.R_base ho0) hb); have n2_ := q0 (Kd.R_elder' (ra q2.out) (Kd.R_base ho0) hb); have n3_ := q0 (Kd.R_elder' (ra qr.out) (Kd.R_base ho0) hb); have n4_ := q0 (Kd.R_elder' (ra z01.out) (Kd.R_base ho0) hb); have n5_ := q0 (Kd.R_elder' (ra z08.out) (Kd.R_base ho0) hb); have n6_ := q0 (Kd.R_lower (Kd.R_new' (Kd.R_new' (Kd.R_new' (Kd.R_new' (Kd.R_new' (Kd.R_new' ho0 (Kd.R_lt (ra q4.out))) (Kd.R_lt (ra q5.out))) (Kd.R_lt (ra q2.out))) (Kd.R_lt (ra qr.out))) (Kd.R_lt (ra z01.out))) (Kd.R_lt (ra z08.out))) (below_size (q3))); have n7_ := q0 (bb q1.out hb); have n8_ := q0 (bb q6.out hb); have n9_ := q0 (bb q8.out hb); have n10_ := q0 (bb q9.out hb); have n11_ := q0 (below_step (q3) hb); clear q4 q5 q2 qr z01 z08 q1 q6 q8 q9 HB; have q4 := n0_; have q5 := n1_; have q2 := n2_; have qr := n3_; have z01 := n4_; have z08 := n5_; have z0o := n6_; have q1 := n7_; have q6 := n8_; have q8 := n9_; have q9 := n10_; have HB := n11_; clear n0_ n1_ n2_ n3_ n4_ n5_ n6_ n7_ n8_ n9_ n10_ n11_; (try clear hb); (try clear hb2); (try clear hk); (try clear hi); (try clear ho0)
                                       refine hK.out _ _ ⟨(blk_cell q1.out 0).trans rfl, (blk_cell q1.out 1).trans rfl⟩ (fun hHeld => ?_)
                                       clear hK K
                                       refine norm_ (a' := ?_) ?_ ?_
                                       rotate_left
                                       · show Act.put _ (some 98) _ = _
                                         simp only [Act.put, List.setIfInBounds_toArray, List.set_cons_zero, List.set_cons_succ, i64_w, i32_w]
                                         rfl
                                       exact norm_ pa (z0z (.slice z1j t270.length z1k, .slice z15 t273.length z16, .slice z17 t277.length z18, v281) _ ⟨hHeld, (by refine ra ?_; exact Kd.R_mono qr.out (fun _ hk => ⟨hk.1.1, ⟨hk.1.2.1, ⟨hk.2, ⟨hk.1.2.2.1, ⟨hk.1.2.2.2.1, hk.1.2.2.2.2⟩⟩⟩⟩⟩)), (by refine ra ?_; exact Kd.R_mono z01.out (fun _ hk => ⟨hk.1.1, ⟨hk.1.2.1, ⟨hk.2, ⟨hk.1.2.2.1, ⟨hk.1.2.2.2.1, hk.1.2.2.2.2⟩⟩⟩⟩⟩)), (by refine ra ?_; exact Kd.R_mono z08.out (fun _ hk => ⟨hk.1.1, ⟨hk.1.2.1, ⟨hk.2, ⟨hk.1.2.2.1, ⟨hk.1.2.2.2.1, hk.1.2.2.2.2⟩⟩⟩⟩⟩)), (by refine ra ?_; exact Kd.R_mono z0o.out (fun _ hk => ⟨hk.1.1.2, ⟨hk.1.2, ⟨hk.2, ⟨hk.1.1.1.1.1.2, ⟨hk.1.1.1.1.2, hk.1.1.1.2⟩⟩⟩⟩⟩)), (by refine ra ?_; exact Kd.R_mono q4.out (fun _ hk => ⟨hk.1.1, ⟨hk.1.2.1, ⟨hk.1.2.2.1, ⟨hk.2, ⟨hk.1.2.2.2.1, hk.1.2.2.2.2⟩⟩⟩⟩⟩)), (by refine ra ?_; exact Kd.R_mono q5.out (fun _ hk => ⟨hk.1.1, ⟨hk.1.2.1, ⟨hk.1.2.2.1, ⟨hk.2, ⟨hk.1.2.2.2.1, hk.1.2.2.2.2⟩⟩⟩⟩⟩)), (by refine ra ?_; exact Kd.R_mono q2.out (fun _ hk => ⟨hk.1.1, ⟨hk.1.2.1, ⟨hk.1.2.2.1, ⟨hk.2, ⟨hk.1.2.2.2.1, hk.1.2.2.2.2⟩⟩⟩⟩⟩)), (ba q1.out), (ba q6.out), (ba q8.out), (ba q9.out), (q3)⟩)
                                     · skip
                                       refine box_step ?hg (N := 16) ?hd (cs := #[.slice none 0 0, .int .i64 0]) (t := 35) ?hr ?_; (case hd => rfl); (case hg => rfl); (case hr => first | (go_simp; done) | (go_simp; rfl))
                                       intro qa hg w160 hbox hb
                                       have n0_ := q0 (Kd.R_below (ra q4.out) hb); have n1_ := q0 (Kd.R_below (ra q5.out) hb); have n2_ := q0 (Kd.R_below (ra q2.out) hb); have n3_ := q0 (Kd.R_below (ra qr.out) hb); have n4_ := q0 (Kd.R_below (ra z01.out) hb); have n5_ := q0 (Kd.R_below (ra z08.out) hb); have n6_ := q0 (bb q1.out hb); have n7_ := q0 (bb q6.out hb); have n8_ := q0 (bb q8.out hb); have n9_ := q0 (bb q9.out hb); have n10_ := q0 (below_step (q3) hb); have n11_ := q0 (hbox); have n12_ := q0 ((by rw [hg]; exact (below_size (q3)) : w.heap.size ≤ qa)); have n13_ := q0 ((by rw [hg]; exact (below_size (q3)) : w.heap.size ≤ qa)); have n14_ := q0 ((by rw [hg]; exact Nat.ne_of_lt (bl q1.out) : q7 ≠ qa)); have n15_ := q0 ((by rw [hg]; exact Nat.ne_of_gt (bl q1.out) : qa ≠ q7)); have n16_ := q0 ((by rw [hg]; exact Nat.ne_of_lt (bl q6.out) : qb ≠ qa)); have n17_ := q0 ((by rw [hg]; exact Nat.ne_of_gt (bl q6.out) : qa ≠ qb)); have n18_ := q0 ((by rw [hg]; exact Nat.ne_of_lt (bl q8.out) : ql ≠ qa)); have n19_ := q0 ((by rw [hg]; exact Nat.ne_of_gt (bl q8.out) : qa ≠ ql)); have n20_ := q0 ((by rw [hg]; exact Nat.ne_of_lt (bl q9.out) : qn ≠ qa)); have n21_ := q0 ((by rw [hg]; exact Nat.ne_of_gt (bl q9.out) : qa ≠ qn)); clear q4 q5 q2 qr z01 z08 q1 q6 q8 q9 HB; have q4 := n0_; have q5 := n1_; have q2 := n2_; have qr := n3_; have z01 := n4_; have z08 := n5_; have q1 := n6_; have q6 := n7_; have q8 := n8_; have q9 := n9_; have HB := n10_; have z00 := n11_; have GW284 := n12_; have z0n := n13_; have qt := n14_; have z03 := n15_; have qw := n16_; have z04 := n17_; have qx := n18_; have z05 := n19_; have qy := n20_; have z06 := n21_; clear n0_ n1_ n2_ n3_ n4_ n5_ n6_ n7_ n8_ n9_ n10_ n11_ n12_ n13_ n14_ n15_ n16_ n17_ n18_ n19_ n20_ n21_ hb hbox hg
                                       refine hK.out _ _ ⟨(blk_cell q1.out 0).trans rfl, (blk_cell q1.out 1).trans rfl⟩ (fun hHeld => ?_)
                                       clear hK K
                                       refine norm_ (a' := ?_) ?_ ?_
                                       rotate_left
                                       · show Act.put _ (some 16) _ = _
                                         simp only [Act.put, List.setIfInBounds_toArray, List.set_cons_zero, List.set_cons_succ, i64_w, i32_w]
                                         rfl
                                       exact norm_ pa (z0s (.slice z1j t270.length z1k, .slice z15 t273.length z16, .slice z17 t277.length z18, qa) _ ⟨hHeld, (ra qr.out), (ra z01.out), (ra z08.out), (ra q4.out), (ra q5.out), (ra q2.out), (ba q1.out), (ba q6.out), (ba q8.out), (ba q9.out), (ba z00.out), GW284.out, z0n.out, qt.out, z03.out, qw.out, z04.out, qx.out, z05.out, qy.out, z06.out, (qc)⟩)
                                 · skip
                                   rintro ⟨v271, v274, v278, qa⟩ w160 ⟨hS_, h0_, h1_, h2_, h3_, h4_, h5_, h6_, h7_, h8_, h9_, h10_, h11_, h12_, h13_, h14_, h15_, h16_, h17_, h18_, h19_, h20_, h21_⟩
                                   have n0_ : Aside0 (Kd.R (Kd.int .i64) 3 w160 w.heap.size (fun k_ => some k_ ≠ (v274 : Value).ownBlock ∧ some k_ ≠ (v278 : Value).ownBlock ∧ some k_ ≠ (.slice qj t225.length qi : Value).ownBlock ∧ some k_ ≠ (.slice qe t263.length qf : Value).ownBlock ∧ some k_ ≠ (.slice qh t241.length qg : Value).ownBlock) v271 t270) := ⟨h0_⟩
                                   have n1_ : Aside0 (Kd.R (Kd.int .i64) 3 w160 w.heap.size (fun k_ => some k_ ≠ (v271 : Value).ownBlock ∧ some k_ ≠ (v278 : Value).ownBlock ∧ some k_ ≠ (.slice qj t225.length qi : Value).ownBlock ∧ some k_ ≠ (.slice qe t263.length qf : Value).ownBlock ∧ some k_ ≠ (.slice qh t241.length qg : Value).ownBlock) v274 t273) := ⟨h1_⟩
                                   have n2_ : Aside0 (Kd.R (Kd.int .i64) 3 w160 w.heap.size (fun k_ => some k_ ≠ (v271 : Value).ownBlock ∧ some k_ ≠ (v274 : Value).ownBlock ∧ some k_ ≠ (.slice qj t225.length qi : Value).ownBlock ∧ some k_ ≠ (.slice qe t263.length qf : Value).ownBlock ∧ some k_ ≠ (.slice qh t241.length qg : Value).ownBlock) v278 t277) := ⟨h2_⟩
                                   have n3_ : Aside0 (Kd.R (Kd.int .i64) 3 w160 w.heap.size (fun k_ => some k_ ≠ (v271 : Value).ownBlock ∧ some k_ ≠ (v274 : Value).ownBlock ∧ some k_ ≠ (v278 : Value).ownBlock ∧ some k_ ≠ (.slice qe t263.length qf : Value).ownBlock ∧ some k_ ≠ (.slice qh t241.length qg : Value).ownBlock) (.slice qj t225.length qi) t225) := ⟨h3_⟩
                                   have n4_ : Aside0 (Kd.R (Kd.int .i64) 3 w160 w.heap.size (fun k_ => some k_ ≠ (v271 : Value).ownBlock ∧ some k_ ≠ (v274 : Value).ownBlock ∧ some k_ ≠ (v278 : Value).ownBlock ∧ some k_ ≠ (.slice qj t225.length qi : Value).ownBlock ∧ some k_ ≠ (.slice qh t241.length qg : Value).ownBlock) (.slice qe t263.length qf) t263) := ⟨h4_⟩
                                   have n5_ : Aside0 (Kd.R (Kd.int .i64) 3 w160 w.heap.size (fun k_ => some k_ ≠ (v271 : Value).ownBlock ∧ some k_ ≠ (v274 : Value).ownBlock ∧ some k_ ≠ (v278 : Value).ownBlock ∧ some k_ ≠ (.slice qj t225.length qi : Value).ownBlock ∧ some k_ ≠ (.slice qe t263.length qf : Value).ownBlock) (.slice qh t241.length qg) t268) := ⟨h5_⟩
                                   have n6_ : Aside0 (w160.heap[q7]? = some (.cells #[.slice A1_0 l1_0.length c1_0, .int .i64 a1_1] 31 (0, 0))) := ⟨h6_⟩
                                   have n7_ : Aside0 (w160.heap[qb]? = some (.cells #[.slice qj t225.length qi, .int .i64 t228] 35 (0, 0))) := ⟨h7_⟩
                                   have n8_ : Aside0 (w160.heap[ql]? = some (.cells #[.slice qe t263.length qf, .int .i64 t236] 35 (0, 0))) := ⟨h8_⟩
                                   have n9_ : Aside0 (w160.heap[qn]? = some (.cells #[.slice qh t241.length qg, .int .i64 t244] 35 (0, 0))) := ⟨h9_⟩
                                   have n10_ : Aside0 (w160.heap[qa]? = some (.cells #[.slice none 0 0, .int .i64 0] 35 (0, 0))) := ⟨h10_⟩
                                   have n11_ : Aside0 (w.heap.size ≤ qa) := ⟨h11_⟩
                                   have n12_ : Aside0 (w.heap.size ≤ qa) := ⟨h12_⟩
                                   have n13_ : Aside0 (q7 ≠ qa) := ⟨h13_⟩
                                   have n14_ : Aside0 (qa ≠ q7) := ⟨h14_⟩
                                   have n15_ : Aside0 (qb ≠ qa) := ⟨h15_⟩
                                   have n16_ : Aside0 (qa ≠ qb) := ⟨h16_⟩
                                   have n17_ : Aside0 (ql ≠ qa) := ⟨h17_⟩
                                   have n18_ : Aside0 (qa ≠ ql) := ⟨h18_⟩
                                   have n19_ : Aside0 (qn ≠ qa) := ⟨h19_⟩
                                   have n20_ : Aside0 (qa ≠ qn) := ⟨h20_⟩
                                   have n21_ : Aside0 (Below w.heap.size w w160) := ⟨h21_⟩
                                   clear q4 q5 q2 q1 q6 q8 q9 HB h0_ h1_ h2_ h3_ h4_ h5_ h6_ h7_ h8_ h9_ h10_ h11_ h12_ h13_ h14_ h15_ h16_ h17_ h18_ h19_ h20_ h21_; have qr := n0_; have z01 := n1_; have z08 := n2_; have q4 := n3_; have q5 := n4_; have q2 := n5_; have q1 := n6_; have q6 := n7_; have q8 := n8_; have q9 := n9_; have z00 := n10_; have GW284 := n11_; have z0n := n12_; have qt := n13_; have z03 := n14_; have qw := n15_; have z04 := n16_; have qx := n17_; have z05 := n18_; have qy := n19_; have z06 := n20_; have HB := n21_; clear n0_ n1_ n2_ n3_ n4_ n5_ n6_ n7_ n8_ n9_ n10_ n11_ n12_ n13_ n14_ n15_ n16_ n17_ n18_ n19_ n20_ n21_
                                   have hHeld : w160.cell? ⟨q7, 0, none⟩ = some (.slice A1_0 l1_0.length c1_0) ∧ w160.cell? ⟨q7, 1, none⟩ = some (.int .i64 a1_1) := hS_
                                   obtain ⟨z15, z16, eo161⟩ := Kd.R_slice qr.out
                                   (first | subst eo161 | (injection eo161 with f1_ f2_ f3_; have f4_ := f1_.symm; have f5_ := f3_.symm; clear f1_ f2_ f3_; subst f4_; subst f5_))
                                   obtain ⟨z17, z18, eo162⟩ := Kd.R_slice z01.out
                                   (first | subst eo162 | (injection eo162 with f1_ f2_ f3_; have f4_ := f1_.symm; have f5_ := f3_.symm; clear f1_ f2_ f3_; subst f4_; subst f5_))
                                   obtain ⟨z1l, z1m, eo163⟩ := Kd.R_slice z08.out
                                   (first | subst eo163 | (injection eo163 with f1_ f2_ f3_; have f4_ := f1_.symm; have f5_ := f3_.symm; clear f1_ f2_ f3_; subst f4_; subst f5_))
                                   refine norm_ (a' := ?_) ?_ ?_
                                   rotate_left
                                   · simp only [putAll, Act.put, List.setIfInBounds_toArray, List.set_cons_zero, List.set_cons_succ]
                                     rfl
                                   refine one_ (i := 6) (N := some 98) #[true, true, true, true, true, true, true, true, false] rfl rfl (one_of HT_.out (by kernel_rfl)) (by decide) (fun K hK => ?_)
                                   refine goes_ Try.func44 (by kernel_rfl) rfl #[.slice z15 t270.length z16, .agg #[.slice z17 t273.length z18, .int .i64 t276], .slice z1l t277.length z1m] (by rfl) rfl rfl ma ?_
                                   with_reducible refine (impl_HearAll.calls kj34 _ _ t270 _ _ t273 t276 _ _ t277 t280 t283 _ ?side1 ?side2 ?side3 ?side4 ?side5 ?side6 A111.out).mono ?_
                                   (case side1 => exact ca (Kd.R_reads' qr.out).2.2)
                                   (case side2 => exact (Kd.R_reads' qr.out).2.1)
                                   (case side3 => exact ca (Kd.R_reads' z01.out).2.2)
                                   (case side4 => exact (Kd.R_reads' z01.out).2.1)
                                   (case side5 => exact ca (Kd.R_reads' z08.out).2.2)
                                   (case side6 => exact (Kd.R_reads' z08.out).2.1)
                                   rintro e w164 ⟨v281, rfl, ho0, hb⟩
                                   refine ⟨_, rfl, ?_⟩
                                   have n0_ := q0 (Kd.R_elder' (ra q4.out) (Kd.R_base ho0) hb); have n1_ := q0 (Kd.R_elder' (ra q5.out) (Kd.R_base ho0) hb); have n2_ := q0 (Kd.R_elder' (ra q2.out) (Kd.R_base ho0) hb); have n3_ := q0 (Kd.R_elder' (ra qr.out) (Kd.R_base ho0) hb); have n4_ := q0 (Kd.R_elder' (ra z01.out) (Kd.R_base ho0) hb); have n5_ := q0 (Kd.R_elder' (ra z08.out) (Kd.R_base ho0) hb); have n6_ := q0 (Kd.R_lower (Kd.R_new' (Kd.R_new' (Kd.R_new' (Kd.R_new' (Kd.R_new' (Kd.R_new' ho0 (Kd.R_lt (ra q4.out))) (Kd.R_lt (ra q5.out))) (Kd.R_lt (ra q2.out))) (Kd.R_lt (ra qr.out))) (Kd.R_lt (ra z01.out))) (Kd.R_lt (ra z08.out))) (below_size (qc))); have n7_ := q0 (bb q1.out hb); have n8_ := q0 (bb q6.out hb); have n9_ := q0 (bb q8.out hb); have n10_ := q0 (bb q9.out hb); have n11_ := q0 (bb z00.out hb); have n12_ := q0 (below_step (qc) hb); clear q4 q5 q2 qr z01 z08 q1 q6 q8 q9 z00 HB; have q4 := n0_; have q5 := n1_; have q2 := n2_; have qr := n3_; have z01 := n4_; have z08 := n5_; have z0o := n6_; have q1 := n7_; have q6 := n8_; have q8 := n9_; have q9 := n10_; have z00 := n11_; have HB := n12_; clear n0_ n1_ n2_ n3_ n4_ n5_ n6_ n7_ n8_ n9_ n10_ n11_ n12_; (try clear hb); (try clear hb2); (try clear hk); (try clear hi); (try clear ho0)
                                   refine hK.out _ _ ⟨(blk_cell q1.out 0).trans rfl, (blk_cell q1.out 1).trans rfl⟩ (fun hHeld => ?_)
                                   clear hK K
                                   refine norm_ (a' := ?_) ?_ ?_
                                   rotate_left
                                   · show Act.put _ (some 98) _ = _
                                     simp only [Act.put, List.setIfInBounds_toArray, List.set_cons_zero, List.set_cons_succ, i64_w, i32_w]
                                     rfl
                                   exact norm_ pa (z0p (.slice z15 t270.length z16, .slice z17 t273.length z18, .slice z1l t277.length z1m, v281, qa) _ ⟨hHeld, (by refine ra ?_; exact Kd.R_mono qr.out (fun _ hk => ⟨hk.1.1, ⟨hk.1.2.1, ⟨hk.2, ⟨hk.1.2.2.1, ⟨hk.1.2.2.2.1, hk.1.2.2.2.2⟩⟩⟩⟩⟩)), (by refine ra ?_; exact Kd.R_mono z01.out (fun _ hk => ⟨hk.1.1, ⟨hk.1.2.1, ⟨hk.2, ⟨hk.1.2.2.1, ⟨hk.1.2.2.2.1, hk.1.2.2.2.2⟩⟩⟩⟩⟩)), (by refine ra ?_; exact Kd.R_mono z08.out (fun _ hk => ⟨hk.1.1, ⟨hk.1.2.1, ⟨hk.2, ⟨hk.1.2.2.1, ⟨hk.1.2.2.2.1, hk.1.2.2.2.2⟩⟩⟩⟩⟩)), (by refine ra ?_; exact Kd.R_mono z0o.out (fun _ hk => ⟨hk.1.1.2, ⟨hk.1.2, ⟨hk.2, ⟨hk.1.1.1.1.1.2, ⟨hk.1.1.1.1.2, hk.1.1.1.2⟩⟩⟩⟩⟩)), (by refine ra ?_; exact Kd.R_mono q4.out (fun _ hk => ⟨hk.1.1, ⟨hk.1.2.1, ⟨hk.1.2.2.1, ⟨hk.2, ⟨hk.1.2.2.2.1, hk.1.2.2.2.2⟩⟩⟩⟩⟩)), (by refine ra ?_; exact Kd.R_mono q5.out (fun _ hk => ⟨hk.1.1, ⟨hk.1.2.1, ⟨hk.1.2.2.1, ⟨hk.2, ⟨hk.1.2.2.2.1, hk.1.2.2.2.2⟩⟩⟩⟩⟩)), (by refine ra ?_; exact Kd.R_mono q2.out (fun _ hk => ⟨hk.1.1, ⟨hk.1.2.1, ⟨hk.1.2.2.1, ⟨hk.2, ⟨hk.1.2.2.2.1, hk.1.2.2.2.2⟩⟩⟩⟩⟩)), (ba q1.out), (ba q6.out), (ba q8.out), (ba q9.out), (ba z00.out), GW284.out, z0n.out, qt.out, z03.out, qw.out, z04.out, qx.out, z05.out, qy.out, z06.out, (qc)⟩)
                               · skip
                                 rintro ⟨v271, v274, v278, v281⟩ w163 ⟨hS_, h0_, h1_, h2_, h3_, h4_, h5_, h6_, h7_, h8_, h9_, h10_, h11_⟩
                                 have n0_ : Aside0 (Kd.R (Kd.int .i64) 3 w163 w.heap.size (fun k_ => some k_ ≠ (v274 : Value).ownBlock ∧ some k_ ≠ (v278 : Value).ownBlock ∧ some k_ ≠ (v281 : Value).ownBlock ∧ some k_ ≠ (.slice qj t225.length qi : Value).ownBlock ∧ some k_ ≠ (.slice qe t263.length qf : Value).ownBlock ∧ some k_ ≠ (.slice qh t241.length qg : Value).ownBlock) v271 t270) := ⟨h0_⟩
                                 have n1_ : Aside0 (Kd.R (Kd.int .i64) 3 w163 w.heap.size (fun k_ => some k_ ≠ (v271 : Value).ownBlock ∧ some k_ ≠ (v278 : Value).ownBlock ∧ some k_ ≠ (v281 : Value).ownBlock ∧ some k_ ≠ (.slice qj t225.length qi : Value).ownBlock ∧ some k_ ≠ (.slice qe t263.length qf : Value).ownBlock ∧ some k_ ≠ (.slice qh t241.length qg : Value).ownBlock) v274 t273) := ⟨h1_⟩
                                 have n2_ : Aside0 (Kd.R (Kd.int .i64) 3 w163 w.heap.size (fun k_ => some k_ ≠ (v271 : Value).ownBlock ∧ some k_ ≠ (v274 : Value).ownBlock ∧ some k_ ≠ (v281 : Value).ownBlock ∧ some k_ ≠ (.slice qj t225.length qi : Value).ownBlock ∧ some k_ ≠ (.slice qe t263.length qf : Value).ownBlock ∧ some k_ ≠ (.slice qh t241.length qg : Value).ownBlock) v278 t277) := ⟨h2_⟩
                                 have n3_ : Aside0 (Kd.R (Kd.int .i64) 3 w163 w.heap.size (fun k_ => some k_ ≠ (v271 : Value).ownBlock ∧ some k_ ≠ (v274 : Value).ownBlock ∧ some k_ ≠ (v278 : Value).ownBlock ∧ some k_ ≠ (.slice qj t225.length qi : Value).ownBlock ∧ some k_ ≠ (.slice qe t263.length qf : Value).ownBlock ∧ some k_ ≠ (.slice qh t241.length qg : Value).ownBlock) v281 t280) := ⟨h3_⟩
                                 have n4_ : Aside0 (Kd.R (Kd.int .i64) 3 w163 w.heap.size (fun k_ => some k_ ≠ (v271 : Value).ownBlock ∧ some k_ ≠ (v274 : Value).ownBlock ∧ some k_ ≠ (v278 : Value).ownBlock ∧ some k_ ≠ (v281 : Value).ownBlock ∧ some k_ ≠ (.slice qe t263.length qf : Value).ownBlock ∧ some k_ ≠ (.slice qh t241.length qg : Value).ownBlock) (.slice qj t225.length qi) t225) := ⟨h4_⟩
                                 have n5_ : Aside0 (Kd.R (Kd.int .i64) 3 w163 w.heap.size (fun k_ => some k_ ≠ (v271 : Value).ownBlock ∧ some k_ ≠ (v274 : Value).ownBlock ∧ some k_ ≠ (v278 : Value).ownBlock ∧ some k_ ≠ (v281 : Value).ownBlock ∧ some k_ ≠ (.slice qj t225.length qi : Value).ownBlock ∧ some k_ ≠ (.slice qh t241.length qg : Value).ownBlock) (.slice qe t263.length qf) t263) := ⟨h5_⟩
                                 have n6_ : Aside0 (Kd.R (Kd.int .i64) 3 w163 w.heap.size (fun k_ => some k_ ≠ (v271 : Value).ownBlock ∧ some k_ ≠ (v274 : Value).ownBlock ∧ some k_ ≠ (v278 : Value).ownBlock ∧ some k_ ≠ (v281 : Value).ownBlock ∧ some k_ ≠ (.slice qj t225.length qi : Value).ownBlock ∧ some k_ ≠ (.slice qe t263.length qf : Value).ownBlock) (.slice qh t241.length qg) t268) := ⟨h6_⟩
                                 have n7_ : Aside0 (w163.heap[q7]? = some (.cells #[.slice A1_0 l1_0.length c1_0, .int .i64 a1_1] 31 (0, 0))) := ⟨h7_⟩
                                 have n8_ : Aside0 (w163.heap[qb]? = some (.cells #[.slice qj t225.length qi, .int .i64 t228] 35 (0, 0))) := ⟨h8_⟩
                                 have n9_ : Aside0 (w163.heap[ql]? = some (.cells #[.slice qe t263.length qf, .int .i64 t236] 35 (0, 0))) := ⟨h9_⟩
                                 have n10_ : Aside0 (w163.heap[qn]? = some (.cells #[.slice qh t241.length qg, .int .i64 t244] 35 (0, 0))) := ⟨h10_⟩
                                 have n11_ : Aside0 (Below w.heap.size w w163) := ⟨h11_⟩
                                 clear q4 q5 q2 q1 q6 q8 q9 HB h0_ h1_ h2_ h3_ h4_ h5_ h6_ h7_ h8_ h9_ h10_ h11_; have qr := n0_; have z01 := n1_; have z08 := n2_; have z0o := n3_; have q4 := n4_; have q5 := n5_; have q2 := n6_; have q1 := n7_; have q6 := n8_; have q8 := n9_; have q9 := n10_; have HB := n11_; clear n0_ n1_ n2_ n3_ n4_ n5_ n6_ n7_ n8_ n9_ n10_ n11_
                                 have hHeld : w163.cell? ⟨q7, 0, none⟩ = some (.slice A1_0 l1_0.length c1_0) ∧ w163.cell? ⟨q7, 1, none⟩ = some (.int .i64 a1_1) := hS_
                                 refine norm_ (a' := ?_) ?_ ?_
                                 rotate_left
                                 · simp only [putAll, Act.put, List.setIfInBounds_toArray, List.set_cons_zero, List.set_cons_succ]
                                   rfl
                                 refine one_ (i := 7) (N := some 16) #[true, true, true, true, true, true, true, true, false] rfl rfl (one_of HT_.out (by kernel_rfl)) (by decide) (fun K hK => ?_)
                                 refine box_step ?hg (N := 16) ?hd (cs := #[.slice none 0 0, .int .i64 0]) (t := 35) ?hr ?_; (case hd => rfl); (case hg => rfl); (case hr => first | (go_simp; done) | (go_simp; rfl))
                                 intro qa hg w164 hbox hb
                                 have n0_ := q0 (Kd.R_below (ra q4.out) hb); have n1_ := q0 (Kd.R_below (ra q5.out) hb); have n2_ := q0 (Kd.R_below (ra q2.out) hb); have n3_ := q0 (Kd.R_below (ra qr.out) hb); have n4_ := q0 (Kd.R_below (ra z01.out) hb); have n5_ := q0 (Kd.R_below (ra z08.out) hb); have n6_ := q0 (Kd.R_below (ra z0o.out) hb); have n7_ := q0 (bb q1.out hb); have n8_ := q0 (bb q6.out hb); have n9_ := q0 (bb q8.out hb); have n10_ := q0 (bb q9.out hb); have n11_ := q0 (below_step (q3) hb); have n12_ := q0 (hbox); have n13_ := q0 ((by rw [hg]; exact (below_size (q3)) : w.heap.size ≤ qa)); have n14_ := q0 ((by rw [hg]; exact (below_size (q3)) : w.heap.size ≤ qa)); have n15_ := q0 ((by rw [hg]; exact Nat.ne_of_lt (bl q1.out) : q7 ≠ qa)); have n16_ := q0 ((by rw [hg]; exact Nat.ne_of_gt (bl q1.out) : qa ≠ q7)); have n17_ := q0 ((by rw [hg]; exact Nat.ne_of_lt (bl q6.out) : qb ≠ qa)); have n18_ := q0 ((by rw [hg]; exact Nat.ne_of_gt (bl q6.out) : qa ≠ qb)); have n19_ := q0 ((by rw [hg]; exact Nat.ne_of_lt (bl q8.out) : ql ≠ qa)); have n20_ := q0 ((by rw [hg]; exact Nat.ne_of_gt (bl q8.out) : qa ≠ ql)); have n21_ := q0 ((by rw [hg]; exact Nat.ne_of_lt (bl q9.out) : qn ≠ qa)); have n22_ := q0 ((by rw [hg]; exact Nat.ne_of_gt (bl q9.out) : qa ≠ qn)); clear q4 q5 q2 qr z01 z08 z0o q1 q6 q8 q9 HB; have q4 := n0_; have q5 := n1_; have q2 := n2_; have qr := n3_; have z01 := n4_; have z08 := n5_; have z0o := n6_; have q1 := n7_; have q6 := n8_; have q8 := n9_; have q9 := n10_; have HB := n11_; have z00 := n12_; have GW284 := n13_; have z0n := n14_; have qt := n15_; have z03 := n16_; have qw := n17_; have z04 := n18_; have qx := n19_; have z05 := n20_; have qy := n21_; have z06 := n22_; clear n0_ n1_ n2_ n3_ n4_ n5_ n6_ n7_ n8_ n9_ n10_ n11_ n12_ n13_ n14_ n15_ n16_ n17_ n18_ n19_ n20_ n21_ n22_ hb hbox hg
                                 refine hK.out _ _ ⟨(blk_cell q1.out 0).trans rfl, (blk_cell q1.out 1).trans rfl⟩ (fun hHeld => ?_)
                                 clear hK K
                                 refine norm_ (a' := ?_) ?_ ?_
                                 rotate_left
                                 · show Act.put _ (some 16) _ = _
                                   simp only [Act.put, List.setIfInBounds_toArray, List.set_cons_zero, List.set_cons_succ, i64_w, i32_w]
                                   rfl
                                 exact norm_ pa (z0p (v271, v274, v278, v281, qa) _ ⟨hHeld, (ra qr.out), (ra z01.out), (ra z08.out), (ra z0o.out), (ra q4.out), (ra q5.out), (ra q2.out), (ba q1.out), (ba q6.out), (ba q8.out), (ba q9.out), (ba z00.out), GW284.out, z0n.out, qt.out, z03.out, qw.out, z04.out, qx.out, z05.out, qy.out, z06.out, (qc)⟩)
                             rintro ⟨v271, v274, v278, v281, qa⟩ w164 ⟨hS_, h0_, h1_, h2_, h3_, h4_, h5_, h6_, h7_, h8_, h9_, h10_, h11_, h12_, h13_, h14_, h15_, h16_, h17_, h18_, h19_, h20_, h21_, h22_⟩
                             have n0_ : Aside0 (Kd.R (Kd.int .i64) 3 w164 w.heap.size (fun k_ => some k_ ≠ (v274 : Value).ownBlock ∧ some k_ ≠ (v278 : Value).ownBlock ∧ some k_ ≠ (v281 : Value).ownBlock ∧ some k_ ≠ (.slice qj t225.length qi : Value).ownBlock ∧ some k_ ≠ (.slice qe t263.length qf : Value).ownBlock ∧ some k_ ≠ (.slice qh t241.length qg : Value).ownBlock) v271 t270) := ⟨h0_⟩
                             have n1_ : Aside0 (Kd.R (Kd.int .i64) 3 w164 w.heap.size (fun k_ => some k_ ≠ (v271 : Value).ownBlock ∧ some k_ ≠ (v278 : Value).ownBlock ∧ some k_ ≠ (v281 : Value).ownBlock ∧ some k_ ≠ (.slice qj t225.length qi : Value).ownBlock ∧ some k_ ≠ (.slice qe t263.length qf : Value).ownBlock ∧ some k_ ≠ (.slice qh t241.length qg : Value).ownBlock) v274 t273) := ⟨h1_⟩
                             have n2_ : Aside0 (Kd.R (Kd.int .i64) 3 w164 w.heap.size (fun k_ => some k_ ≠ (v271 : Value).ownBlock ∧ some k_ ≠ (v274 : Value).ownBlock ∧ some k_ ≠ (v281 : Value).ownBlock ∧ some k_ ≠ (.slice qj t225.length qi : Value).ownBlock ∧ some k_ ≠ (.slice qe t263.length qf : Value).ownBlock ∧ some k_ ≠ (.slice qh t241.length qg : Value).ownBlock) v278 t277) := ⟨h2_⟩
                             have n3_ : Aside0 (Kd.R (Kd.int .i64) 3 w164 w.heap.size (fun k_ => some k_ ≠ (v271 : Value).ownBlock ∧ some k_ ≠ (v274 : Value).ownBlock ∧ some k_ ≠ (v278 : Value).ownBlock ∧ some k_ ≠ (.slice qj t225.length qi : Value).ownBlock ∧ some k_ ≠ (.slice qe t263.length qf : Value).ownBlock ∧ some k_ ≠ (.slice qh t241.length qg : Value).ownBlock) v281 t280) := ⟨h3_⟩
                             have n4_ : Aside0 (Kd.R (Kd.int .i64) 3 w164 w.heap.size (fun k_ => some k_ ≠ (v271 : Value).ownBlock ∧ some k_ ≠ (v274 : Value).ownBlock ∧ some k_ ≠ (v278 : Value).ownBlock ∧ some k_ ≠ (v281 : Value).ownBlock ∧ some k_ ≠ (.slice qe t263.length qf : Value).ownBlock ∧ some k_ ≠ (.slice qh t241.length qg : Value).ownBlock) (.slice qj t225.length qi) t225) := ⟨h4_⟩
                             have n5_ : Aside0 (Kd.R (Kd.int .i64) 3 w164 w.heap.size (fun k_ => some k_ ≠ (v271 : Value).ownBlock ∧ some k_ ≠ (v274 : Value).ownBlock ∧ some k_ ≠ (v278 : Value).ownBlock ∧ some k_ ≠ (v281 : Value).ownBlock ∧ some k_ ≠ (.slice qj t225.length qi : Value).ownBlock ∧ some k_ ≠ (.slice qh t241.length qg : Value).ownBlock) (.slice qe t263.length qf) t263) := ⟨h5_⟩
                             have n6_ : Aside0 (Kd.R (Kd.int .i64) 3 w164 w.heap.size (fun k_ => some k_ ≠ (v271 : Value).ownBlock ∧ some k_ ≠ (v274 : Value).ownBlock ∧ some k_ ≠ (v278 : Value).ownBlock ∧ some k_ ≠ (v281 : Value).ownBlock ∧ some k_ ≠ (.slice qj t225.length qi : Value).ownBlock ∧ some k_ ≠ (.slice qe t263.length qf : Value).ownBlock) (.slice qh t241.length qg) t268) := ⟨h6_⟩
                             have n7_ : Aside0 (w164.heap[q7]? = some (.cells #[.slice A1_0 l1_0.length c1_0, .int .i64 a1_1] 31 (0, 0))) := ⟨h7_⟩
                             have n8_ : Aside0 (w164.heap[qb]? = some (.cells #[.slice qj t225.length qi, .int .i64 t228] 35 (0, 0))) := ⟨h8_⟩
                             have n9_ : Aside0 (w164.heap[ql]? = some (.cells #[.slice qe t263.length qf, .int .i64 t236] 35 (0, 0))) := ⟨h9_⟩
                             have n10_ : Aside0 (w164.heap[qn]? = some (.cells #[.slice qh t241.length qg, .int .i64 t244] 35 (0, 0))) := ⟨h10_⟩
                             have n11_ : Aside0 (w164.heap[qa]? = some (.cells #[.slice none 0 0, .int .i64 0] 35 (0, 0))) := ⟨h11_⟩
                             have n12_ : Aside0 (w.heap.size ≤ qa) := ⟨h12_⟩
                             have n13_ : Aside0 (w.heap.size ≤ qa) := ⟨h13_⟩
                             have n14_ : Aside0 (q7 ≠ qa) := ⟨h14_⟩
                             have n15_ : Aside0 (qa ≠ q7) := ⟨h15_⟩
                             have n16_ : Aside0 (qb ≠ qa) := ⟨h16_⟩
                             have n17_ : Aside0 (qa ≠ qb) := ⟨h17_⟩
                             have n18_ : Aside0 (ql ≠ qa) := ⟨h18_⟩
                             have n19_ : Aside0 (qa ≠ ql) := ⟨h19_⟩
                             have n20_ : Aside0 (qn ≠ qa) := ⟨h20_⟩
                             have n21_ : Aside0 (qa ≠ qn) := ⟨h21_⟩
                             have n22_ : Aside0 (Below w.heap.size w w164) := ⟨h22_⟩
                             clear q4 q5 q2 q1 q6 q8 q9 HB h0_ h1_ h2_ h3_ h4_ h5_ h6_ h7_ h8_ h9_ h10_ h11_ h12_ h13_ h14_ h15_ h16_ h17_ h18_ h19_ h20_ h21_ h22_; have qr := n0_; have z01 := n1_; have z08 := n2_; have z0o := n3_; have q4 := n4_; have q5 := n5_; have q2 := n6_; have q1 := n7_; have q6 := n8_; have q8 := n9_; have q9 := n10_; have z00 := n11_; have GW284 := n12_; have z0n := n13_; have qt := n14_; have z03 := n15_; have qw := n16_; have z04 := n17_; have qx := n18_; have z05 := n19_; have qy := n20_; have z06 := n21_; have HB := n22_; clear n0_ n1_ n2_ n3_ n4_ n5_ n6_ n7_ n8_ n9_ n10_ n11_ n12_ n13_ n14_ n15_ n16_ n17_ n18_ n19_ n20_ n21_ n22_
                             have hHeld : w164.cell? ⟨q7, 0, none⟩ = some (.slice A1_0 l1_0.length c1_0) ∧ w164.cell? ⟨q7, 1, none⟩ = some (.int .i64 a1_1) := hS_
                             obtain ⟨z0x, z0r, eo165⟩ := Kd.R_slice z0o.out
                             (first | subst eo165 | (injection eo165 with f1_ f2_ f3_; have f4_ := f1_.symm; have f5_ := f3_.symm; clear f1_ f2_ f3_; subst f4_; subst f5_))
                             refine norm_ (a' := ?_) ?_ ?_
                             rotate_left
                             · simp only [putAll, Act.put, List.setIfInBounds_toArray, List.set_cons_zero, List.set_cons_succ]
                               rfl
                             refine one_ (i := 8) (N := none) #[true, true, true, true, true, true, true, true, true] rfl rfl (one_of HT_.out (by kernel_rfl)) (by decide) (fun K hK => ?_)
                             have hs166 : w164.cell? ⟨qa, 0, none⟩ = some (.slice none 0 0) := (blk_cell z00.out 0).trans rfl
                             have hfs166 := blk_frozen z00.out 0
                             have hns166_0 := qt.out
                             have hns166_1 := qw.out
                             have hns166_2 := qx.out
                             have hns166_3 := qy.out
                             have hms166_0 := z03.out
                             have hms166_1 := z04.out
                             have hms166_2 := z05.out
                             have hms166_3 := z06.out
                             have hs167 : w164.cell? ⟨qa, 1, none⟩ = some (.int .i64 0) := (blk_cell z00.out 1).trans rfl
                             have hfs167 := blk_frozen z00.out 1
                             have hns167_0 := qt.out
                             have hns167_1 := qw.out
                             have hns167_2 := qx.out
                             have hns167_3 := qy.out
                             have hms167_0 := z03.out
                             have hms167_1 := z04.out
                             have hms167_2 := z05.out
                             have hms167_3 := z06.out
                             refine skip_ (w1 := ?_) (by rfl) rfl ?_ ?_
                             rotate_left
                             · go_simp
                               rfl
                             refine hK.out _ _ ⟨((cell_far (p := ⟨qa, _, none⟩) qt.out _).trans (((cell_far (p := ⟨qa, _, none⟩) qt.out _).trans (hHeld.1)))), ((cell_far (p := ⟨qa, _, none⟩) qt.out _).trans (((cell_far (p := ⟨qa, _, none⟩) qt.out _).trans (hHeld.2))))⟩ (fun hHeld => ?_)
                             clear hK K
                             refine done_ (done_of HT_.out (by kernel_rfl)) ?_
                             have hnb168 := z03.out
                             have hnc168 := qt.out
                             have hnb169 := z04.out
                             have hnc169 := qw.out
                             have hnb170 := z05.out
                             have hnc170 := qx.out
                             have hnb171 := z06.out
                             have hnc171 := qy.out
                             have hcz172_0 : w164.cell? ⟨qa, 0, none⟩ = some (.slice none 0 0) := (blk_cell z00.out 0).trans rfl
                             have hcz172_1 : w164.cell? ⟨qa, 1, none⟩ = some (.int .i64 0) := (blk_cell z00.out 1).trans rfl
                             have hfz172_0 := blk_frozen z00.out 0
                             have hfz172_1 := blk_frozen z00.out 1
                             have hnb173 := qv.out
                             have hnc173 := qq.out
                             have hnb174 := z0t.out
                             have hnc174 := z11.out
                             have hcz175_0 : w164.cell? ⟨qb, 0, none⟩ = some (.slice qj t225.length qi) := (blk_cell q6.out 0).trans rfl
                             have hcz175_1 : w164.cell? ⟨qb, 1, none⟩ = some (.int .i64 t228) := (blk_cell q6.out 1).trans rfl
                             have hfz175_0 := blk_frozen q6.out 0
                             have hfz175_1 := blk_frozen q6.out 1
                             try go_wp2_with (first | ((with_reducible refine gate_callee (f := 26) rfl ?_); refine goesL_ (some 101) rfl rfl Try.func26 (by kernel_rfl) rfl #[.agg #[.slice z0x t280.length z0r, .int .i64 t283], .agg #[.slice qj t225.length qi, .int .i64 t228]] rfl ma ?_; (with_reducible refine (laws_eqFollower.calls kj34 _ _ t280 t283 _ _ t225 t228 true _ ?side1 ?side2 ?side3 ?side4 A112.out).mono ?_); (case side1 => refine (Kd.R_reads' (e := 3) (base := w.heap.size) (ok := fun k_ => (some k_ ≠ (v271 : Value).ownBlock ∧ (some k_ ≠ (v274 : Value).ownBlock ∧ (some k_ ≠ (v278 : Value).ownBlock ∧ (some k_ ≠ (.slice qj t225.length qi : Value).ownBlock ∧ (some k_ ≠ (.slice qe t263.length qf : Value).ownBlock ∧ some k_ ≠ (.slice qh t241.length qg : Value).ownBlock)))))) (n := t280.length) (c := z0r) ?_).2.2; exact (by refine ra ?_; exact (Kd.R_mono (Kd.R_far (p := ⟨qa, 1, none⟩) (Kd.R_far (p := ⟨qa, 0, none⟩) (Kd.R_types z0o.out z00.out (by decide)) (fun _ hk => hk.2) (.slice z0x t280.length z0r)) (fun _ hk => hk.2) (.int .i64 t283)) (fun _ h_ => h_.1)))); (case side2 => exact (Kd.R_reads' z0o.out).2.1); (case side3 => refine (Kd.R_reads' (e := 3) (base := w.heap.size) (ok := fun k_ => (some k_ ≠ (v271 : Value).ownBlock ∧ (some k_ ≠ (v274 : Value).ownBlock ∧ (some k_ ≠ (v278 : Value).ownBlock ∧ (some k_ ≠ (.slice z0x t280.length z0r : Value).ownBlock ∧ (some k_ ≠ (.slice qe t263.length qf : Value).ownBlock ∧ some k_ ≠ (.slice qh t241.length qg : Value).ownBlock)))))) (n := t225.length) (c := qi) ?_).2.2; exact (by refine ra ?_; exact (Kd.R_mono (Kd.R_far (p := ⟨qa, 1, none⟩) (Kd.R_far (p := ⟨qa, 0, none⟩) (Kd.R_types q4.out z00.out (by decide)) (fun _ hk => hk.2) (.slice z0x t280.length z0r)) (fun _ hk => hk.2) (.int .i64 t283)) (fun _ h_ => h_.1)))); (case side4 => exact (Kd.R_reads' q4.out).2.1); rintro e w176 ⟨rfl, hb⟩; refine ⟨_, rfl, ?_⟩; have n0_ := q0 (Kd.R_below (by refine ra ?_; exact (Kd.R_mono (Kd.R_far (p := ⟨qa, 1, none⟩) (Kd.R_far (p := ⟨qa, 0, none⟩) (Kd.R_types q4.out z00.out (by decide)) (fun _ hk => hk.2) (.slice z0x t280.length z0r)) (fun _ hk => hk.2) (.int .i64 t283)) (fun _ h_ => h_.1))) hb); have n1_ := q0 (Kd.R_below (by refine ra ?_; exact (Kd.R_mono (Kd.R_far (p := ⟨qa, 1, none⟩) (Kd.R_far (p := ⟨qa, 0, none⟩) (Kd.R_types q5.out z00.out (by decide)) (fun _ hk => hk.2) (.slice z0x t280.length z0r)) (fun _ hk => hk.2) (.int .i64 t283)) (fun _ h_ => h_.1))) hb); have n2_ := q0 (Kd.R_below (by refine ra ?_; exact (Kd.R_mono (Kd.R_far (p := ⟨qa, 1, none⟩) (Kd.R_far (p := ⟨qa, 0, none⟩) (Kd.R_types q2.out z00.out (by decide)) (fun _ hk => hk.2) (.slice z0x t280.length z0r)) (fun _ hk => hk.2) (.int .i64 t283)) (fun _ h_ => h_.1))) hb); have n3_ := q0 (Kd.R_below (by refine ra ?_; exact (Kd.R_mono (Kd.R_far (p := ⟨qa, 1, none⟩) (Kd.R_far (p := ⟨qa, 0, none⟩) (Kd.R_types qr.out z00.out (by decide)) (fun _ hk => hk.2) (.slice z0x t280.length z0r)) (fun _ hk => hk.2) (.int .i64 t283)) (fun _ h_ => h_.1))) hb); have n4_ := q0 (Kd.R_below (by refine ra ?_; exact (Kd.R_mono (Kd.R_far (p := ⟨qa, 1, none⟩) (Kd.R_far (p := ⟨qa, 0, none⟩) (Kd.R_types z01.out z00.out (by decide)) (fun _ hk => hk.2) (.slice z0x t280.length z0r)) (fun _ hk => hk.2) (.int .i64 t283)) (fun _ h_ => h_.1))) hb); have n5_ := q0 (Kd.R_below (by refine ra ?_; exact (Kd.R_mono (Kd.R_far (p := ⟨qa, 1, none⟩) (Kd.R_far (p := ⟨qa, 0, none⟩) (Kd.R_types z08.out z00.out (by decide)) (fun _ hk => hk.2) (.slice z0x t280.length z0r)) (fun _ hk => hk.2) (.int .i64 t283)) (fun _ h_ => h_.1))) hb); have n6_ := q0 (Kd.R_below (by refine ra ?_; exact (Kd.R_mono (Kd.R_far (p := ⟨qa, 1, none⟩) (Kd.R_far (p := ⟨qa, 0, none⟩) (Kd.R_types z0o.out z00.out (by decide)) (fun _ hk => hk.2) (.slice z0x t280.length z0r)) (fun _ hk => hk.2) (.int .i64 t283)) (fun _ h_ => h_.1))) hb); have n7_ := q0 (blk_below (g := q7) (o := .cells #[.slice A1_0 l1_0.length c1_0, .int .i64 a1_1] 31 (0, 0)) (by refine ba ?_; refine blk_far ?_ qt.out _; refine ba ?_; refine blk_far ?_ qt.out _; refine ba ?_; exact q1.out) hb); have n8_ := q0 (blk_below (g := qb) (o := .cells #[.slice qj t225.length qi, .int .i64 t228] 35 (0, 0)) (by refine ba ?_; refine blk_far ?_ qw.out _; refine ba ?_; refine blk_far ?_ qw.out _; refine ba ?_; exact q6.out) hb); have n9_ := q0 (blk_below (g := ql) (o := .cells #[.slice qe t263.length qf, .int .i64 t236] 35 (0, 0)) (by refine ba ?_; refine blk_far ?_ qx.out _; refine ba ?_; refine blk_far ?_ qx.out _; refine ba ?_; exact q8.out) hb); have n10_ := q0 (blk_below (g := qn) (o := .cells #[.slice qh t241.length qg, .int .i64 t244] 35 (0, 0)) (by refine ba ?_; refine blk_far ?_ qy.out _; refine ba ?_; refine blk_far ?_ qy.out _; refine ba ?_; exact q9.out) hb); have n11_ := q0 (blk_below (g := qa) (o := .cells #[.slice z0x t280.length z0r, .int .i64 t283] 35 (0, 0)) (by refine ba ?_; refine blk_put (cs := #[.slice z0x t280.length z0r, .int .i64 0]) ?_ 1 _ rfl; refine ba ?_; refine blk_put (cs := #[.slice none 0 0, .int .i64 0]) ?_ 0 _ rfl; refine ba ?_; exact z00.out) hb); have n12_ := q0 (below_step (qc) hb); clear q4; clear q5; clear q2; clear qr; clear z01; clear z08; clear z0o; clear q1; clear q6; clear q8; clear q9; clear z00; clear HB; have q4 := n0_; have q5 := n1_; have q2 := n2_; have qr := n3_; have z01 := n4_; have z08 := n5_; have z0o := n6_; have q1 := n7_; have q6 := n8_; have q8 := n9_; have q9 := n10_; have z00 := n11_; have HB := n12_; clear n0_ n1_ n2_ n3_ n4_ n5_ n6_ n7_ n8_ n9_ n10_ n11_ n12_; (try clear hb); (try clear hb2); (try clear hk); (try clear hi); have hcz177_0 : w176.cell? ⟨qn, 0, none⟩ = some (.slice qh t241.length qg) := (blk_cell q9.out 0).trans rfl; have hcz177_1 : w176.cell? ⟨qn, 1, none⟩ = some (.int .i64 t244) := (blk_cell q9.out 1).trans rfl; have hfz177_0 := blk_frozen q9.out 0; have hfz177_1 := blk_frozen q9.out 1) | ((with_reducible refine gate_callee (f := 31) rfl ?_); refine goesL_ (some 105) rfl rfl Try.func31 (by kernel_rfl) rfl #[.agg #[.slice qh t268.length qg, .int .i64 t244], .int .i64 1] rfl (by (try simp only [List.map_toArray, List.map_cons, List.map_nil]); first | done | (rw [show t268.length = t241.length from (Kd.R_reads' q2.out).1.symm] <;> rfl) | rfl | (simp only [List.length_drop, List.length_take]; rfl)) ?_; (with_reducible refine (laws_heldFollower.calls kj34 _ _ t268 t244 1 t286 _ ?side1 ?side2 A114.out).mono ?_); (case side1 => exact ca (Kd.R_reads' q2.out).2.2); (case side2 => rw [show t268.length = t241.length from (Kd.R_reads' q2.out).1.symm]; exact (Kd.R_reads' q2.out).2.1); rintro e w178 ⟨rfl, hb⟩; refine ⟨_, rfl, ?_⟩; have n0_ := q0 (Kd.R_below (ra q4.out) hb); have n1_ := q0 (Kd.R_below (ra q5.out) hb); have n2_ := q0 (Kd.R_below (ra q2.out) hb); have n3_ := q0 (Kd.R_below (ra qr.out) hb); have n4_ := q0 (Kd.R_below (ra z01.out) hb); have n5_ := q0 (Kd.R_below (ra z08.out) hb); have n6_ := q0 (Kd.R_below (ra z0o.out) hb); have n7_ := q0 (bb q1.out hb); have n8_ := q0 (bb q6.out hb); have n9_ := q0 (bb q8.out hb); have n10_ := q0 (bb q9.out hb); have n11_ := q0 (bb z00.out hb); have n12_ := q0 (below_step (qc) hb); clear q4; clear q5; clear q2; clear qr; clear z01; clear z08; clear z0o; clear q1; clear q6; clear q8; clear q9; clear z00; clear HB; have q4 := n0_; have q5 := n1_; have q2 := n2_; have qr := n3_; have z01 := n4_; have z08 := n5_; have z0o := n6_; have q1 := n7_; have q6 := n8_; have q8 := n9_; have q9 := n10_; have z00 := n11_; have HB := n12_; clear n0_ n1_ n2_ n3_ n4_ n5_ n6_ n7_ n8_ n9_ n10_ n11_ n12_; (try clear hb); (try clear hb2); (try clear hk); (try clear hi)))
                             go_ret
                             exact ⟨by first | rfl | (simp [errW_none, errW_some] <;> rfl) | (simp [*, errW_none, errW_some] <;> rfl), by exact (qc)⟩
                           · rw [if_neg c147] at H
                             have c147b0 : (t286 == t267) = false := beq_eq_false_iff_ne.mpr c147
                             have c147b1 : (t286 != t267) = true := bne_iff_ne.mpr c147
                             exact absurd H (by simp)
                       · replace c113 := Bool.eq_false_iff.mpr c113
                         subst c113
                         have H1 : (some false) = some true := by rw [if_neg (show ¬ (false = true) by decide)] at H; exact H
                         clear H
                         have H := H1
                         clear H1
                         exact absurd H (by simp)
                     · rw [if_neg c107] at H
                       have c107b0 : (t269 == t267) = false := beq_eq_false_iff_ne.mpr c107
                       have c107b1 : (t269 != t267) = true := bne_iff_ne.mpr c107
                       exact absurd H (by simp)
             · replace c31 := Bool.eq_false_iff.mpr c31
               subst c31
               have H1 : (some false) = some true := by rw [if_neg (show ¬ (false = true) by decide)] at H; exact H
               clear H
               have H := H1
               clear H1
               exact absurd H (by simp)
           · replace c28 := Bool.eq_false_iff.mpr c28
             subst c28
             have H1 : (some false) = some true := by rw [if_neg (show ¬ (false = true) by decide)] at H; exact H
             clear H
             have H := H1
             clear H1
             exact absurd H (by simp)
         · replace c25 := Bool.eq_false_iff.mpr c25
           subst c25
           have H1 : (some false) = some true := by rw [if_neg (show ¬ (false = true) by decide)] at H; exact H
           clear H
           have H := H1
           clear H1
           exact absurd H (by simp)
       · replace c22 := Bool.eq_false_iff.mpr c22
         subst c22
         have H1 : (some false) = some true := by rw [if_neg (show ¬ (false = true) by decide)] at H; exact H
         clear H
         have H := H1
         clear H1
         exact absurd H (by simp)
end Go.Proofs.Ytnaoogkklkhpnaa.PFnExactHearAll
