-- Written for this claim by a program of this repository (wip/tools/print2.py), out of the translation; Lean checks it.
import Derived.Test.YtnaoogkklkhpnaaPFnExactWorkOfx0
import Derived.Test.YtnaoogkklkhpnaaPFnExactWorkOfx1
import Derived.Test.YtnaoogkklkhpnaaPFnExactWorkOfx2
namespace Go.Proofs.Ytnaoogkklkhpnaa.PFnExactWorkOf
open Go.RowKit Go.Proofs.YtnaoogkklkhpnaaW.PrintWords Go.Proofs.YtnaoogkklkhpnaaW.PrintLast Go.Proofs.YtnaoogkklkhpnaaW.PrintMore
attribute [local go_sem] max2_int min2_int max_two min_two max_three min_three max_four min_four   -- for this text's walks alone
set_option linter.unusedVariables false
set_option linter.unusedSimpArgs false

/-! ### laws_FnExactWorkOf: function 4 -/
def laws_FnExactWorkOf.f (k : Nat) (l0 : List Int) (l1_0 : List Int) (a1_1 : Int) (a2 : Int) : Option (Bool) := if (l0.length : Int) > 1048576 then (some true) else ((laws_szFollower.f l1_0 a1_1 1048576).bind fun t148 => (if t148 < 0 then (some true) else ((laws_toIntS.f k l0).bind fun t149 => ((laws_toFollower.f k l1_0 a1_1).bind fun bt152 => ((spec_WorkOf.f k t149 bt152.1 bt152.2 a2).bind fun t156 => ((laws_toIntS.f k l0).bind fun t157 => ((laws_toFollower.f k l1_0 a1_1).bind fun bt160 => ((impl_WorkOf.f k t157 bt160.1 bt160.2 a2).bind fun t165 => (if t165 = t156 then ((laws_toIntS.f k l0).bind fun t166 => ((laws_eqIntS.f k t157 t166).bind fun t169 => (if t169 = true then ((laws_toFollower.f k l1_0 a1_1).bind fun bt170 => ((laws_eqFollower.f k bt160.1 bt160.2 bt170.1 bt170.2).bind fun t174 => (if t174 = true then (some true) else (some false)))) else (some false)))) else (some false))))))))))
theorem laws_FnExactWorkOf.mono : ∀ a0 a1 a2 a3 k, LeO (laws_FnExactWorkOf.f k a0 a1 a2 a3) (laws_FnExactWorkOf.f (k + 1) a0 a1 a2 a3) := by
  intro a0 a1 a2 a3 k
  unfold laws_FnExactWorkOf.f
  repeat' first
      | (with_reducible exact impl_WorkOf.mono _ _ _ _ _)
      | (with_reducible exact laws_eqFollower.mono _ _ _ _ _)
      | (with_reducible exact laws_eqIntS.mono _ _ _)
      | (with_reducible exact laws_toFollower.mono _ _ _)
      | (with_reducible exact laws_toIntS.mono _ _)
      | (with_reducible exact spec_WorkOf.mono _ _ _ _ _)
      | (with_reducible exact LeO.refl _)
      | (with_reducible exact LeO.none _)
      | (with_reducible refine LeO.ite ?_ ?_)
      | (with_reducible refine LeO.bind ?_ (fun _ => ?_))
      | exact impl_WorkOf.mono _ _ _ _ _
      | exact laws_eqFollower.mono _ _ _ _ _
      | exact laws_eqIntS.mono _ _ _
      | exact laws_toFollower.mono _ _ _
      | exact laws_toIntS.mono _ _
      | exact spec_WorkOf.mono _ _ _ _ _
      | exact LeO.none _
      | refine LeO.ite ?_ ?_
      | refine LeO.bind ?_ (fun _ => ?_)
theorem ra {p q : Prop} (h : q) (f : q → p := by intro h_; (with_reducible repeat (first | apply Kd.R_alloc | apply Kd.R_drewN | apply Kd.R_drew)); exact h_) : p := f h
theorem ba {p q : Prop} (h : q) (f : q → p := by intro h_; (with_reducible repeat (first | refine blk_drewN ?_ _ | refine blk_drew ?_ | refine blk_alloc ?_ _)); exact h_) : p := f h
theorem qp {p : Prop} (f : p := by repeat (first | (with_reducible first | exact HB.out | apply below_alloc | apply pw_below_drewN | apply below_drew1) | exact HB.out)) : p := f
theorem q7 {p : Prop} (f : p := by repeat (first | (with_reducible first | exact HB.out | apply below_alloc | apply pw_below_drewN | apply below_drew1 | refine below_set ?_ qq.out) | exact HB.out)) : p := f
theorem q8 {p : Prop} (f : p := by repeat (first | (with_reducible first | exact HB.out | apply below_alloc | apply pw_below_drewN | apply below_drew1 | refine below_set ?_ qq.out | refine below_set ?_ qt.out) | exact HB.out)) : p := f
theorem pa {p : Prop} (f : p := by first | (simp only [putAll, Act.put, List.setIfInBounds_toArray, List.set_cons_zero, List.set_cons_succ]; done) | (simp only [putAll, Act.put, List.setIfInBounds_toArray, List.set_cons_zero, List.set_cons_succ]; rfl)) : p := f
theorem ma {p : Prop} (f : p := by (try simp only [List.map_toArray, List.map_cons, List.map_nil]); first | done | rfl | (simp only [List.length_drop, List.length_take]; rfl)) : p := f
theorem ca {p q : Prop} (h : q) (f : q → p := by intro h_; repeat (first | exact h_ | (with_reducible refine Kd.C_alloc ?_ _) | (with_reducible refine Kd.C_drewN ?_ _) | (with_reducible refine Kd.C_drew ?_))) : p := f h
theorem bb {w w1 : World} {g : Nat} {o : Obj} {q : Prop} (h : q) (hb : Below w.heap.size w w1) (f : q → w.heap[g]? = some o := by intro h_; (with_reducible repeat (first | refine blk_drewN ?_ _ | refine blk_drew ?_ | refine blk_alloc ?_ _)); exact h_) : w1.heap[g]? = some o := blk_below (f h) hb
theorem bl {w : World} {g : Nat} {o : Obj} {q : Prop} (h : q) (f : q → w.heap[g]? = some o := by intro h_; (with_reducible repeat (first | refine blk_drewN ?_ _ | refine blk_drew ?_ | refine blk_alloc ?_ _)); exact h_) : g < w.heap.size := blk_lt (f h)
theorem pq {P Q : Prop} (h : P) (f : P → Q := by intro h_; (try dsimp only at h_); (try dsimp only); simp only [h_, ne_eq, not_false_eq_true]) : Q := f h
theorem pk {P Q : Nat → Prop} (f : ∀ k_, P k_ → Q k_ := by intro k_ h_; (try dsimp only at h_); (try dsimp only); (repeat' (apply And.intro)) <;> simp only [h_, ne_eq, not_false_eq_true, and_self]) : ∀ k_, P k_ → Q k_ := f
theorem q0 {p : Prop} (h : p) : Aside0 p := ⟨h⟩
set_option maxHeartbeats 8000000 in
set_option maxRecDepth 100000 in
theorem laws_FnExactWorkOf.calls_true (k : Nat) (A0 : Option Addr) (c0 : Nat) (l0 : List Int) (A1_0 : Option Addr) (c1_0 : Nat) (l1_0 : List Int) (a1_1 : Int) (a2 : Int) (w : World) (hr0 : Kd.C (Kd.int .i64) w A0 l0.length l0) (hc0 : l0.length ≤ c0) (hr1_0 : Kd.C (Kd.int .i64) w A1_0 l1_0.length l1_0) (hc1_0 : l1_0.length ≤ c1_0) (h : laws_FnExactWorkOf.f k l0 l1_0 a1_1 a2 = some true) :
 Calls Try.prog 4 #[.slice A0 l0.length c0, .agg #[.slice A1_0 l1_0.length c1_0, .int .i64 a1_1], .int .i64 a2] w fun e w' => e = .returned (.bool true) ∧ Below w.heap.size w w' := by
 have hu31 := Try.underlying31
 have hu35 := Try.underlying35
 have HR0 := q0 hr0
 have HC0 := q0 hc0
 clear hr0 hc0
 have HR1_0 := q0 hr1_0
 have HC1_0 := q0 hc1_0
 clear hr1_0 hc1_0
 have HB := q0 (Below.refl w.heap.size w)
 have H : (if (l0.length : Int) > 1048576 then (some true) else ((laws_szFollower.f l1_0 a1_1 1048576).bind fun t148 => (if t148 < 0 then (some true) else ((laws_toIntS.f k l0).bind fun t149 => ((laws_toFollower.f k l1_0 a1_1).bind fun bt152 => ((spec_WorkOf.f k t149 bt152.1 bt152.2 a2).bind fun t156 => ((laws_toIntS.f k l0).bind fun t157 => ((laws_toFollower.f k l1_0 a1_1).bind fun bt160 => ((impl_WorkOf.f k t157 bt160.1 bt160.2 a2).bind fun t165 => (if t165 = t156 then ((laws_toIntS.f k l0).bind fun t166 => ((laws_eqIntS.f k t157 t166).bind fun t169 => (if t169 = true then ((laws_toFollower.f k l1_0 a1_1).bind fun bt170 => ((laws_eqFollower.f k bt160.1 bt160.2 bt170.1 bt170.2).bind fun t174 => (if t174 = true then (some true) else (some false)))) else (some false)))) else (some false))))))))))) = some true := h
 clear h
 by_cases c4 : (l0.length : Int) > 1048576
 · rw [if_pos c4] at H
   have c4b0 : decide (1048576 < (l0.length : Int)) = true := decide_eq_true c4
   have c4b1 : decide (1048576 < l0.length) = true := decide_eq_true (by omega)
   clear c4 H
   go_enter Try.func4, Try.ntmps4
   go_wp2_with (first | ((with_reducible refine gate_dst (N := 4) rfl ?_); refine box_event ?hg (N := 4) ?hd (cs := #[.slice A1_0 l1_0.length c1_0, .int .i64 a1_1]) (t := 31) ?hr ?_; (case hd => rfl); (case hg => rfl); (case hr => first | (go_simp; done) | (go_simp; rfl)); intro q9 hg w5 hbox hb; have n0_ := q0 (below_step (qp) hb); have n1_ := q0 (hbox); have n2_ := q0 ((by rw [hg]; exact (below_size (qp)) : w.heap.size ≤ q9)); have n3_ := q0 ((by rw [hg]; exact (below_size (qp)) : w.heap.size ≤ q9)); clear HB; have HB := n0_; have q1 := n1_; have GW147 := n2_; have qq := n3_; clear n0_ n1_ n2_ n3_; clear hb hbox hg))
   go_ret
   exact ⟨by first | rfl | (simp [errW_none, errW_some] <;> rfl) | (simp [*, errW_none, errW_some] <;> rfl), by exact (q7)⟩
 · rw [if_neg c4] at H
   have c4b0 : decide (1048576 < (l0.length : Int)) = false := decide_eq_false c4
   have c4b1 : decide (1048576 < l0.length) = false := decide_eq_false (by omega)
   clear c4
   replace H := Option.bind_eq_some_iff.mp H
   obtain ⟨t148, A60, H⟩ := H
   try dsimp only at H
   have A6 := q0 A60
   clear A60
   by_cases c7 : t148 < 0
   · rw [if_pos c7] at H
     have c7b0 : decide (t148 < 0) = true := decide_eq_true c7
     clear c7 H
     go_enter Try.func4, Try.ntmps4
     go_wp2_with (first | ((with_reducible refine gate_dst (N := 4) rfl ?_); refine box_event ?hg (N := 4) ?hd (cs := #[.slice A1_0 l1_0.length c1_0, .int .i64 a1_1]) (t := 31) ?hr ?_; (case hd => rfl); (case hg => rfl); (case hr => first | (go_simp; done) | (go_simp; rfl)); intro q9 hg w8 hbox hb; have n0_ := q0 (below_step (qp) hb); have n1_ := q0 (hbox); have n2_ := q0 ((by rw [hg]; exact (below_size (qp)) : w.heap.size ≤ q9)); have n3_ := q0 ((by rw [hg]; exact (below_size (qp)) : w.heap.size ≤ q9)); clear HB; have HB := n0_; have q1 := n1_; have GW147 := n2_; have qq := n3_; clear n0_ n1_ n2_ n3_; clear hb hbox hg; have hcz9_0 : w8.cell? ⟨q9, 0, none⟩ = some (.slice A1_0 l1_0.length c1_0) := (blk_cell q1.out 0).trans rfl; have hcz9_1 : w8.cell? ⟨q9, 1, none⟩ = some (.int .i64 a1_1) := (blk_cell q1.out 1).trans rfl; have hfz9_0 := blk_frozen q1.out 0; have hfz9_1 := blk_frozen q1.out 1) | ((with_reducible refine gate_callee (f := 20) rfl ?_); refine goesL_ (some 17) rfl rfl Try.func20 (by kernel_rfl) rfl #[.agg #[.slice A1_0 l1_0.length c1_0, .int .i64 a1_1], .int .i64 1048576] rfl ma ?_; (with_reducible refine (laws_szFollower.calls _ _ l1_0 a1_1 1048576 t148 _ ?side1 ?side2 A6.out).mono ?_); (case side1 => exact ca (Kd.C_below HR1_0.out HB.out)); (case side2 => exact HC1_0.out); rintro e w10 ⟨rfl, hb⟩; refine ⟨_, rfl, ?_⟩; have n0_ := q0 (bb q1.out hb); have n1_ := q0 (below_step (q7) hb); clear q1; clear HB; have q1 := n0_; have HB := n1_; clear n0_ n1_; (try clear hb); (try clear hb2); (try clear hk); (try clear hi)))
     go_ret
     exact ⟨by first | rfl | (simp [errW_none, errW_some] <;> rfl) | (simp [*, errW_none, errW_some] <;> rfl), by exact (q7)⟩
   · rw [if_neg c7] at H
     have c7b0 : decide (t148 < 0) = false := decide_eq_false c7
     clear c7
     replace H := Option.bind_eq_some_iff.mp H
     obtain ⟨t149, A110, H⟩ := H
     try dsimp only at H
     have A11 := q0 A110
     clear A110
     replace H := Option.bind_eq_some_iff.mp H
     obtain ⟨⟨t152, t155⟩, A120, H⟩ := H
     try dsimp only at H
     have A12 := q0 A120
     clear A120
     replace H := Option.bind_eq_some_iff.mp H
     obtain ⟨t156, A130, H⟩ := H
     try dsimp only at H
     have A13 := q0 A130
     clear A130
     replace H := Option.bind_eq_some_iff.mp H
     obtain ⟨t157, A140, H⟩ := H
     try dsimp only at H
     have A14 := q0 A140
     clear A140
     replace H := Option.bind_eq_some_iff.mp H
     obtain ⟨⟨t160, t163⟩, A150, H⟩ := H
     try dsimp only at H
     have A15 := q0 A150
     clear A150
     replace H := Option.bind_eq_some_iff.mp H
     obtain ⟨t165, A160, H⟩ := H
     try dsimp only at H
     have A16 := q0 A160
     clear A160
     by_cases c17 : t165 = t156
     · rw [if_pos c17] at H
       have c17b0 : (t165 == t156) = true := beq_iff_eq.mpr c17
       have c17b1 : (t165 != t156) = false := bne_eq_false_iff_eq.mpr c17
       clear c17
       replace H := Option.bind_eq_some_iff.mp H
       obtain ⟨t166, A180, H⟩ := H
       try dsimp only at H
       have A18 := q0 A180
       clear A180
       replace H := Option.bind_eq_some_iff.mp H
       obtain ⟨t169, A190, H⟩ := H
       try dsimp only at H
       have A19 := q0 A190
       clear A190
       by_cases c20 : t169 = true
       · subst c20
         have H1 := H; rw [if_pos rfl] at H1
         clear H
         have H := H1
         clear H1
         replace H := Option.bind_eq_some_iff.mp H
         obtain ⟨⟨t170, t173⟩, A210, H⟩ := H
         try dsimp only at H
         have A21 := q0 A210
         clear A210
         replace H := Option.bind_eq_some_iff.mp H
         obtain ⟨t174, A220, H⟩ := H
         try dsimp only at H
         have A22 := q0 A220
         clear A220
         by_cases c23 : t174 = true
         · subst c23
           have H1 : (some true) = some true := rfl
           clear H
           have H := H1
           clear H1 H
           go_enter Try.func4, Try.ntmps4
           try go_wp2_with (first | ((with_reducible refine gate_dst (N := 4) rfl ?_); refine box_event ?hg (N := 4) ?hd (cs := #[.slice A1_0 l1_0.length c1_0, .int .i64 a1_1]) (t := 31) ?hr ?_; (case hd => rfl); (case hg => rfl); (case hr => first | (go_simp; done) | (go_simp; rfl)); intro q9 hg w24 hbox hb; have n0_ := q0 (below_step (qp) hb); have n1_ := q0 (hbox); have n2_ := q0 ((by rw [hg]; exact (below_size (qp)) : w.heap.size ≤ q9)); have n3_ := q0 ((by rw [hg]; exact (below_size (qp)) : w.heap.size ≤ q9)); clear HB; have HB := n0_; have q1 := n1_; have GW147 := n2_; have qq := n3_; clear n0_ n1_ n2_ n3_; clear hb hbox hg; have hcz25_0 : w24.cell? ⟨q9, 0, none⟩ = some (.slice A1_0 l1_0.length c1_0) := (blk_cell q1.out 0).trans rfl; have hcz25_1 : w24.cell? ⟨q9, 1, none⟩ = some (.int .i64 a1_1) := (blk_cell q1.out 1).trans rfl; have hfz25_0 := blk_frozen q1.out 0; have hfz25_1 := blk_frozen q1.out 1) | ((with_reducible refine gate_callee (f := 20) rfl ?_); refine goesL_ (some 17) rfl rfl Try.func20 (by kernel_rfl) rfl #[.agg #[.slice A1_0 l1_0.length c1_0, .int .i64 a1_1], .int .i64 1048576] rfl ma ?_; (with_reducible refine (laws_szFollower.calls _ _ l1_0 a1_1 1048576 t148 _ ?side1 ?side2 A6.out).mono ?_); (case side1 => exact ca (Kd.C_below HR1_0.out HB.out)); (case side2 => exact HC1_0.out); rintro e w26 ⟨rfl, hb⟩; refine ⟨_, rfl, ?_⟩; have n0_ := q0 (bb q1.out hb); have n1_ := q0 (below_step (q7) hb); clear q1; clear HB; have q1 := n0_; have HB := n1_; clear n0_ n1_; (try clear hb); (try clear hb2); (try clear hk); (try clear hi)))
           have n0_ := q0 (blk_drew q1.out); have n1_ := q0 (below_drew1 HB.out); clear q1 HB; have q1 := n0_; have HB := n1_; clear n0_ n1_
           refine start_ (n := 7) (S := fun w' => w'.cell? ⟨q9, 0, none⟩ = some (.slice A1_0 l1_0.length c1_0) ∧ w'.cell? ⟨q9, 1, none⟩ = some (.int .i64 a1_1)) (ds := []) #[false, false, false, false, false, false, false] (by kernel_rfl) rfl rfl ⟨(blk_cell q1.out 0).trans rfl, (blk_cell q1.out 1).trans rfl⟩ (fun hHeld => ?_)
           generalize w26.drew = w27 at q1 HB hHeld ⊢
           refine pure_ (i := 0) (N := some 20) (v := ?_) (a' := ?_) #[true, false, false, false, false, false, false] rfl rfl (by kernel_rfl) (fun _ _ _ h => h) (Or.inl ⟨by rfl, ?_⟩) ?_ ?_
           rotate_left
           · intro w'
             go_simp
             with_reducible rfl
           rotate_left
           · simp only [Act.put, List.setIfInBounds_toArray, List.set_cons_zero, List.set_cons_succ, i64_w, i32_w]
             rfl
           refine pure_ (i := 4) (N := some 24) (v := ?_) (a' := ?_) #[true, false, false, false, true, false, false] rfl rfl (by kernel_rfl) (fun _ _ _ h => h) (Or.inl ⟨by rfl, ?_⟩) ?_ ?_
           rotate_left
           · intro w'
             go_simp
             with_reducible rfl
           rotate_left
           · simp only [Act.put, List.setIfInBounds_toArray, List.set_cons_zero, List.set_cons_succ, i64_w, i32_w]
             rfl
           refine take_ (i := 2) (N := some 22) (v := ?_) (a' := ?_) #[true, false, true, false, true, false, false] rfl rfl (by kernel_rfl) (fun _ _ _ h => h) (Or.inl ⟨by rfl, ?_⟩) hHeld ?_ ?_
           rotate_left
           · rintro w' ⟨s0, s1⟩
             go_simp
             with_reducible rfl
           rotate_left
           · simp only [Act.put, List.setIfInBounds_toArray, List.set_cons_zero, List.set_cons_succ, i64_w, i32_w]
             rfl
           refine one_ (i := 1) (N := some 21) #[true, true, true, false, true, false, false] rfl rfl (by kernel_rfl) (by decide) (fun K hK => ?_)
           refine goes_ Try.func22 (by kernel_rfl) rfl #[.slice A0 l0.length c0] (by rfl) rfl rfl ma ?_
           with_reducible refine (laws_toIntS.calls k _ _ l0 t149 _ ?side1 ?side2 A11.out).mono ?_
           (case side1 => exact ca (Kd.C_below HR0.out HB.out))
           (case side2 => exact HC0.out)
           rintro e w28 ⟨v150, rfl, ho0, hb⟩
           refine ⟨_, rfl, ?_⟩
           have n0_ := q0 (Kd.R_lower ho0 (below_size (q7))); have n1_ := q0 (bb q1.out hb); have n2_ := q0 (below_step (q7) hb); clear q1 HB; have q2 := n0_; have q1 := n1_; have HB := n2_; clear n0_ n1_ n2_; (try clear hb); (try clear hb2); (try clear hk); (try clear hi); (try clear ho0)
           refine hK.out _ _ ⟨(blk_cell q1.out 0).trans rfl, (blk_cell q1.out 1).trans rfl⟩ (fun hHeld => ?_)
           clear hK K
           refine norm_ (a' := ?_) ?_ ?_
           rotate_left
           · show Act.put _ (some 21) _ = _
             simp only [Act.put, List.setIfInBounds_toArray, List.set_cons_zero, List.set_cons_succ, i64_w, i32_w]
             rfl
           refine one_ (i := 3) (N := some 23) #[true, true, true, true, true, false, false] rfl rfl (by kernel_rfl) (by decide) (fun K hK => ?_)
           refine goes_ Try.func23 (by kernel_rfl) rfl #[.agg #[.slice A1_0 l1_0.length c1_0, .int .i64 a1_1]] (by rfl) rfl rfl ma ?_
           with_reducible refine (laws_toFollower.calls k _ _ l1_0 a1_1 t152 t155 _ ?side1 ?side2 A12.out).mono ?_
           (case side1 => exact ca (Kd.C_below HR1_0.out HB.out))
           (case side2 => exact HC1_0.out)
           rintro e w29 ⟨v153, rfl, ho0, hb⟩
           refine ⟨_, rfl, ?_⟩
           have n0_ := q0 (Kd.R_elder' (ra q2.out) (Kd.R_base ho0) hb); have n1_ := q0 (Kd.R_lower (Kd.R_new' ho0 (Kd.R_lt (ra q2.out))) (below_size (q7))); have n2_ := q0 (bb q1.out hb); have n3_ := q0 (below_step (q7) hb); clear q2 q1 HB; have q2 := n0_; have q3 := n1_; have q1 := n2_; have HB := n3_; clear n0_ n1_ n2_ n3_; (try clear hb); (try clear hb2); (try clear hk); (try clear hi); (try clear ho0)
           obtain ⟨qh, qi, eo30⟩ := Kd.R_slice q2.out
           (first | subst eo30 | (injection eo30 with f1_ f2_ f3_; have f4_ := f1_.symm; have f5_ := f3_.symm; clear f1_ f2_ f3_; subst f4_; subst f5_))
           obtain ⟨qj, qk, eo31⟩ := Kd.R_slice q3.out
           (first | subst eo31 | (injection eo31 with f1_ f2_ f3_; have f4_ := f1_.symm; have f5_ := f3_.symm; clear f1_ f2_ f3_; subst f4_; subst f5_))
           refine hK.out _ _ ⟨(blk_cell q1.out 0).trans rfl, (blk_cell q1.out 1).trans rfl⟩ (fun hHeld => ?_)
           clear hK K
           refine norm_ (a' := ?_) ?_ ?_
           rotate_left
           · show Act.put _ (some 23) _ = _
             simp only [Act.put, List.setIfInBounds_toArray, List.set_cons_zero, List.set_cons_succ, i64_w, i32_w]
             rfl
           refine one_ (i := 5) (N := some 25) #[true, true, true, true, true, true, false] rfl rfl (by kernel_rfl) (by decide) (fun K hK => ?_)
           refine goes_ Try.func21 (by kernel_rfl) rfl #[.slice qh t149.length qi, .agg #[.slice qj t152.length qk, .int .i64 t155], .int .i64 a2] (by rfl) rfl rfl ma ?_
           with_reducible refine (spec_WorkOf.calls k _ _ t149 _ _ t152 t155 a2 t156 _ ?side1 ?side2 ?side3 ?side4 A13.out).mono ?_
           (case side1 => exact ca (Kd.R_reads' q2.out).2.2)
           (case side2 => exact (Kd.R_reads' q2.out).2.1)
           (case side3 => exact ca (Kd.R_reads' q3.out).2.2)
           (case side4 => exact (Kd.R_reads' q3.out).2.1)
           rintro e w32 ⟨rfl, hb⟩
           refine ⟨_, rfl, ?_⟩
           have n0_ := q0 (Kd.R_below (ra q2.out) hb); have n1_ := q0 (Kd.R_below (ra q3.out) hb); have n2_ := q0 (bb q1.out hb); have n3_ := q0 (below_step (q7) hb); clear q2 q3 q1 HB; have q2 := n0_; have q3 := n1_; have q1 := n2_; have HB := n3_; clear n0_ n1_ n2_ n3_; (try clear hb); (try clear hb2); (try clear hk); (try clear hi)
           refine hK.out _ _ ⟨(blk_cell q1.out 0).trans rfl, (blk_cell q1.out 1).trans rfl⟩ (fun hHeld => ?_)
           clear hK K
           refine norm_ (a' := ?_) ?_ ?_
           rotate_left
           · show Act.put _ (some 25) _ = _
             simp only [Act.put, List.setIfInBounds_toArray, List.set_cons_zero, List.set_cons_succ, i64_w, i32_w]
             rfl
           refine pure_ (i := 6) (N := some 8) (v := ?_) (a' := ?_) #[true, true, true, true, true, true, true] rfl rfl (by kernel_rfl) (fun _ _ _ h => h) (Or.inl ⟨by rfl, ?_⟩) ?_ ?_
           rotate_left
           · intro w'
             go_simp
             with_reducible rfl
           rotate_left
           · simp only [Act.put, List.setIfInBounds_toArray, List.set_cons_zero, List.set_cons_succ, i64_w, i32_w]
             rfl
           refine done_ (by kernel_rfl) ?_
           try go_wp2_with (first | ((with_reducible refine gate_callee (f := 22) rfl ?_); refine goesL_ (some 27) rfl rfl Try.func22 (by kernel_rfl) rfl #[.slice A0 l0.length c0] rfl ma ?_; (with_reducible refine (laws_toIntS.calls k _ _ l0 t157 _ ?side1 ?side2 A14.out).mono ?_); (case side1 => exact ca (Kd.C_below HR0.out HB.out)); (case side2 => exact HC0.out); rintro e w33 ⟨v158, rfl, ho0, hb⟩; refine ⟨_, rfl, ?_⟩; have n0_ := q0 (Kd.R_elder' (ra q2.out) (Kd.R_base ho0) hb); have n1_ := q0 (Kd.R_elder' (ra q3.out) (Kd.R_base ho0) hb); have n2_ := q0 (Kd.R_lower (Kd.R_new' (Kd.R_new' ho0 (Kd.R_lt (ra q2.out))) (Kd.R_lt (ra q3.out))) (below_size (q7))); have n3_ := q0 (bb q1.out hb); have n4_ := q0 (below_step (q7) hb); clear q2; clear q3; clear q1; clear HB; have q2 := n0_; have q3 := n1_; have q5 := n2_; have q1 := n3_; have HB := n4_; clear n0_ n1_ n2_ n3_ n4_; (try clear hb); (try clear hb2); (try clear hk); (try clear hi); (try clear ho0); have hcz34_0 : w33.cell? ⟨q9, 0, none⟩ = some (.slice A1_0 l1_0.length c1_0) := (blk_cell q1.out 0).trans rfl; have hcz34_1 : w33.cell? ⟨q9, 1, none⟩ = some (.int .i64 a1_1) := (blk_cell q1.out 1).trans rfl; have hfz34_0 := blk_frozen q1.out 0; have hfz34_1 := blk_frozen q1.out 1) | ((with_reducible refine gate_callee (f := 23) rfl ?_); refine goesL_ (some 29) rfl rfl Try.func23 (by kernel_rfl) rfl #[.agg #[.slice A1_0 l1_0.length c1_0, .int .i64 a1_1]] rfl ma ?_; (with_reducible refine (laws_toFollower.calls k _ _ l1_0 a1_1 t160 t163 _ ?side1 ?side2 A15.out).mono ?_); (case side1 => exact ca (Kd.C_below HR1_0.out HB.out)); (case side2 => exact HC1_0.out); rintro e w35 ⟨v161, rfl, ho0, hb⟩; refine ⟨_, rfl, ?_⟩; have n0_ := q0 (Kd.R_elder' (ra q2.out) (Kd.R_base ho0) hb); have n1_ := q0 (Kd.R_elder' (ra q3.out) (Kd.R_base ho0) hb); have n2_ := q0 (Kd.R_elder' (ra q5.out) (Kd.R_base ho0) hb); have n3_ := q0 (Kd.R_lower (Kd.R_new' (Kd.R_new' (Kd.R_new' ho0 (Kd.R_lt (ra q2.out))) (Kd.R_lt (ra q3.out))) (Kd.R_lt (ra q5.out))) (below_size (q7))); have n4_ := q0 (bb q1.out hb); have n5_ := q0 (below_step (q7) hb); clear q2; clear q3; clear q5; clear q1; clear HB; have q2 := n0_; have q3 := n1_; have q5 := n2_; have q6 := n3_; have q1 := n4_; have HB := n5_; clear n0_ n1_ n2_ n3_ n4_ n5_; (try clear hb); (try clear hb2); (try clear hk); (try clear hi); (try clear ho0)) | ((with_reducible refine gate_dst (N := 10) rfl ?_); refine box_event ?hg (N := 10) ?hd (cs := #[.slice none 0 0, .int .i64 0]) (t := 35) ?hr ?_; (case hd => rfl); (case hg => rfl); (case hr => first | (go_simp; done) | (go_simp; rfl)); intro qa hg w36 hbox hb; have n0_ := q0 (Kd.R_below (ra q2.out) hb); have n1_ := q0 (Kd.R_below (ra q3.out) hb); have n2_ := q0 (Kd.R_below (ra q5.out) hb); have n3_ := q0 (Kd.R_below (ra q6.out) hb); have n4_ := q0 (bb q1.out hb); have n5_ := q0 (below_step (q7) hb); have n6_ := q0 (hbox); have n7_ := q0 ((by rw [hg]; exact (below_size (q7)) : w.heap.size ≤ qa)); have n8_ := q0 ((by rw [hg]; exact (below_size (q7)) : w.heap.size ≤ qa)); have n9_ := q0 ((by rw [hg]; exact Nat.ne_of_lt (bl q1.out) : q9 ≠ qa)); have n10_ := q0 ((by rw [hg]; exact Nat.ne_of_gt (bl q1.out) : qa ≠ q9)); clear q2; clear q3; clear q5; clear q6; clear q1; clear HB; have q2 := n0_; have q3 := n1_; have q5 := n2_; have q6 := n3_; have q1 := n4_; have HB := n5_; have q4 := n6_; have GW164 := n7_; have qt := n8_; have qe := n9_; have qm := n10_; clear n0_ n1_ n2_ n3_ n4_ n5_ n6_ n7_ n8_ n9_ n10_; clear hb hbox hg; obtain ⟨qd, qc, eo37⟩ := Kd.R_slice q6.out; subst eo37; have hnb38 := qm.out; have hnc38 := qe.out; have hcz39_0 : w36.cell? ⟨qa, 0, none⟩ = some (.slice none 0 0) := (blk_cell q4.out 0).trans rfl; have hcz39_1 : w36.cell? ⟨qa, 1, none⟩ = some (.int .i64 0) := (blk_cell q4.out 1).trans rfl; have hfz39_0 := blk_frozen q4.out 0; have hfz39_1 := blk_frozen q4.out 1; obtain ⟨ql, qg, eo40⟩ := Kd.R_slice q5.out; subst eo40) | ((with_reducible refine gate_callee (f := 24) rfl ?_); refine goesL_ (some 33) rfl rfl Try.func24 (by kernel_rfl) rfl #[.slice ql t157.length qg, .agg #[.slice qd t160.length qc, .int .i64 t163], .int .i64 a2] rfl ma ?_; (with_reducible refine (impl_WorkOf.calls k _ _ t157 _ _ t160 t163 a2 t165 _ ?side1 ?side2 ?side3 ?side4 A16.out).mono ?_); (case side1 => refine (Kd.R_reads' (e := 3) (base := w.heap.size) (ok := fun k_ => (((True ∧ some k_ ≠ (.slice qh t149.length qi : Value).ownBlock) ∧ some k_ ≠ (.slice qj t152.length qk : Value).ownBlock) ∧ some k_ ≠ (.slice qd t160.length qc : Value).ownBlock)) (n := t157.length) (c := qg) ?_).2.2; exact (by refine ra ?_; exact (Kd.R_mono (Kd.R_far (p := ⟨qa, 1, none⟩) (Kd.R_far (p := ⟨qa, 0, none⟩) (Kd.R_types q5.out q4.out (by decide)) (fun _ hk => hk.2) (.slice qd t160.length qc)) (fun _ hk => hk.2) (.int .i64 t163)) (fun _ h_ => h_.1)))); (case side2 => exact (Kd.R_reads' q5.out).2.1); (case side3 => refine (Kd.R_reads' (e := 3) (base := w.heap.size) (ok := fun k_ => (((True ∧ some k_ ≠ (.slice qh t149.length qi : Value).ownBlock) ∧ some k_ ≠ (.slice qj t152.length qk : Value).ownBlock) ∧ some k_ ≠ (.slice ql t157.length qg : Value).ownBlock)) (n := t160.length) (c := qc) ?_).2.2; exact (by refine ra ?_; exact (Kd.R_mono (Kd.R_far (p := ⟨qa, 1, none⟩) (Kd.R_far (p := ⟨qa, 0, none⟩) (Kd.R_types q6.out q4.out (by decide)) (fun _ hk => hk.2) (.slice qd t160.length qc)) (fun _ hk => hk.2) (.int .i64 t163)) (fun _ h_ => h_.1)))); (case side4 => exact (Kd.R_reads' q6.out).2.1); rintro e w41 ⟨rfl, hb⟩; refine ⟨_, rfl, ?_⟩; have n0_ := q0 (Kd.R_below (by refine ra ?_; exact (Kd.R_mono (Kd.R_far (p := ⟨qa, 1, none⟩) (Kd.R_far (p := ⟨qa, 0, none⟩) (Kd.R_types q2.out q4.out (by decide)) (fun _ hk => hk.2) (.slice qd t160.length qc)) (fun _ hk => hk.2) (.int .i64 t163)) (fun _ h_ => h_.1))) hb); have n1_ := q0 (Kd.R_below (by refine ra ?_; exact (Kd.R_mono (Kd.R_far (p := ⟨qa, 1, none⟩) (Kd.R_far (p := ⟨qa, 0, none⟩) (Kd.R_types q3.out q4.out (by decide)) (fun _ hk => hk.2) (.slice qd t160.length qc)) (fun _ hk => hk.2) (.int .i64 t163)) (fun _ h_ => h_.1))) hb); have n2_ := q0 (Kd.R_below (by refine ra ?_; exact (Kd.R_mono (Kd.R_far (p := ⟨qa, 1, none⟩) (Kd.R_far (p := ⟨qa, 0, none⟩) (Kd.R_types q5.out q4.out (by decide)) (fun _ hk => hk.2) (.slice qd t160.length qc)) (fun _ hk => hk.2) (.int .i64 t163)) (fun _ h_ => h_.1))) hb); have n3_ := q0 (Kd.R_below (by refine ra ?_; exact (Kd.R_mono (Kd.R_far (p := ⟨qa, 1, none⟩) (Kd.R_far (p := ⟨qa, 0, none⟩) (Kd.R_types q6.out q4.out (by decide)) (fun _ hk => hk.2) (.slice qd t160.length qc)) (fun _ hk => hk.2) (.int .i64 t163)) (fun _ h_ => h_.1))) hb); have n4_ := q0 (blk_below (g := q9) (o := .cells #[.slice A1_0 l1_0.length c1_0, .int .i64 a1_1] 31 (0, 0)) (by refine ba ?_; refine blk_far ?_ qe.out _; refine ba ?_; refine blk_far ?_ qe.out _; refine ba ?_; exact q1.out) hb); have n5_ := q0 (blk_below (g := qa) (o := .cells #[.slice qd t160.length qc, .int .i64 t163] 35 (0, 0)) (by refine ba ?_; refine blk_put (cs := #[.slice qd t160.length qc, .int .i64 0]) ?_ 1 _ rfl; refine ba ?_; refine blk_put (cs := #[.slice none 0 0, .int .i64 0]) ?_ 0 _ rfl; refine ba ?_; exact q4.out) hb); have n6_ := q0 (below_step (q8) hb); clear q2; clear q3; clear q5; clear q6; clear q1; clear q4; clear HB; have q2 := n0_; have q3 := n1_; have q5 := n2_; have q6 := n3_; have q1 := n4_; have q4 := n5_; have HB := n6_; clear n0_ n1_ n2_ n3_ n4_ n5_ n6_; (try clear hb); (try clear hb2); (try clear hk); (try clear hi)) | ((with_reducible refine gate_callee (f := 22) rfl ?_); refine goesL_ (some 39) rfl rfl Try.func22 (by kernel_rfl) rfl #[.slice A0 l0.length c0] rfl ma ?_; (with_reducible refine (laws_toIntS.calls k _ _ l0 t166 _ ?side1 ?side2 A18.out).mono ?_); (case side1 => exact ca (Kd.C_below HR0.out HB.out)); (case side2 => exact HC0.out); rintro e w42 ⟨v167, rfl, ho0, hb⟩; refine ⟨_, rfl, ?_⟩; have n0_ := q0 (Kd.R_elder' (ra q2.out) (Kd.R_base ho0) hb); have n1_ := q0 (Kd.R_elder' (ra q3.out) (Kd.R_base ho0) hb); have n2_ := q0 (Kd.R_elder' (ra q5.out) (Kd.R_base ho0) hb); have n3_ := q0 (Kd.R_elder' (ra q6.out) (Kd.R_base ho0) hb); have n4_ := q0 (Kd.R_lower (Kd.R_new' (Kd.R_new' (Kd.R_new' (Kd.R_new' ho0 (Kd.R_lt (ra q2.out))) (Kd.R_lt (ra q3.out))) (Kd.R_lt (ra q5.out))) (Kd.R_lt (ra q6.out))) (below_size (q8))); have n5_ := q0 (bb q1.out hb); have n6_ := q0 (bb q4.out hb); have n7_ := q0 (below_step (q8) hb); clear q2; clear q3; clear q5; clear q6; clear q1; clear q4; clear HB; have q2 := n0_; have q3 := n1_; have q5 := n2_; have q6 := n3_; have qb := n4_; have q1 := n5_; have q4 := n6_; have HB := n7_; clear n0_ n1_ n2_ n3_ n4_ n5_ n6_ n7_; (try clear hb); (try clear hb2); (try clear hk); (try clear hi); (try clear ho0); obtain ⟨qn, qo, eo43⟩ := Kd.R_slice qb.out; subst eo43) | ((with_reducible refine gate_callee (f := 25) rfl ?_); refine goesL_ (some 40) rfl rfl Try.func25 (by kernel_rfl) rfl #[.slice ql t157.length qg, .slice qn t166.length qo] rfl ma ?_; (with_reducible refine (laws_eqIntS.calls k _ _ t157 _ _ t166 true _ ?side1 ?side2 ?side3 ?side4 A19.out).mono ?_); (case side1 => exact ca (Kd.R_reads' q5.out).2.2); (case side2 => exact (Kd.R_reads' q5.out).2.1); (case side3 => exact ca (Kd.R_reads' qb.out).2.2); (case side4 => exact (Kd.R_reads' qb.out).2.1); rintro e w' ⟨rfl, ⟨nd, rfl⟩⟩; refine ⟨_, rfl, ?_⟩))
           (try (rw [drewN_self w42]; generalize hq_ : World.drewN w42 _ = w42; have n0_ : Aside0 (Kd.R (Kd.int .i64) 3 w42 w.heap.size (fun k_ => some k_ ≠ (.slice qj t152.length qk : Value).ownBlock ∧ some k_ ≠ (.slice ql t157.length qg : Value).ownBlock ∧ some k_ ≠ (.slice qd t160.length qc : Value).ownBlock ∧ some k_ ≠ (.slice qn t166.length qo : Value).ownBlock) (.slice qh t149.length qi) t149) := ⟨by rw [← hq_]; exact (by refine ra ?_; exact Kd.R_mono q2.out (fun _ hk => ⟨hk.1.1.1.2, ⟨hk.1.1.2, ⟨hk.1.2, hk.2⟩⟩⟩))⟩; have n1_ : Aside0 (Kd.R (Kd.int .i64) 3 w42 w.heap.size (fun k_ => some k_ ≠ (.slice qh t149.length qi : Value).ownBlock ∧ some k_ ≠ (.slice ql t157.length qg : Value).ownBlock ∧ some k_ ≠ (.slice qd t160.length qc : Value).ownBlock ∧ some k_ ≠ (.slice qn t166.length qo : Value).ownBlock) (.slice qj t152.length qk) t152) := ⟨by rw [← hq_]; exact (by refine ra ?_; exact Kd.R_mono q3.out (fun _ hk => ⟨hk.1.1.1.2, ⟨hk.1.1.2, ⟨hk.1.2, hk.2⟩⟩⟩))⟩; have n2_ : Aside0 (Kd.R (Kd.int .i64) 3 w42 w.heap.size (fun k_ => some k_ ≠ (.slice qh t149.length qi : Value).ownBlock ∧ some k_ ≠ (.slice qj t152.length qk : Value).ownBlock ∧ some k_ ≠ (.slice qd t160.length qc : Value).ownBlock ∧ some k_ ≠ (.slice qn t166.length qo : Value).ownBlock) (.slice ql t157.length qg) t157) := ⟨by rw [← hq_]; exact (by refine ra ?_; exact Kd.R_mono q5.out (fun _ hk => ⟨hk.1.1.1.2, ⟨hk.1.1.2, ⟨hk.1.2, hk.2⟩⟩⟩))⟩; have n3_ : Aside0 (Kd.R (Kd.int .i64) 3 w42 w.heap.size (fun k_ => some k_ ≠ (.slice qh t149.length qi : Value).ownBlock ∧ some k_ ≠ (.slice qj t152.length qk : Value).ownBlock ∧ some k_ ≠ (.slice ql t157.length qg : Value).ownBlock ∧ some k_ ≠ (.slice qn t166.length qo : Value).ownBlock) (.slice qd t160.length qc) t160) := ⟨by rw [← hq_]; exact (by refine ra ?_; exact Kd.R_mono q6.out (fun _ hk => ⟨hk.1.1.1.2, ⟨hk.1.1.2, ⟨hk.1.2, hk.2⟩⟩⟩))⟩; have n4_ : Aside0 (Kd.R (Kd.int .i64) 3 w42 w.heap.size (fun k_ => some k_ ≠ (.slice qh t149.length qi : Value).ownBlock ∧ some k_ ≠ (.slice qj t152.length qk : Value).ownBlock ∧ some k_ ≠ (.slice ql t157.length qg : Value).ownBlock ∧ some k_ ≠ (.slice qd t160.length qc : Value).ownBlock) (.slice qn t166.length qo) t166) := ⟨by rw [← hq_]; exact (by refine ra ?_; exact Kd.R_mono qb.out (fun _ hk => ⟨hk.1.1.1.2, ⟨hk.1.1.2, ⟨hk.1.2, hk.2⟩⟩⟩))⟩; have n5_ : Aside0 (w42.heap[q9]? = some (.cells #[.slice A1_0 l1_0.length c1_0, .int .i64 a1_1] 31 (0, 0))) := ⟨by rw [← hq_]; exact (ba q1.out)⟩; have n6_ : Aside0 (w42.heap[qa]? = some (.cells #[.slice qd t160.length qc, .int .i64 t163] 35 (0, 0))) := ⟨by rw [← hq_]; exact (ba q4.out)⟩; have n7_ : Aside0 (Below w.heap.size w w42) := ⟨by rw [← hq_]; exact (q8)⟩; clear q2 q3 q5 q6 qb q1 q4 HB hq_; have q2 := n0_; have q3 := n1_; have q5 := n2_; have q6 := n3_; have qb := n4_; have q1 := n5_; have q4 := n6_; have HB := n7_; clear n0_ n1_ n2_ n3_ n4_ n5_ n6_ n7_))
           have n0_ := q0 (Kd.R_drew q2.out); have n1_ := q0 (Kd.R_drew q3.out); have n2_ := q0 (Kd.R_drew q5.out); have n3_ := q0 (Kd.R_drew q6.out); have n4_ := q0 (Kd.R_drew qb.out); have n5_ := q0 (blk_drew q1.out); have n6_ := q0 (blk_drew q4.out); have n7_ := q0 (below_drew1 HB.out); clear q2 q3 q5 q6 qb q1 q4 HB; have q2 := n0_; have q3 := n1_; have q5 := n2_; have q6 := n3_; have qb := n4_; have q1 := n5_; have q4 := n6_; have HB := n7_; clear n0_ n1_ n2_ n3_ n4_ n5_ n6_ n7_
           refine start_ (n := 5) (S := fun w' => w'.cell? ⟨qa, 0, none⟩ = some (.slice qd t160.length qc) ∧ w'.cell? ⟨qa, 1, none⟩ = some (.int .i64 t163) ∧ w'.cell? ⟨q9, 0, none⟩ = some (.slice A1_0 l1_0.length c1_0) ∧ w'.cell? ⟨q9, 1, none⟩ = some (.int .i64 a1_1)) (ds := []) #[false, false, false, false, false] (by kernel_rfl) rfl rfl ⟨(blk_cell q4.out 0).trans rfl, (blk_cell q4.out 1).trans rfl, (blk_cell q1.out 0).trans rfl, (blk_cell q1.out 1).trans rfl⟩ (fun hHeld => ?_)
           generalize w42.drew = w44 at q2 q3 q5 q6 qb q1 q4 HB hHeld ⊢
           refine take_ (i := 0) (N := some 42) (v := ?_) (a' := ?_) #[true, false, false, false, false] rfl rfl (by kernel_rfl) (fun _ _ _ h => h) (Or.inl ⟨by rfl, ?_⟩) hHeld ?_ ?_
           rotate_left
           · rintro w' ⟨s0, s1, s2, s3⟩
             go_simp
             with_reducible rfl
           rotate_left
           · simp only [Act.put, List.setIfInBounds_toArray, List.set_cons_zero, List.set_cons_succ, i64_w, i32_w]
             rfl
           refine take_ (i := 1) (N := some 43) (v := ?_) (a' := ?_) #[true, true, false, false, false] rfl rfl (by kernel_rfl) (fun _ _ _ h => h) (Or.inl ⟨by rfl, ?_⟩) hHeld ?_ ?_
           rotate_left
           · rintro w' ⟨s0, s1, s2, s3⟩
             go_simp
             with_reducible rfl
           rotate_left
           · simp only [Act.put, List.setIfInBounds_toArray, List.set_cons_zero, List.set_cons_succ, i64_w, i32_w]
             rfl
           refine one_ (i := 2) (N := some 44) #[true, true, true, false, false] rfl rfl (by kernel_rfl) (by decide) (fun K hK => ?_)
           refine goes_ Try.func23 (by kernel_rfl) rfl #[.agg #[.slice A1_0 l1_0.length c1_0, .int .i64 a1_1]] (by rfl) rfl rfl ma ?_
           with_reducible refine (laws_toFollower.calls k _ _ l1_0 a1_1 t170 t173 _ ?side1 ?side2 A21.out).mono ?_
           (case side1 => exact ca (Kd.C_below HR1_0.out HB.out))
           (case side2 => exact HC1_0.out)
           rintro e w45 ⟨v171, rfl, ho0, hb⟩
           refine ⟨_, rfl, ?_⟩
           have n0_ := q0 (Kd.R_elder' (ra q2.out) (Kd.R_base ho0) hb); have n1_ := q0 (Kd.R_elder' (ra q3.out) (Kd.R_base ho0) hb); have n2_ := q0 (Kd.R_elder' (ra q5.out) (Kd.R_base ho0) hb); have n3_ := q0 (Kd.R_elder' (ra q6.out) (Kd.R_base ho0) hb); have n4_ := q0 (Kd.R_elder' (ra qb.out) (Kd.R_base ho0) hb); have n5_ := q0 (Kd.R_lower (Kd.R_new' (Kd.R_new' (Kd.R_new' (Kd.R_new' (Kd.R_new' ho0 (Kd.R_lt (ra q2.out))) (Kd.R_lt (ra q3.out))) (Kd.R_lt (ra q5.out))) (Kd.R_lt (ra q6.out))) (Kd.R_lt (ra qb.out))) (below_size (q8))); have n6_ := q0 (bb q1.out hb); have n7_ := q0 (bb q4.out hb); have n8_ := q0 (below_step (q8) hb); clear q2 q3 q5 q6 qb q1 q4 HB; have q2 := n0_; have q3 := n1_; have q5 := n2_; have q6 := n3_; have qb := n4_; have qf := n5_; have q1 := n6_; have q4 := n7_; have HB := n8_; clear n0_ n1_ n2_ n3_ n4_ n5_ n6_ n7_ n8_; (try clear hb); (try clear hb2); (try clear hk); (try clear hi); (try clear ho0)
           obtain ⟨qr, qs, eo46⟩ := Kd.R_slice qf.out
           (first | subst eo46 | (injection eo46 with f1_ f2_ f3_; have f4_ := f1_.symm; have f5_ := f3_.symm; clear f1_ f2_ f3_; subst f4_; subst f5_))
           refine hK.out _ _ ⟨(blk_cell q4.out 0).trans rfl, (blk_cell q4.out 1).trans rfl, (blk_cell q1.out 0).trans rfl, (blk_cell q1.out 1).trans rfl⟩ (fun hHeld => ?_)
           clear hK K
           refine norm_ (a' := ?_) ?_ ?_
           rotate_left
           · show Act.put _ (some 44) _ = _
             simp only [Act.put, List.setIfInBounds_toArray, List.set_cons_zero, List.set_cons_succ, i64_w, i32_w]
             rfl
           refine one_ (i := 3) (N := some 45) #[true, true, true, true, false] rfl rfl (by kernel_rfl) (by decide) (fun K hK => ?_)
           refine goes_ Try.func26 (by kernel_rfl) rfl #[.agg #[.slice qd t160.length qc, .int .i64 t163], .agg #[.slice qr t170.length qs, .int .i64 t173]] (by rfl) rfl rfl ma ?_
           with_reducible refine (laws_eqFollower.calls k _ _ t160 t163 _ _ t170 t173 true _ ?side1 ?side2 ?side3 ?side4 A22.out).mono ?_
           (case side1 => exact ca (Kd.R_reads' q6.out).2.2)
           (case side2 => exact (Kd.R_reads' q6.out).2.1)
           (case side3 => exact ca (Kd.R_reads' qf.out).2.2)
           (case side4 => exact (Kd.R_reads' qf.out).2.1)
           rintro e w47 ⟨rfl, hb⟩
           refine ⟨_, rfl, ?_⟩
           have n0_ := q0 (Kd.R_below (ra q2.out) hb); have n1_ := q0 (Kd.R_below (ra q3.out) hb); have n2_ := q0 (Kd.R_below (ra q5.out) hb); have n3_ := q0 (Kd.R_below (ra q6.out) hb); have n4_ := q0 (Kd.R_below (ra qb.out) hb); have n5_ := q0 (Kd.R_below (ra qf.out) hb); have n6_ := q0 (bb q1.out hb); have n7_ := q0 (bb q4.out hb); have n8_ := q0 (below_step (q8) hb); clear q2 q3 q5 q6 qb qf q1 q4 HB; have q2 := n0_; have q3 := n1_; have q5 := n2_; have q6 := n3_; have qb := n4_; have qf := n5_; have q1 := n6_; have q4 := n7_; have HB := n8_; clear n0_ n1_ n2_ n3_ n4_ n5_ n6_ n7_ n8_; (try clear hb); (try clear hb2); (try clear hk); (try clear hi)
           refine hK.out _ _ ⟨(blk_cell q4.out 0).trans rfl, (blk_cell q4.out 1).trans rfl, (blk_cell q1.out 0).trans rfl, (blk_cell q1.out 1).trans rfl⟩ (fun hHeld => ?_)
           clear hK K
           refine norm_ (a' := ?_) ?_ ?_
           rotate_left
           · show Act.put _ (some 45) _ = _
             simp only [Act.put, List.setIfInBounds_toArray, List.set_cons_zero, List.set_cons_succ, i64_w, i32_w]
             rfl
           refine pure_ (i := 4) (N := some 46) (v := ?_) (a' := ?_) #[true, true, true, true, true] rfl rfl (by kernel_rfl) (fun _ _ _ h => h) (Or.inl ⟨by rfl, ?_⟩) ?_ ?_
           rotate_left
           · intro w'
             go_simp
             with_reducible rfl
           rotate_left
           · simp only [Act.put, List.setIfInBounds_toArray, List.set_cons_zero, List.set_cons_succ, i64_w, i32_w]
             rfl
           refine done_ (by kernel_rfl) ?_
           try go_wp2
           go_ret
           exact ⟨by first | rfl | (simp [errW_none, errW_some] <;> rfl) | (simp [*, errW_none, errW_some] <;> rfl), by exact (q8)⟩
         · replace c23 := Bool.eq_false_iff.mpr c23
           subst c23
           have H1 : (some false) = some true := by rw [if_neg (show ¬ (false = true) by decide)] at H; exact H
           clear H
           have H := H1
           clear H1
           exact absurd H (by simp)
       · replace c20 := Bool.eq_false_iff.mpr c20
         subst c20
         have H1 : (some false) = some true := by rw [if_neg (show ¬ (false = true) by decide)] at H; exact H
         clear H
         have H := H1
         clear H1
         exact absurd H (by simp)
     · rw [if_neg c17] at H
       have c17b0 : (t165 == t156) = false := beq_eq_false_iff_ne.mpr c17
       have c17b1 : (t165 != t156) = true := bne_iff_ne.mpr c17
       exact absurd H (by simp)
end Go.Proofs.Ytnaoogkklkhpnaa.PFnExactWorkOf
