-- Written for this claim by a program of this repository (wip/tools/print2.py), out of the translation; Lean checks it.
import Derived.Test.YtlkicjkoejpmbaaPFnCadencesx0
import Derived.Test.YtlkicjkoejpmbaaPFnCadencesx1
import Derived.Test.YtlkicjkoejpmbaaPFnCadencesx4
namespace Go.Proofs.Ytlkicjkoejpmbaa.PFnCadences
open Go.RowKit Go.Proofs.YtlkicjkoejpmbaaW.PrintWords Go.Proofs.YtlkicjkoejpmbaaW.PrintLast Go.Proofs.YtlkicjkoejpmbaaW.PrintMore
attribute [local go_sem] max2_int min2_int max_two min_two max_three min_three max_four min_four   -- for this text's walks alone
set_option linter.unusedVariables false
set_option linter.unusedSimpArgs false
-- SHORT
theorem qc_5 {p : Prop} (f : p := by repeat (first | (with_reducible first | exact HB.out | apply below_alloc | apply pw_below_drewN | apply below_drew1) | exact HB.out)) : p := f
theorem q5_5 {p : Prop} (f : p := by repeat (first | (with_reducible first | exact HB.out | apply below_alloc | apply pw_below_drewN | apply below_drew1 | refine below_set ?_ qf.out) | exact HB.out)) : p := f
theorem qb_5 {p : Prop} (f : p := by repeat (first | (with_reducible first | exact HB.out | apply below_alloc | apply pw_below_drewN | apply below_drew1 | refine below_set ?_ qg.out) | exact HB.out)) : p := f
theorem q1_5 {p : Prop} (f : p := by repeat (first | (with_reducible first | exact HB.out | apply below_alloc | apply pw_below_drewN | apply below_drew1 | refine below_set ?_ qg.out | refine below_set ?_ qh.out) | exact HB.out)) : p := f
theorem q0_5 {p : Prop} (h : p) : Aside0 p := ⟨h⟩
/-! ### spec_TonicOf: function 66 -/
def spec_TonicOf.f (a0 : Int) : Option (Int) := (spec_IsKey.f a0).bind fun t267 => (if t267 = true then ((spec_Mod.f (wrap64 (7 * a0)) 12).bind fun t268 => (some t268)) else (some (-1)))
set_option maxHeartbeats 8000000 in
set_option maxRecDepth 100000 in
theorem spec_TonicOf.calls (a0 : Int) (r : Int) (w : World) (h : spec_TonicOf.f a0 = some r) :
 Calls Try.prog 66 #[.int .i64 a0] w fun e w' => e = .returned (.int .i64 r) ∧ Drawn0 w w' := by
 (have H : ((spec_IsKey.f a0).bind fun t267 => (if t267 = true then ((spec_Mod.f (wrap64 (7 * a0)) 12).bind fun t268 => (some t268)) else (some (-1)))) = some r := h); clear h; replace H := Option.bind_eq_some_iff.mp H; obtain ⟨t267, A20, H⟩ := H; replace H : (if t267 = true then ((spec_Mod.f (wrap64 (7 * a0)) 12).bind fun t268 => (some t268)) else (some (-1))) = some r := H; have A2 := q0_5 A20; clear A20
 by_cases c3 : t267 = true
 · subst c3
   have H1 : ((spec_Mod.f (wrap64 (7 * a0)) 12).bind fun t268 => (some t268)) = some r := by rw [if_pos rfl] at H; exact H
   clear H; have H := H1; clear H1; replace H := Option.bind_eq_some_iff.mp H; obtain ⟨t268, A40, H⟩ := H; replace H : (some t268) = some r := H; have A4 := q0_5 A40; clear A40; obtain rfl := Option.some.inj H; go_enter Try.func66, Try.ntmps66; (go_wp2_with (first | ((with_reducible refine gate_callee (f := 33) rfl ?_); refine goesL_ (some 4) rfl rfl Try.func33 (by kernel_rfl) rfl #[.int .i64 a0] rfl ma ?_; (with_reducible refine (spec_IsKey.calls a0 true _ A2.out).mono ?_); rintro e w' ⟨rfl, ⟨nd, rfl⟩⟩; refine ⟨_, rfl, ?_⟩) | ((with_reducible refine gate_callee (f := 34) rfl ?_); refine goesL_ (some 8) rfl rfl Try.func34 (by kernel_rfl) rfl #[.int .i64 (wrap64 (7 * a0)), .int .i64 12] rfl ma ?_; (with_reducible refine (spec_Mod.calls (wrap64 (7 * a0)) 12 t268 _ A4.out).mono ?_); rintro e w' ⟨rfl, ⟨nd, rfl⟩⟩; refine ⟨_, rfl, ?_⟩))); go_ret; exact ⟨by first | rfl | (simp; done) | (simp [*]; done), by repeat (first | exact Drawn0.refl _ | apply Drawn0.step)⟩
 · replace c3 := Bool.eq_false_iff.mpr c3
   subst c3; (have H1 : (some (-1)) = some r := by rw [if_neg (show ¬ (false = true) by decide)] at H; exact H); clear H; have H := H1; clear H1; obtain rfl := Option.some.inj H; go_enter Try.func66, Try.ntmps66; (go_wp2_with (first | ((with_reducible refine gate_callee (f := 33) rfl ?_); refine goesL_ (some 4) rfl rfl Try.func33 (by kernel_rfl) rfl #[.int .i64 a0] rfl ma ?_; (with_reducible refine (spec_IsKey.calls a0 false _ A2.out).mono ?_); rintro e w' ⟨rfl, ⟨nd, rfl⟩⟩; refine ⟨_, rfl, ?_⟩))); go_ret; exact ⟨by first | rfl | (simp; done) | (simp [*]; done), by repeat (first | exact Drawn0.refl _ | apply Drawn0.step)⟩
/-! ### spec_DegreeOf: function 37 -/
mutual
def spec_DegreeOf.j0 : Nat → Int → Bool → Int → Int → Option (Int)
 | 0, _, _, _, _ => none
 | k + 1, x0, x14, x270000, x270001 => if x14 = true then (some 0) else (spec_DegreeOf.l0 k x0 (([0, 2, 4, 5, 7, 9, 11] : List Int)) 0 x270000 x270001)
def spec_DegreeOf.l0 : Nat → Int → List Int → Int → Int → Int → Option (Int)
 | 0, _, _, _, _, _ => none
 | k + 1, x0, x5, x6, x270000, x270001 => if x6 < 7 then (if 0 ≤ x6 then (if x6 < (x5.length : Int) then ((spec_TonicOf.f x0).bind fun t276 => ((spec_Mod.f (wrap64 (x270000 - t276)) 12).bind fun t277 => (if (rd x5 x6) = t277 then (some (wrap64 (x6 + 1))) else (spec_DegreeOf.l0 k x0 x5 (wrap64 (x6 + 1)) x270000 x270001)))) else (none)) else (none)) else (some 0)
end
def spec_DegreeOf.f (k : Nat) (a0 : Int) (a1_0 : Int) (a1_1 : Int) : Option (Int) := (spec_IsKey.f a0).bind fun t270 => (if t270 = true then ((spec_IsChord.f a1_0 a1_1).bind fun t271 => (spec_DegreeOf.j0 k a0 (!t271) a1_0 a1_1)) else (spec_DegreeOf.j0 k a0 true a1_0 a1_1))
theorem spec_DegreeOf.mono_l : ∀ k, (∀ y0 y1 y2 y3, LeO (spec_DegreeOf.j0 k y0 y1 y2 y3) (spec_DegreeOf.j0 (k + 1) y0 y1 y2 y3)) ∧ (∀ y0 y1 y2 y3 y4, LeO (spec_DegreeOf.l0 k y0 y1 y2 y3 y4) (spec_DegreeOf.l0 (k + 1) y0 y1 y2 y3 y4))
 | 0 => ⟨fun _ _ _ _ r h => by simp [spec_DegreeOf.j0] at h, fun _ _ _ _ _ r h => by simp [spec_DegreeOf.l0] at h⟩
 | k + 1 => by
  obtain ⟨ih0, ih1⟩ := spec_DegreeOf.mono_l k; refine ⟨?_, ?_⟩
  · intro y0 y1 y2 y3
    unfold spec_DegreeOf.j0
    repeat' first
    | (with_reducible exact ih0 _ _ _ _)
    | (with_reducible exact ih1 _ _ _ _ _)
    | (with_reducible exact LeO.refl _)
    | (with_reducible exact LeO.none _)
    | (with_reducible refine LeO.ite ?_ ?_)
    | (with_reducible refine LeO.bind ?_ (fun _ => ?_))
    | exact ih0 _ _ _ _
    | exact ih1 _ _ _ _ _
    | exact LeO.none _
    | refine LeO.ite ?_ ?_
    | refine LeO.bind ?_ (fun _ => ?_)
  · intro y0 y1 y2 y3 y4
    unfold spec_DegreeOf.l0
    repeat' first
    | (with_reducible exact ih0 _ _ _ _)
    | (with_reducible exact ih1 _ _ _ _ _)
    | (with_reducible exact LeO.refl _)
    | (with_reducible exact LeO.none _)
    | (with_reducible refine LeO.ite ?_ ?_)
    | (with_reducible refine LeO.bind ?_ (fun _ => ?_))
    | exact ih0 _ _ _ _
    | exact ih1 _ _ _ _ _
    | exact LeO.none _
    | refine LeO.ite ?_ ?_
    | refine LeO.bind ?_ (fun _ => ?_)
theorem spec_DegreeOf.mono : ∀ a0 a1 a2 k, LeO (spec_DegreeOf.f k a0 a1 a2) (spec_DegreeOf.f (k + 1) a0 a1 a2) := by
 intro a0 a1 a2 k; obtain ⟨ih0, ih1⟩ := spec_DegreeOf.mono_l k; unfold spec_DegreeOf.f
 repeat' first
  | (with_reducible exact ih0 _ _ _ _)
  | (with_reducible exact ih1 _ _ _ _ _)
  | (with_reducible exact LeO.refl _)
  | (with_reducible exact LeO.none _)
  | (with_reducible refine LeO.ite ?_ ?_)
  | (with_reducible refine LeO.bind ?_ (fun _ => ?_))
  | exact ih0 _ _ _ _
  | exact ih1 _ _ _ _ _
  | exact LeO.none _
  | refine LeO.ite ?_ ?_
  | refine LeO.bind ?_ (fun _ => ?_)
set_option maxHeartbeats 8000000 in
set_option maxRecDepth 100000 in
theorem spec_DegreeOf.calls (k : Nat) (a0 : Int) (a1_0 : Int) (a1_1 : Int) (r : Int) (w : World) (h : spec_DegreeOf.f k a0 a1_0 a1_1 = some r) :
 Calls Try.prog 37 #[.int .i64 a0, .agg #[.int .i64 a1_0, .int .i64 a1_1]] w fun e w' => e = .returned (.int .i64 r) ∧ Below w.heap.size w w' := by
 have hu25 := Try.underlying25; have HB := q0_5 (Below.refl w.heap.size w); (have H : ((spec_IsKey.f a0).bind fun t270 => (if t270 = true then ((spec_IsChord.f a1_0 a1_1).bind fun t271 => (spec_DegreeOf.j0 k a0 (!t271) a1_0 a1_1)) else (spec_DegreeOf.j0 k a0 true a1_0 a1_1))) = some r := h); clear h; have HC3 := q0_5 H; clear H; go_enter Try.func37, Try.ntmps37; (go_upto_region 1 with (first | ((with_reducible refine gate_dst (N := 3) rfl ?_); refine box_event ?hg (N := 3) ?hd (cs := #[.int .i64 a1_0, .int .i64 a1_1]) (t := 25) ?hr ?_; (case hd => rfl); (case hg => rfl); (case hr => first | (go_simp; done) | (go_simp; rfl)); intro q6 hg w4 hbox hb; have n0_ := q0_5 (below_step (qc_5) hb); have n1_ := q0_5 (hbox); have n2_ := q0_5 ((by rw [hg]; exact (below_size (qc_5)) : w.heap.size ≤ q6)); have n3_ := q0_5 ((by rw [hg]; exact (below_size (qc_5)) : w.heap.size ≤ q6)); clear HB; have HB := n0_; have q3 := n1_; have GW269 := n2_; have qf := n3_; clear n0_ n1_ n2_ n3_; clear hb hbox hg))); (repeat (go_quiet (first | ((with_reducible refine gate_dst (N := 3) rfl ?_); refine box_event ?hg (N := 3) ?hd (cs := #[.int .i64 a1_0, .int .i64 a1_1]) (t := 25) ?hr ?_; (case hd => rfl); (case hg => rfl); (case hr => first | (go_simp; done) | (go_simp; rfl)); intro q6 hg w4 hbox hb; have n0_ := q0_5 (below_step (qc_5) hb); have n1_ := q0_5 (hbox); have n2_ := q0_5 ((by rw [hg]; exact (below_size (qc_5)) : w.heap.size ≤ q6)); have n3_ := q0_5 ((by rw [hg]; exact (below_size (qc_5)) : w.heap.size ≤ q6)); clear HB; have HB := n0_; have q3 := n1_; have GW269 := n2_; have qf := n3_; clear n0_ n1_ n2_ n3_; clear hb hbox hg)); go_upto_region 1 with (first | ((with_reducible refine gate_dst (N := 3) rfl ?_); refine box_event ?hg (N := 3) ?hd (cs := #[.int .i64 a1_0, .int .i64 a1_1]) (t := 25) ?hr ?_; (case hd => rfl); (case hg => rfl); (case hr => first | (go_simp; done) | (go_simp; rfl)); intro q6 hg w4 hbox hb; have n0_ := q0_5 (below_step (qc_5) hb); have n1_ := q0_5 (hbox); have n2_ := q0_5 ((by rw [hg]; exact (below_size (qc_5)) : w.heap.size ≤ q6)); have n3_ := q0_5 ((by rw [hg]; exact (below_size (qc_5)) : w.heap.size ≤ q6)); clear HB; have HB := n0_; have q3 := n1_; have GW269 := n2_; have qf := n3_; clear n0_ n1_ n2_ n3_; clear hb hbox hg)))); ((try simp only [Act.put, List.setIfInBounds_toArray, List.set_cons_zero, List.set_cons_succ])); (go_cut [14] (fun v14 wc => ∃ (kq : Nat) (x14_2 : Bool), v14 = .bool x14_2 ∧ Aside0 (spec_DegreeOf.j0 kq a0 x14_2 a1_0 a1_1 = some r) ∧ Aside0 (kq ≤ k) ∧ Aside0 (wc.heap[q6]? = some (.cells #[.int .i64 a1_0, .int .i64 a1_1] 25 (0, 0))) ∧ Aside0 (Below w.heap.size w wc)))
 case first =>
  have H := HC3.out; clear HC3; replace H := Option.bind_eq_some_iff.mp H; obtain ⟨t270, A50, H⟩ := H; replace H : (if t270 = true then ((spec_IsChord.f a1_0 a1_1).bind fun t271 => (spec_DegreeOf.j0 k a0 (!t271) a1_0 a1_1)) else (spec_DegreeOf.j0 k a0 true a1_0 a1_1)) = some r := H; have A5 := q0_5 A50; clear A50
  by_cases c6 : t270 = true
  · subst c6
    have H1 : ((spec_IsChord.f a1_0 a1_1).bind fun t271 => (spec_DegreeOf.j0 k a0 (!t271) a1_0 a1_1)) = some r := by rw [if_pos rfl] at H; exact H
    clear H; have H := H1; clear H1; replace H := Option.bind_eq_some_iff.mp H; obtain ⟨t271, A70, H⟩ := H; replace H : (spec_DegreeOf.j0 k a0 (!t271) a1_0 a1_1) = some r := H; have A7 := q0_5 A70; clear A70; (have H' := q0_5 H); clear H; (go_wp2_with (first | (go_at_call 33; (with_reducible refine (spec_IsKey.calls a0 true _ A5.out).mono ?_); rintro e w' ⟨rfl, ⟨nd, rfl⟩⟩; (try first | exact ⟨rfl, _, World.drewN_drewN _ _ _⟩ | exact ⟨rfl, _, Eq.trans (World.drewN_drewN _ _ _) (congrArg (World.drewN _) (Nat.add_assoc _ _ _))⟩); have hcz8_0 : w4.cell? ⟨q6, 0, none⟩ = some (.int .i64 a1_0) := (blk_cell q3.out 0).trans rfl; have hcz8_1 : w4.cell? ⟨q6, 1, none⟩ = some (.int .i64 a1_1) := (blk_cell q3.out 1).trans rfl; have hfz8_0 := blk_frozen q3.out 0; have hfz8_1 := blk_frozen q3.out 1) | (go_at_call 20; (with_reducible refine (spec_IsChord.calls a1_0 a1_1 t271 _ A7.out).mono ?_); rintro e w9 ⟨rfl, hb⟩; have n0_ := q0_5 (bb q3.out hb); have n1_ := q0_5 (below_step (q5_5) hb); clear q3; clear HB; have q3 := n0_; have HB := n1_; clear n0_ n1_; (try clear hb); (try clear hb2); (try clear hk); (try clear hi))))
    (repeat (go_quiet (first | (go_at_call 33; (with_reducible refine (spec_IsKey.calls a0 true _ A5.out).mono ?_); rintro e w' ⟨rfl, ⟨nd, rfl⟩⟩; (try first | exact ⟨rfl, _, World.drewN_drewN _ _ _⟩ | exact ⟨rfl, _, Eq.trans (World.drewN_drewN _ _ _) (congrArg (World.drewN _) (Nat.add_assoc _ _ _))⟩); have hcz8_0 : w4.cell? ⟨q6, 0, none⟩ = some (.int .i64 a1_0) := (blk_cell q3.out 0).trans rfl; have hcz8_1 : w4.cell? ⟨q6, 1, none⟩ = some (.int .i64 a1_1) := (blk_cell q3.out 1).trans rfl; have hfz8_0 := blk_frozen q3.out 0; have hfz8_1 := blk_frozen q3.out 1) | (go_at_call 20; (with_reducible refine (spec_IsChord.calls a1_0 a1_1 t271 _ A7.out).mono ?_); rintro e w9 ⟨rfl, hb⟩; have n0_ := q0_5 (bb q3.out hb); have n1_ := q0_5 (below_step (q5_5) hb); clear q3; clear HB; have q3 := n0_; have HB := n1_; clear n0_ n1_; (try clear hb); (try clear hb2); (try clear hk); (try clear hi))); try go_wp2_with (first | (go_at_call 33; (with_reducible refine (spec_IsKey.calls a0 true _ A5.out).mono ?_); rintro e w' ⟨rfl, ⟨nd, rfl⟩⟩; (try first | exact ⟨rfl, _, World.drewN_drewN _ _ _⟩ | exact ⟨rfl, _, Eq.trans (World.drewN_drewN _ _ _) (congrArg (World.drewN _) (Nat.add_assoc _ _ _))⟩); have hcz8_0 : w4.cell? ⟨q6, 0, none⟩ = some (.int .i64 a1_0) := (blk_cell q3.out 0).trans rfl; have hcz8_1 : w4.cell? ⟨q6, 1, none⟩ = some (.int .i64 a1_1) := (blk_cell q3.out 1).trans rfl; have hfz8_0 := blk_frozen q3.out 0; have hfz8_1 := blk_frozen q3.out 1) | (go_at_call 20; (with_reducible refine (spec_IsChord.calls a1_0 a1_1 t271 _ A7.out).mono ?_); rintro e w9 ⟨rfl, hb⟩; have n0_ := q0_5 (bb q3.out hb); have n1_ := q0_5 (below_step (q5_5) hb); clear q3; clear HB; have q3 := n0_; have HB := n1_; clear n0_ n1_; (try clear hb); (try clear hb2); (try clear hk); (try clear hi))))); (go_meet)
    case rel => exact ⟨_, (!t271), (by first | rfl | (simp; done) | (simp [*]; done)), H', ⟨by first | omega | exact Nat.le_refl _⟩, ⟨by refine ba ?_; exact q3.out⟩, ⟨by exact (q5_5)⟩⟩
  · replace c6 := Bool.eq_false_iff.mpr c6
    subst c6; (have H1 : (spec_DegreeOf.j0 k a0 true a1_0 a1_1) = some r := by rw [if_neg (show ¬ (false = true) by decide)] at H; exact H); clear H; have H := H1; clear H1; (have H' := q0_5 H); clear H; (go_wp2_with (first | (go_at_call 33; (with_reducible refine (spec_IsKey.calls a0 false _ A5.out).mono ?_); rintro e w' ⟨rfl, ⟨nd, rfl⟩⟩; (try first | exact ⟨rfl, _, World.drewN_drewN _ _ _⟩ | exact ⟨rfl, _, Eq.trans (World.drewN_drewN _ _ _) (congrArg (World.drewN _) (Nat.add_assoc _ _ _))⟩)))); (repeat (go_quiet (first | (go_at_call 33; (with_reducible refine (spec_IsKey.calls a0 false _ A5.out).mono ?_); rintro e w' ⟨rfl, ⟨nd, rfl⟩⟩; (try first | exact ⟨rfl, _, World.drewN_drewN _ _ _⟩ | exact ⟨rfl, _, Eq.trans (World.drewN_drewN _ _ _) (congrArg (World.drewN _) (Nat.add_assoc _ _ _))⟩))); try go_wp2_with (first | (go_at_call 33; (with_reducible refine (spec_IsKey.calls a0 false _ A5.out).mono ?_); rintro e w' ⟨rfl, ⟨nd, rfl⟩⟩; (try first | exact ⟨rfl, _, World.drewN_drewN _ _ _⟩ | exact ⟨rfl, _, Eq.trans (World.drewN_drewN _ _ _) (congrArg (World.drewN _) (Nat.add_assoc _ _ _))⟩))))); (go_meet)
    case rel => exact ⟨_, (true), (by first | rfl | (simp; done) | (simp [*]; done)), H', ⟨by first | omega | exact Nat.le_refl _⟩, ⟨by refine ba ?_; exact q3.out⟩, ⟨by exact (q5_5)⟩⟩
 case rest =>
  clear HC3; (try clear p2); (try clear c3); (try clear c6); (try clear hcz8_0); (try clear hcz8_1); (try clear hfz8_0); (try clear hfz8_1); obtain ⟨kq, x14_2, rfl, HA, HJ2, q3, HB⟩ := hcut
  cases kq with
  | zero => exact absurd HA.out (by simp [spec_DegreeOf.j0])
  | succ kj2 =>
   have H := HA.out; clear HA; (simp only [spec_DegreeOf.j0] at H)
   by_cases c10 : x14_2 = true
   · subst c10
     have H1 : (some 0) = some r := by rw [if_pos rfl] at H; exact H
     clear H; have H := H1; clear H1; obtain rfl := Option.some.inj H; (go_wp2); (repeat (go_quiet (fail); try go_wp2)); go_ret; (exact ⟨by first | rfl | (simp [errW_none, errW_some] <;> rfl) | (simp [*, errW_none, errW_some] <;> rfl), by exact (q5_5)⟩)
   · replace c10 := Bool.eq_false_iff.mpr c10
     subst c10; (have H1 : (spec_DegreeOf.l0 kj2 a0 (([0, 2, 4, 5, 7, 9, 11] : List Int)) 0 a1_0 a1_1) = some r := by rw [if_neg (show ¬ (false = true) by decide)] at H; exact H); clear H; have H := H1; clear H1; obtain ⟨y272, hy272⟩ : ∃ y_ : List Int, y_ = (([0, 2, 4, 5, 7, 9, 11] : List Int)) := ⟨_, rfl⟩; (replace H : (spec_DegreeOf.l0 kj2 a0 y272 0 a1_0 a1_1) = some r := by first | (rw [hy272]; with_reducible exact H) | (have H2_ := (Option.bind_some _ _).symm.trans H; rw [hy272]; with_reducible exact H2_) | (have H2_ := (Option.bind_some _ _).symm.trans H; with_reducible exact H2_) | with_reducible exact H | (rw [hy272]; exact H) | exact H); have Ny272 := q0_5 hy272; clear hy272; (have H' := q0_5 H); clear H; (go_wp2_with (first | ((with_reducible refine gate_dst (N := 15) rfl ?_); refine Kd.R_lit (Kd.int .i64) _ 3 ?hg (N := 15) ?hd (xs := ([0, 2, 4, 5, 7, 9, 11] : List Int)) (inner := [.int .i64 0, .int .i64 2, .int .i64 4, .int .i64 5, .int .i64 7, .int .i64 9, .int .i64 11]) (ok := fun _ => True) (okp := fun _ => True) ?hr ?hp (fun _ hk => hk) trivial (Below.refl _ _) (Nat.le_refl _) (by simp) ?_; (case hd => rfl); (case hg => rfl); (case hr => first | (go_simp; done) | (go_simp; rfl)); (case hp => exact (Reps.one (show Kd.M (Kd.int .i64) _ _ _ 0 [.int .i64 0] from rfl) (Reps.one (show Kd.M (Kd.int .i64) _ _ _ 2 [.int .i64 2] from rfl) (Reps.one (show Kd.M (Kd.int .i64) _ _ _ 4 [.int .i64 4] from rfl) (Reps.one (show Kd.M (Kd.int .i64) _ _ _ 5 [.int .i64 5] from rfl) (Reps.one (show Kd.M (Kd.int .i64) _ _ _ 7 [.int .i64 7] from rfl) (Reps.one (show Kd.M (Kd.int .i64) _ _ _ 9 [.int .i64 9] from rfl) (Reps.one (show Kd.M (Kd.int .i64) _ _ _ 11 [.int .i64 11] from rfl) (Reps.none _ _))))))))); intro v273 w11 ho12 hb hg_ hnew_; clear hg_ hnew_; (first | rw [← Ny272.out] at ho12 | (simp only [Int.reduceToNat] at ho12; rw [← Ny272.out] at ho12)); have n0_ := q0_5 (Kd.R_lower ho12 (below_size (q5_5))); have n1_ := q0_5 (bb q3.out hb); have n2_ := q0_5 (below_step (q5_5) hb); clear q3; clear HB; have qd := n0_; have q3 := n1_; have HB := n2_; clear n0_ n1_ n2_; clear hb ho12)))
     (repeat (go_quiet (first | ((with_reducible refine gate_dst (N := 15) rfl ?_); refine Kd.R_lit (Kd.int .i64) _ 3 ?hg (N := 15) ?hd (xs := ([0, 2, 4, 5, 7, 9, 11] : List Int)) (inner := [.int .i64 0, .int .i64 2, .int .i64 4, .int .i64 5, .int .i64 7, .int .i64 9, .int .i64 11]) (ok := fun _ => True) (okp := fun _ => True) ?hr ?hp (fun _ hk => hk) trivial (Below.refl _ _) (Nat.le_refl _) (by simp) ?_; (case hd => rfl); (case hg => rfl); (case hr => first | (go_simp; done) | (go_simp; rfl)); (case hp => exact (Reps.one (show Kd.M (Kd.int .i64) _ _ _ 0 [.int .i64 0] from rfl) (Reps.one (show Kd.M (Kd.int .i64) _ _ _ 2 [.int .i64 2] from rfl) (Reps.one (show Kd.M (Kd.int .i64) _ _ _ 4 [.int .i64 4] from rfl) (Reps.one (show Kd.M (Kd.int .i64) _ _ _ 5 [.int .i64 5] from rfl) (Reps.one (show Kd.M (Kd.int .i64) _ _ _ 7 [.int .i64 7] from rfl) (Reps.one (show Kd.M (Kd.int .i64) _ _ _ 9 [.int .i64 9] from rfl) (Reps.one (show Kd.M (Kd.int .i64) _ _ _ 11 [.int .i64 11] from rfl) (Reps.none _ _))))))))); intro v273 w11 ho12 hb hg_ hnew_; clear hg_ hnew_; (first | rw [← Ny272.out] at ho12 | (simp only [Int.reduceToNat] at ho12; rw [← Ny272.out] at ho12)); have n0_ := q0_5 (Kd.R_lower ho12 (below_size (q5_5))); have n1_ := q0_5 (bb q3.out hb); have n2_ := q0_5 (below_step (q5_5) hb); clear q3; clear HB; have qd := n0_; have q3 := n1_; have HB := n2_; clear n0_ n1_ n2_; clear hb ho12)); try go_wp2_with (first | ((with_reducible refine gate_dst (N := 15) rfl ?_); refine Kd.R_lit (Kd.int .i64) _ 3 ?hg (N := 15) ?hd (xs := ([0, 2, 4, 5, 7, 9, 11] : List Int)) (inner := [.int .i64 0, .int .i64 2, .int .i64 4, .int .i64 5, .int .i64 7, .int .i64 9, .int .i64 11]) (ok := fun _ => True) (okp := fun _ => True) ?hr ?hp (fun _ hk => hk) trivial (Below.refl _ _) (Nat.le_refl _) (by simp) ?_; (case hd => rfl); (case hg => rfl); (case hr => first | (go_simp; done) | (go_simp; rfl)); (case hp => exact (Reps.one (show Kd.M (Kd.int .i64) _ _ _ 0 [.int .i64 0] from rfl) (Reps.one (show Kd.M (Kd.int .i64) _ _ _ 2 [.int .i64 2] from rfl) (Reps.one (show Kd.M (Kd.int .i64) _ _ _ 4 [.int .i64 4] from rfl) (Reps.one (show Kd.M (Kd.int .i64) _ _ _ 5 [.int .i64 5] from rfl) (Reps.one (show Kd.M (Kd.int .i64) _ _ _ 7 [.int .i64 7] from rfl) (Reps.one (show Kd.M (Kd.int .i64) _ _ _ 9 [.int .i64 9] from rfl) (Reps.one (show Kd.M (Kd.int .i64) _ _ _ 11 [.int .i64 11] from rfl) (Reps.none _ _))))))))); intro v273 w11 ho12 hb hg_ hnew_; clear hg_ hnew_; (first | rw [← Ny272.out] at ho12 | (simp only [Int.reduceToNat] at ho12; rw [← Ny272.out] at ho12)); have n0_ := q0_5 (Kd.R_lower ho12 (below_size (q5_5))); have n1_ := q0_5 (bb q3.out hb); have n2_ := q0_5 (below_step (q5_5) hb); clear q3; clear HB; have qd := n0_; have q3 := n1_; have HB := n2_; clear n0_ n1_ n2_; clear hb ho12))))
     (go_loopg [6] kj2 (fun kq v6 w' => ∃ (x6_2 : Int), v6 = .int .i64 x6_2 ∧ Aside0 (spec_DegreeOf.l0 kq a0 y272 x6_2 a1_0 a1_1 = some r) ∧ Aside0 (kq ≤ kj2) ∧ Aside0 (Kd.R (Kd.int .i64) 3 w' w.heap.size (fun _ => True) v273 y272) ∧ Aside0 (w'.heap[q6]? = some (.cells #[.int .i64 a1_0, .int .i64 a1_1] 25 (0, 0))) ∧ Aside0 (Below w.heap.size w w')))
     case atStart => exact ⟨(0), (by first | rfl | (simp; done) | (simp [*]; done)), H', ⟨Nat.le_refl _⟩, ⟨by refine ra ?_; exact qd.out⟩, ⟨by refine ba ?_; exact q3.out⟩, ⟨by exact (q5_5)⟩⟩
     case round =>
      clear H'; (try clear c1); (try clear p2); (try clear c3); (try clear c6); (try clear c10); (try clear hcz8_0); (try clear hcz8_1); (try clear hfz8_0); (try clear hfz8_1); (try clear p2); obtain ⟨x6_2, rfl, HA, HK2, qe, q3, HB⟩ := hrel
      cases gk with
      | zero => exact absurd HA.out (by simp [spec_DegreeOf.l0])
      | succ k2 =>
       have H := HA.out; clear HA; (simp only [spec_DegreeOf.l0] at H)
       by_cases c13 : x6_2 < 7
       · rw [if_pos c13] at H
         (have c13b0 : decide (x6_2 < 7) = true := decide_eq_true c13); clear c13
         by_cases c14 : 0 ≤ x6_2
         · rw [if_pos c14] at H
           (have c14b0 : decide (0 ≤ x6_2) = true := decide_eq_true c14); clear c14
           by_cases c15 : x6_2 < (y272.length : Int)
           · rw [if_pos c15] at H
             (have c15b0 : decide (x6_2 < (y272.length : Int)) = true := decide_eq_true c15); clear c15; replace H := Option.bind_eq_some_iff.mp H; obtain ⟨t276, A160, H⟩ := H; replace H : ((spec_Mod.f (wrap64 (a1_0 - t276)) 12).bind fun t277 => (if (rd y272 x6_2) = t277 then (some (wrap64 (x6_2 + 1))) else (spec_DegreeOf.l0 k2 a0 y272 (wrap64 (x6_2 + 1)) a1_0 a1_1))) = some r := H; have A16 := q0_5 A160; clear A160; replace H := Option.bind_eq_some_iff.mp H; obtain ⟨t277, A170, H⟩ := H; replace H : (if (rd y272 x6_2) = t277 then (some (wrap64 (x6_2 + 1))) else (spec_DegreeOf.l0 k2 a0 y272 (wrap64 (x6_2 + 1)) a1_0 a1_1)) = some r := H; have A17 := q0_5 A170; clear A170
             by_cases c18 : (rd y272 x6_2) = t277
             · rw [if_pos c18] at H
               (have c18b0 : ((rd y272 x6_2) == t277) = true := beq_iff_eq.mpr c18); (have c18b1 : ((rd y272 x6_2) != t277) = false := bne_eq_false_iff_eq.mpr c18); clear c18; obtain rfl := Option.some.inj H; obtain ⟨qi, qj, eo19⟩ := Kd.R_slice qe.out; subst eo19; (have p275 : 0 ≤ (x6_2 : Int) := of_decide_eq_true (by first | (with_reducible assumption) | assumption)); (have q275 : x6_2 < (y272.length : Int) := of_decide_eq_true (by first | (with_reducible assumption) | assumption)); obtain ⟨ad275, e275, hx275_0⟩ := Kd.at_int (Kd.R_reads' qe.out).2.2 x6_2 p275 q275
               cases e275
               replace p275 := eq_true p275; replace q275 := eq_true q275; (have hcz20_0 : wr.cell? ⟨q6, 0, none⟩ = some (.int .i64 a1_0) := (blk_cell q3.out 0).trans rfl); (have hcz20_1 : wr.cell? ⟨q6, 1, none⟩ = some (.int .i64 a1_1) := (blk_cell q3.out 1).trans rfl); have hfz20_0 := blk_frozen q3.out 0; have hfz20_1 := blk_frozen q3.out 1; (go_wp2_with (first | (go_at_call 66; (with_reducible refine (spec_TonicOf.calls a0 t276 _ A16.out).mono ?_); rintro e w' ⟨rfl, ⟨nd, rfl⟩⟩; (try first | exact ⟨rfl, _, World.drewN_drewN _ _ _⟩ | exact ⟨rfl, _, Eq.trans (World.drewN_drewN _ _ _) (congrArg (World.drewN _) (Nat.add_assoc _ _ _))⟩)) | (go_at_call 34; (with_reducible refine (spec_Mod.calls (wrap64 (a1_0 - t276)) 12 t277 _ A17.out).mono ?_); rintro e w' ⟨rfl, ⟨nd, rfl⟩⟩; (try first | exact ⟨rfl, _, World.drewN_drewN _ _ _⟩ | exact ⟨rfl, _, Eq.trans (World.drewN_drewN _ _ _) (congrArg (World.drewN _) (Nat.add_assoc _ _ _))⟩)))); (repeat (go_quiet (first | (go_at_call 66; (with_reducible refine (spec_TonicOf.calls a0 t276 _ A16.out).mono ?_); rintro e w' ⟨rfl, ⟨nd, rfl⟩⟩; (try first | exact ⟨rfl, _, World.drewN_drewN _ _ _⟩ | exact ⟨rfl, _, Eq.trans (World.drewN_drewN _ _ _) (congrArg (World.drewN _) (Nat.add_assoc _ _ _))⟩)) | (go_at_call 34; (with_reducible refine (spec_Mod.calls (wrap64 (a1_0 - t276)) 12 t277 _ A17.out).mono ?_); rintro e w' ⟨rfl, ⟨nd, rfl⟩⟩; (try first | exact ⟨rfl, _, World.drewN_drewN _ _ _⟩ | exact ⟨rfl, _, Eq.trans (World.drewN_drewN _ _ _) (congrArg (World.drewN _) (Nat.add_assoc _ _ _))⟩))); try go_wp2_with (first | (go_at_call 66; (with_reducible refine (spec_TonicOf.calls a0 t276 _ A16.out).mono ?_); rintro e w' ⟨rfl, ⟨nd, rfl⟩⟩; (try first | exact ⟨rfl, _, World.drewN_drewN _ _ _⟩ | exact ⟨rfl, _, Eq.trans (World.drewN_drewN _ _ _) (congrArg (World.drewN _) (Nat.add_assoc _ _ _))⟩)) | (go_at_call 34; (with_reducible refine (spec_Mod.calls (wrap64 (a1_0 - t276)) 12 t277 _ A17.out).mono ?_); rintro e w' ⟨rfl, ⟨nd, rfl⟩⟩; (try first | exact ⟨rfl, _, World.drewN_drewN _ _ _⟩ | exact ⟨rfl, _, Eq.trans (World.drewN_drewN _ _ _) (congrArg (World.drewN _) (Nat.add_assoc _ _ _))⟩))))); go_ret; (exact ⟨by first | rfl | (simp [errW_none, errW_some] <;> rfl) | (simp [*, errW_none, errW_some] <;> rfl), by exact (q5_5)⟩)
             · rw [if_neg c18] at H
               (have c18b0 : ((rd y272 x6_2) == t277) = false := beq_eq_false_iff_ne.mpr c18); (have c18b1 : ((rd y272 x6_2) != t277) = true := bne_iff_ne.mpr c18); (have H' := q0_5 H); clear H; obtain ⟨qk, ql, eo21⟩ := Kd.R_slice qe.out; subst eo21; (have p275 : 0 ≤ (x6_2 : Int) := of_decide_eq_true (by first | (with_reducible assumption) | assumption)); (have q275 : x6_2 < (y272.length : Int) := of_decide_eq_true (by first | (with_reducible assumption) | assumption)); obtain ⟨ad275, e275, hx275_0⟩ := Kd.at_int (Kd.R_reads' qe.out).2.2 x6_2 p275 q275
               cases e275
               replace p275 := eq_true p275; replace q275 := eq_true q275; (have hcz22_0 : wr.cell? ⟨q6, 0, none⟩ = some (.int .i64 a1_0) := (blk_cell q3.out 0).trans rfl); (have hcz22_1 : wr.cell? ⟨q6, 1, none⟩ = some (.int .i64 a1_1) := (blk_cell q3.out 1).trans rfl); have hfz22_0 := blk_frozen q3.out 0; have hfz22_1 := blk_frozen q3.out 1; (go_wp2_with (first | (go_at_call 66; (with_reducible refine (spec_TonicOf.calls a0 t276 _ A16.out).mono ?_); rintro e w' ⟨rfl, ⟨nd, rfl⟩⟩; (try first | exact ⟨rfl, _, World.drewN_drewN _ _ _⟩ | exact ⟨rfl, _, Eq.trans (World.drewN_drewN _ _ _) (congrArg (World.drewN _) (Nat.add_assoc _ _ _))⟩)) | (go_at_call 34; (with_reducible refine (spec_Mod.calls (wrap64 (a1_0 - t276)) 12 t277 _ A17.out).mono ?_); rintro e w' ⟨rfl, ⟨nd, rfl⟩⟩; (try first | exact ⟨rfl, _, World.drewN_drewN _ _ _⟩ | exact ⟨rfl, _, Eq.trans (World.drewN_drewN _ _ _) (congrArg (World.drewN _) (Nat.add_assoc _ _ _))⟩)))); (repeat (go_quiet (first | (go_at_call 66; (with_reducible refine (spec_TonicOf.calls a0 t276 _ A16.out).mono ?_); rintro e w' ⟨rfl, ⟨nd, rfl⟩⟩; (try first | exact ⟨rfl, _, World.drewN_drewN _ _ _⟩ | exact ⟨rfl, _, Eq.trans (World.drewN_drewN _ _ _) (congrArg (World.drewN _) (Nat.add_assoc _ _ _))⟩)) | (go_at_call 34; (with_reducible refine (spec_Mod.calls (wrap64 (a1_0 - t276)) 12 t277 _ A17.out).mono ?_); rintro e w' ⟨rfl, ⟨nd, rfl⟩⟩; (try first | exact ⟨rfl, _, World.drewN_drewN _ _ _⟩ | exact ⟨rfl, _, Eq.trans (World.drewN_drewN _ _ _) (congrArg (World.drewN _) (Nat.add_assoc _ _ _))⟩))); try go_wp2_with (first | (go_at_call 66; (with_reducible refine (spec_TonicOf.calls a0 t276 _ A16.out).mono ?_); rintro e w' ⟨rfl, ⟨nd, rfl⟩⟩; (try first | exact ⟨rfl, _, World.drewN_drewN _ _ _⟩ | exact ⟨rfl, _, Eq.trans (World.drewN_drewN _ _ _) (congrArg (World.drewN _) (Nat.add_assoc _ _ _))⟩)) | (go_at_call 34; (with_reducible refine (spec_Mod.calls (wrap64 (a1_0 - t276)) 12 t277 _ A17.out).mono ?_); rintro e w' ⟨rfl, ⟨nd, rfl⟩⟩; (try first | exact ⟨rfl, _, World.drewN_drewN _ _ _⟩ | exact ⟨rfl, _, Eq.trans (World.drewN_drewN _ _ _) (congrArg (World.drewN _) (Nat.add_assoc _ _ _))⟩))))); (go_roundg k2)
               case measure => have := HJ2.out; have := HK2.out; omega
               case rel => exact ⟨(wrap64 (x6_2 + 1)), (by first | rfl | (simp; done) | (simp [*]; done)), H', ⟨by have := HJ2.out; have := HK2.out; omega⟩, ⟨by refine ra ?_; exact qe.out⟩, ⟨by refine ba ?_; exact q3.out⟩, ⟨by exact (q5_5)⟩⟩
           · rw [if_neg c15] at H
             exact absurd H (by simp)
         · rw [if_neg c14] at H
           exact absurd H (by simp)
       · rw [if_neg c13] at H
         (have c13b0 : decide (x6_2 < 7) = false := decide_eq_false c13); clear c13; obtain rfl := Option.some.inj H; (go_wp2); (repeat (go_quiet (fail); try go_wp2)); go_ret; (exact ⟨by first | rfl | (simp [errW_none, errW_some] <;> rfl) | (simp [*, errW_none, errW_some] <;> rfl), by exact (q5_5)⟩)
/-! ### spec_CadenceOf: function 8 -/
mutual
def spec_CadenceOf.j0 : Nat → Int → Int → Bool → Int → Int → Option (ByteArray)
 | 0, _, _, _, _, _ => none
 | k + 1, x7, x8, x15, x279000, x279001 => if x15 = true then (some (⟨#[102, 117, 108, 108]⟩ : ByteArray)) else (if x7 = 4 then (spec_CadenceOf.j1 k x7 x8 (x8 == 1) x279000 x279001) else (spec_CadenceOf.j1 k x7 x8 false x279000 x279001))
def spec_CadenceOf.j1 : Nat → Int → Int → Bool → Int → Int → Option (ByteArray)
 | 0, _, _, _, _, _ => none
 | k + 1, x7, x8, x32, x279000, x279001 => if x32 = true then (some (⟨#[112, 108, 97, 103, 97, 108]⟩ : ByteArray)) else ((spec_IsChord.f x279000 x279001).bind fun t282 => (if t282 = true then (spec_CadenceOf.j2 k x7 x8 (x8 == 5)) else (spec_CadenceOf.j2 k x7 x8 false)))
def spec_CadenceOf.j2 : Nat → Int → Int → Bool → Option (ByteArray)
 | 0, _, _, _ => none
 | k + 1, x7, x8, x39 => if x39 = true then (some (⟨#[104, 97, 108, 102]⟩ : ByteArray)) else (if x7 = 5 then (if x8 = 6 then (some (⟨#[98, 114, 111, 107, 101, 110]⟩ : ByteArray)) else (some (⟨#[]⟩ : ByteArray))) else (some (⟨#[]⟩ : ByteArray)))
end
def spec_CadenceOf.f (k : Nat) (a0 : Int) (a1_0 : Int) (a1_1 : Int) (a2_0 : Int) (a2_1 : Int) : Option (ByteArray) := (spec_DegreeOf.f k a0 a1_0 a1_1).bind fun t280 => ((spec_DegreeOf.f k a0 a2_0 a2_1).bind fun t281 => (if t280 = 5 then (if t281 = 1 then (if a1_1 = 1 then (spec_CadenceOf.j0 k t280 t281 true a1_0 a1_1) else (spec_CadenceOf.j0 k t280 t281 (a1_1 == 5) a1_0 a1_1)) else (spec_CadenceOf.j0 k t280 t281 false a1_0 a1_1)) else (spec_CadenceOf.j0 k t280 t281 false a1_0 a1_1)))
theorem spec_CadenceOf.mono_l : ∀ k, (∀ y0 y1 y2 y3 y4, LeO (spec_CadenceOf.j0 k y0 y1 y2 y3 y4) (spec_CadenceOf.j0 (k + 1) y0 y1 y2 y3 y4)) ∧ (∀ y0 y1 y2 y3 y4, LeO (spec_CadenceOf.j1 k y0 y1 y2 y3 y4) (spec_CadenceOf.j1 (k + 1) y0 y1 y2 y3 y4)) ∧ (∀ y0 y1 y2, LeO (spec_CadenceOf.j2 k y0 y1 y2) (spec_CadenceOf.j2 (k + 1) y0 y1 y2))
 | 0 => ⟨fun _ _ _ _ _ r h => by simp [spec_CadenceOf.j0] at h, fun _ _ _ _ _ r h => by simp [spec_CadenceOf.j1] at h, fun _ _ _ r h => by simp [spec_CadenceOf.j2] at h⟩
 | k + 1 => by
  obtain ⟨ih0, ih1, ih2⟩ := spec_CadenceOf.mono_l k; refine ⟨?_, ?_, ?_⟩
  · intro y0 y1 y2 y3 y4
    unfold spec_CadenceOf.j0
    repeat' first
    | (with_reducible exact ih0 _ _ _ _ _)
    | (with_reducible exact ih1 _ _ _ _ _)
    | (with_reducible exact ih2 _ _ _)
    | (with_reducible exact spec_DegreeOf.mono _ _ _ _)
    | (with_reducible exact LeO.refl _)
    | (with_reducible exact LeO.none _)
    | (with_reducible refine LeO.ite ?_ ?_)
    | (with_reducible refine LeO.bind ?_ (fun _ => ?_))
    | exact ih0 _ _ _ _ _
    | exact ih1 _ _ _ _ _
    | exact ih2 _ _ _
    | exact spec_DegreeOf.mono _ _ _ _
    | exact LeO.none _
    | refine LeO.ite ?_ ?_
    | refine LeO.bind ?_ (fun _ => ?_)
  · intro y0 y1 y2 y3 y4
    unfold spec_CadenceOf.j1
    repeat' first
    | (with_reducible exact ih0 _ _ _ _ _)
    | (with_reducible exact ih1 _ _ _ _ _)
    | (with_reducible exact ih2 _ _ _)
    | (with_reducible exact spec_DegreeOf.mono _ _ _ _)
    | (with_reducible exact LeO.refl _)
    | (with_reducible exact LeO.none _)
    | (with_reducible refine LeO.ite ?_ ?_)
    | (with_reducible refine LeO.bind ?_ (fun _ => ?_))
    | exact ih0 _ _ _ _ _
    | exact ih1 _ _ _ _ _
    | exact ih2 _ _ _
    | exact spec_DegreeOf.mono _ _ _ _
    | exact LeO.none _
    | refine LeO.ite ?_ ?_
    | refine LeO.bind ?_ (fun _ => ?_)
  · intro y0 y1 y2
    unfold spec_CadenceOf.j2
    repeat' first
    | (with_reducible exact ih0 _ _ _ _ _)
    | (with_reducible exact ih1 _ _ _ _ _)
    | (with_reducible exact ih2 _ _ _)
    | (with_reducible exact spec_DegreeOf.mono _ _ _ _)
    | (with_reducible exact LeO.refl _)
    | (with_reducible exact LeO.none _)
    | (with_reducible refine LeO.ite ?_ ?_)
    | (with_reducible refine LeO.bind ?_ (fun _ => ?_))
    | exact ih0 _ _ _ _ _
    | exact ih1 _ _ _ _ _
    | exact ih2 _ _ _
    | exact spec_DegreeOf.mono _ _ _ _
    | exact LeO.none _
    | refine LeO.ite ?_ ?_
    | refine LeO.bind ?_ (fun _ => ?_)
theorem spec_CadenceOf.mono : ∀ a0 a1 a2 a3 a4 k, LeO (spec_CadenceOf.f k a0 a1 a2 a3 a4) (spec_CadenceOf.f (k + 1) a0 a1 a2 a3 a4) := by
 intro a0 a1 a2 a3 a4 k; obtain ⟨ih0, ih1, ih2⟩ := spec_CadenceOf.mono_l k; unfold spec_CadenceOf.f
 repeat' first
  | (with_reducible exact ih0 _ _ _ _ _)
  | (with_reducible exact ih1 _ _ _ _ _)
  | (with_reducible exact ih2 _ _ _)
  | (with_reducible exact spec_DegreeOf.mono _ _ _ _)
  | (with_reducible exact LeO.refl _)
  | (with_reducible exact LeO.none _)
  | (with_reducible refine LeO.ite ?_ ?_)
  | (with_reducible refine LeO.bind ?_ (fun _ => ?_))
  | exact ih0 _ _ _ _ _
  | exact ih1 _ _ _ _ _
  | exact ih2 _ _ _
  | exact spec_DegreeOf.mono _ _ _ _
  | exact LeO.none _
  | refine LeO.ite ?_ ?_
  | refine LeO.bind ?_ (fun _ => ?_)
set_option maxHeartbeats 8000000 in
set_option maxRecDepth 100000 in
theorem spec_CadenceOf.calls (k : Nat) (a0 : Int) (a1_0 : Int) (a1_1 : Int) (a2_0 : Int) (a2_1 : Int) (r : ByteArray) (w : World) (h : spec_CadenceOf.f k a0 a1_0 a1_1 a2_0 a2_1 = some r) :
 Calls Try.prog 8 #[.int .i64 a0, .agg #[.int .i64 a1_0, .int .i64 a1_1], .agg #[.int .i64 a2_0, .int .i64 a2_1]] w fun e w' => e = .returned (.string r) ∧ Below w.heap.size w w' := by
 have hu25 := Try.underlying25; have HB := q0_5 (Below.refl w.heap.size w); (have H : ((spec_DegreeOf.f k a0 a1_0 a1_1).bind fun t280 => ((spec_DegreeOf.f k a0 a2_0 a2_1).bind fun t281 => (if t280 = 5 then (if t281 = 1 then (if a1_1 = 1 then (spec_CadenceOf.j0 k t280 t281 true a1_0 a1_1) else (spec_CadenceOf.j0 k t280 t281 (a1_1 == 5) a1_0 a1_1)) else (spec_CadenceOf.j0 k t280 t281 false a1_0 a1_1)) else (spec_CadenceOf.j0 k t280 t281 false a1_0 a1_1)))) = some r := h); clear h; replace H := Option.bind_eq_some_iff.mp H; obtain ⟨t280, A40, H⟩ := H; replace H : ((spec_DegreeOf.f k a0 a2_0 a2_1).bind fun t281 => (if t280 = 5 then (if t281 = 1 then (if a1_1 = 1 then (spec_CadenceOf.j0 k t280 t281 true a1_0 a1_1) else (spec_CadenceOf.j0 k t280 t281 (a1_1 == 5) a1_0 a1_1)) else (spec_CadenceOf.j0 k t280 t281 false a1_0 a1_1)) else (spec_CadenceOf.j0 k t280 t281 false a1_0 a1_1))) = some r := H; have A4 := q0_5 A40; clear A40; replace H := Option.bind_eq_some_iff.mp H; obtain ⟨t281, A50, H⟩ := H; replace H : (if t280 = 5 then (if t281 = 1 then (if a1_1 = 1 then (spec_CadenceOf.j0 k t280 t281 true a1_0 a1_1) else (spec_CadenceOf.j0 k t280 t281 (a1_1 == 5) a1_0 a1_1)) else (spec_CadenceOf.j0 k t280 t281 false a1_0 a1_1)) else (spec_CadenceOf.j0 k t280 t281 false a1_0 a1_1)) = some r := H; have A5 := q0_5 A50; clear A50; have HC6 := q0_5 H; clear H; go_enter Try.func8, Try.ntmps8
 (go_upto_region 3 with (first | ((with_reducible refine gate_dst (N := 4) rfl ?_); refine box_event ?hg (N := 4) ?hd (cs := #[.int .i64 a1_0, .int .i64 a1_1]) (t := 25) ?hr ?_; (case hd => rfl); (case hg => rfl); (case hr => first | (go_simp; done) | (go_simp; rfl)); intro q7 hg w7 hbox hb; have n0_ := q0_5 (below_step (qc_5) hb); have n1_ := q0_5 (hbox); have n2_ := q0_5 ((by rw [hg]; exact (below_size (qc_5)) : w.heap.size ≤ q7)); have n3_ := q0_5 ((by rw [hg]; exact (below_size (qc_5)) : w.heap.size ≤ q7)); clear HB; have HB := n0_; have q2 := n1_; have GW278 := n2_; have qg := n3_; clear n0_ n1_ n2_ n3_; clear hb hbox hg) | ((with_reducible refine gate_dst (N := 5) rfl ?_); refine box_event ?hg (N := 5) ?hd (cs := #[.int .i64 a2_0, .int .i64 a2_1]) (t := 25) ?hr ?_; (case hd => rfl); (case hg => rfl); (case hr => first | (go_simp; done) | (go_simp; rfl)); intro qa hg w8 hbox hb; have n0_ := q0_5 (bb q2.out hb); have n1_ := q0_5 (below_step (qb_5) hb); have n2_ := q0_5 (hbox); have n3_ := q0_5 ((by rw [hg]; exact (below_size (qb_5)) : w.heap.size ≤ qa)); have n4_ := q0_5 ((by rw [hg]; exact (below_size (qb_5)) : w.heap.size ≤ qa)); have n5_ := q0_5 ((by rw [hg]; exact Nat.ne_of_lt (bl q2.out) : q7 ≠ qa)); have n6_ := q0_5 ((by rw [hg]; exact Nat.ne_of_gt (bl q2.out) : qa ≠ q7)); clear q2; clear HB; have q2 := n0_; have HB := n1_; have q4 := n2_; have GW279 := n3_; have qh := n4_; have q8 := n5_; have q9 := n6_; clear n0_ n1_ n2_ n3_ n4_ n5_ n6_; clear hb hbox hg; have hnb9 := q8.out; have hnc9 := q9.out; have hcz10_0 : w8.cell? ⟨q7, 0, none⟩ = some (.int .i64 a1_0) := (blk_cell q2.out 0).trans rfl; have hcz10_1 : w8.cell? ⟨q7, 1, none⟩ = some (.int .i64 a1_1) := (blk_cell q2.out 1).trans rfl; have hfz10_0 := blk_frozen q2.out 0; have hfz10_1 := blk_frozen q2.out 1) | ((with_reducible refine gate_callee (f := 37) rfl ?_); refine goesL_ (some 11) rfl rfl Try.func37 (by kernel_rfl) rfl #[.int .i64 a0, .agg #[.int .i64 a1_0, .int .i64 a1_1]] rfl ma ?_; (with_reducible refine (spec_DegreeOf.calls k a0 a1_0 a1_1 t280 _ A4.out).mono ?_); rintro e w11 ⟨rfl, hb⟩; refine ⟨_, rfl, ?_⟩; have n0_ := q0_5 (bb q2.out hb); have n1_ := q0_5 (bb q4.out hb); have n2_ := q0_5 (below_step (q1_5) hb); clear q2; clear q4; clear HB; have q2 := n0_; have q4 := n1_; have HB := n2_; clear n0_ n1_ n2_; (try clear hb); (try clear hb2); (try clear hk); (try clear hi); have hcz12_0 : w11.cell? ⟨qa, 0, none⟩ = some (.int .i64 a2_0) := (blk_cell q4.out 0).trans rfl; have hcz12_1 : w11.cell? ⟨qa, 1, none⟩ = some (.int .i64 a2_1) := (blk_cell q4.out 1).trans rfl; have hfz12_0 := blk_frozen q4.out 0; have hfz12_1 := blk_frozen q4.out 1) | ((with_reducible refine gate_callee (f := 37) rfl ?_); refine goesL_ (some 14) rfl rfl Try.func37 (by kernel_rfl) rfl #[.int .i64 a0, .agg #[.int .i64 a2_0, .int .i64 a2_1]] rfl ma ?_; (with_reducible refine (spec_DegreeOf.calls k a0 a2_0 a2_1 t281 _ A5.out).mono ?_); rintro e w13 ⟨rfl, hb⟩; refine ⟨_, rfl, ?_⟩; have n0_ := q0_5 (bb q2.out hb); have n1_ := q0_5 (bb q4.out hb); have n2_ := q0_5 (below_step (q1_5) hb); clear q2; clear q4; clear HB; have q2 := n0_; have q4 := n1_; have HB := n2_; clear n0_ n1_ n2_; (try clear hb); (try clear hb2); (try clear hk); (try clear hi))))
 ((try simp only [Act.put, List.setIfInBounds_toArray, List.set_cons_zero, List.set_cons_succ])); (go_cut [15] (fun v15 wc => ∃ (kq : Nat) (x15_5 : Bool), v15 = .bool x15_5 ∧ Aside0 (spec_CadenceOf.j0 kq t280 t281 x15_5 a1_0 a1_1 = some r) ∧ Aside0 (kq ≤ k) ∧ Aside0 (wc.heap[q7]? = some (.cells #[.int .i64 a1_0, .int .i64 a1_1] 25 (0, 0))) ∧ Aside0 (wc.heap[qa]? = some (.cells #[.int .i64 a2_0, .int .i64 a2_1] 25 (0, 0))) ∧ Aside0 (Below w.heap.size w wc)))
 case first =>
  have H := HC6.out; clear HC6
  by_cases c14 : t280 = 5
  · rw [if_pos c14] at H
    (have c14b0 : (t280 == 5) = true := beq_iff_eq.mpr c14); (have c14b1 : (t280 != 5) = false := bne_eq_false_iff_eq.mpr c14); clear c14; ((first | rw [c14b0] | (simp only [i64_w, i32_w]; rw [c14b0]) | skip))
    by_cases c15 : t281 = 1
    · rw [if_pos c15] at H
      (have c15b0 : (t281 == 1) = true := beq_iff_eq.mpr c15); (have c15b1 : (t281 != 1) = false := bne_eq_false_iff_eq.mpr c15); clear c15
      by_cases c16 : a1_1 = 1
      · rw [if_pos c16] at H
        (have c16b0 : (a1_1 == 1) = true := beq_iff_eq.mpr c16); (have c16b1 : (a1_1 != 1) = false := bne_eq_false_iff_eq.mpr c16); clear c16; (have H' := q0_5 H); clear H; have hnb17 := q8.out; have hnc17 := q9.out; (have hcz18_0 : w13.cell? ⟨q7, 0, none⟩ = some (.int .i64 a1_0) := (blk_cell q2.out 0).trans rfl); (have hcz18_1 : w13.cell? ⟨q7, 1, none⟩ = some (.int .i64 a1_1) := (blk_cell q2.out 1).trans rfl); have hfz18_0 := blk_frozen q2.out 0; have hfz18_1 := blk_frozen q2.out 1; (go_wp2); (go_meet)
        case rel => exact ⟨_, (true), (by first | rfl | (simp; done) | (simp [*]; done)), H', ⟨by first | omega | exact Nat.le_refl _⟩, ⟨by refine ba ?_; exact q2.out⟩, ⟨by refine ba ?_; exact q4.out⟩, ⟨by exact (q1_5)⟩⟩
      · rw [if_neg c16] at H
        (have c16b0 : (a1_1 == 1) = false := beq_eq_false_iff_ne.mpr c16); (have c16b1 : (a1_1 != 1) = true := bne_iff_ne.mpr c16); (have H' := q0_5 H); clear H; have hnb19 := q8.out; have hnc19 := q9.out; (have hcz20_0 : w13.cell? ⟨q7, 0, none⟩ = some (.int .i64 a1_0) := (blk_cell q2.out 0).trans rfl); (have hcz20_1 : w13.cell? ⟨q7, 1, none⟩ = some (.int .i64 a1_1) := (blk_cell q2.out 1).trans rfl); have hfz20_0 := blk_frozen q2.out 0; have hfz20_1 := blk_frozen q2.out 1; (go_wp2); (go_meet)
        case rel => exact ⟨_, ((a1_1 == 5)), (by first | rfl | (simp; done) | (simp [*]; done)), H', ⟨by first | omega | exact Nat.le_refl _⟩, ⟨by refine ba ?_; exact q2.out⟩, ⟨by refine ba ?_; exact q4.out⟩, ⟨by exact (q1_5)⟩⟩
    · rw [if_neg c15] at H
      (have c15b0 : (t281 == 1) = false := beq_eq_false_iff_ne.mpr c15); (have c15b1 : (t281 != 1) = true := bne_iff_ne.mpr c15); (have H' := q0_5 H); clear H; (go_wp2); (go_meet)
      case rel => exact ⟨_, (false), (by first | rfl | (simp; done) | (simp [*]; done)), H', ⟨by first | omega | exact Nat.le_refl _⟩, ⟨by refine ba ?_; exact q2.out⟩, ⟨by refine ba ?_; exact q4.out⟩, ⟨by exact (q1_5)⟩⟩
  · rw [if_neg c14] at H
    (have c14b0 : (t280 == 5) = false := beq_eq_false_iff_ne.mpr c14); (have c14b1 : (t280 != 5) = true := bne_iff_ne.mpr c14); ((first | rw [c14b0] | (simp only [i64_w, i32_w]; rw [c14b0]) | skip)); (have H' := q0_5 H); clear H; (go_wp2); (go_meet)
    case rel => exact ⟨_, (false), (by first | rfl | (simp; done) | (simp [*]; done)), H', ⟨by first | omega | exact Nat.le_refl _⟩, ⟨by refine ba ?_; exact q2.out⟩, ⟨by refine ba ?_; exact q4.out⟩, ⟨by exact (q1_5)⟩⟩
 case rest =>
  clear HC6; (try clear c1); (try clear p2); (try clear c3); (try clear c8); (try clear c9); (try clear c14); (try clear c14b0); (try clear c14b1); (try clear c15); (try clear c15b0); (try clear c15b1); (try clear c16); (try clear c16b0); (try clear c16b1); (try clear c17); (try clear c19); (try clear hcz10_0); (try clear hcz10_1); (try clear hcz12_0); (try clear hcz12_1); (try clear hcz18_0); (try clear hcz18_1); (try clear hcz20_0); (try clear hcz20_1); (try clear hfz10_0); (try clear hfz10_1); (try clear hfz12_0); (try clear hfz12_1); (try clear hfz18_0); (try clear hfz18_1); (try clear hfz20_0); (try clear hfz20_1); obtain ⟨kq, x15_5, rfl, HA, HJ5, q2, q4, HB⟩ := hcut
  cases kq with
  | zero => exact absurd HA.out (by simp [spec_CadenceOf.j0])
  | succ kj5 =>
   have H := HA.out; clear HA; (simp only [spec_CadenceOf.j0] at H)
   by_cases c21 : x15_5 = true
   · subst c21
     have H1 : (some (⟨#[102, 117, 108, 108]⟩ : ByteArray)) = some r := by rw [if_pos rfl] at H; exact H
     clear H; have H := H1; clear H1; obtain rfl := Option.some.inj H; (go_wp2); go_ret; (exact ⟨by first | rfl | (simp [errW_none, errW_some] <;> rfl) | (simp [*, errW_none, errW_some] <;> rfl), by exact (q1_5)⟩)
   · replace c21 := Bool.eq_false_iff.mpr c21
     subst c21; (have H1 : (if t280 = 4 then (spec_CadenceOf.j1 kj5 t280 t281 (t281 == 1) a1_0 a1_1) else (spec_CadenceOf.j1 kj5 t280 t281 false a1_0 a1_1)) = some r := by rw [if_neg (show ¬ (false = true) by decide)] at H; exact H); clear H; have H := H1; clear H1; have HC22 := q0_5 H; clear H; (go_upto_region 5 with (fail)); (go_cut [32] (fun v32 wc => ∃ (kq : Nat) (x32_21 : Bool), v32 = .bool x32_21 ∧ Aside0 (spec_CadenceOf.j1 kq t280 t281 x32_21 a1_0 a1_1 = some r) ∧ Aside0 (kq ≤ kj5) ∧ Aside0 (wc.heap[q7]? = some (.cells #[.int .i64 a1_0, .int .i64 a1_1] 25 (0, 0))) ∧ Aside0 (wc.heap[qa]? = some (.cells #[.int .i64 a2_0, .int .i64 a2_1] 25 (0, 0))) ∧ Aside0 (Below w.heap.size w wc)))
     case first =>
      have H := HC22.out; clear HC22
      by_cases c23 : t280 = 4
      · rw [if_pos c23] at H
        (have c23b0 : (t280 == 4) = true := beq_iff_eq.mpr c23); (have c23b1 : (t280 != 4) = false := bne_eq_false_iff_eq.mpr c23); clear c23; ((first | rw [c23b0] | (simp only [i64_w, i32_w]; rw [c23b0]) | skip)); (have H' := q0_5 H); clear H; (go_wp2); (go_meet)
        case rel => exact ⟨_, ((t281 == 1)), (by first | rfl | (simp; done) | (simp [*]; done)), H', ⟨by have := HJ5.out; first | omega | exact Nat.le_refl _⟩, ⟨by refine ba ?_; exact q2.out⟩, ⟨by refine ba ?_; exact q4.out⟩, ⟨by exact (q1_5)⟩⟩
      · rw [if_neg c23] at H
        (have c23b0 : (t280 == 4) = false := beq_eq_false_iff_ne.mpr c23); (have c23b1 : (t280 != 4) = true := bne_iff_ne.mpr c23); ((first | rw [c23b0] | (simp only [i64_w, i32_w]; rw [c23b0]) | skip)); (have H' := q0_5 H); clear H; (go_wp2); (go_meet)
        case rel => exact ⟨_, (false), (by first | rfl | (simp; done) | (simp [*]; done)), H', ⟨by have := HJ5.out; first | omega | exact Nat.le_refl _⟩, ⟨by refine ba ?_; exact q2.out⟩, ⟨by refine ba ?_; exact q4.out⟩, ⟨by exact (q1_5)⟩⟩
     case rest =>
      clear HC22; (try clear c1); (try clear c2); (try clear p2); (try clear c3); (try clear c8); (try clear c9); (try clear c14); (try clear c14b0); (try clear c14b1); (try clear c15); (try clear c15b0); (try clear c15b1); (try clear c16); (try clear c16b0); (try clear c16b1); (try clear c17); (try clear c19); (try clear c21); (try clear c23); (try clear c23b0); (try clear c23b1); (try clear hcz10_0); (try clear hcz10_1); (try clear hcz12_0); (try clear hcz12_1); (try clear hcz18_0); (try clear hcz18_1); (try clear hcz20_0); (try clear hcz20_1); (try clear hfz10_0); (try clear hfz10_1); (try clear hfz12_0); (try clear hfz12_1); (try clear hfz18_0); (try clear hfz18_1); (try clear hfz20_0); (try clear hfz20_1); (try clear p2); obtain ⟨kq, x32_21, rfl, HA, HJ21, q2, q4, HB⟩ := hcut
      cases kq with
      | zero => exact absurd HA.out (by simp [spec_CadenceOf.j1])
      | succ kj21 =>
       have H := HA.out; clear HA; (simp only [spec_CadenceOf.j1] at H)
       by_cases c24 : x32_21 = true
       · subst c24
         have H1 : (some (⟨#[112, 108, 97, 103, 97, 108]⟩ : ByteArray)) = some r := by rw [if_pos rfl] at H; exact H
         clear H; have H := H1; clear H1; obtain rfl := Option.some.inj H; (go_wp2); go_ret; (exact ⟨by first | rfl | (simp [errW_none, errW_some] <;> rfl) | (simp [*, errW_none, errW_some] <;> rfl), by exact (q1_5)⟩)
       · replace c24 := Bool.eq_false_iff.mpr c24
         subst c24; (have H1 : ((spec_IsChord.f a1_0 a1_1).bind fun t282 => (if t282 = true then (spec_CadenceOf.j2 kj21 t280 t281 (t281 == 5)) else (spec_CadenceOf.j2 kj21 t280 t281 false))) = some r := by rw [if_neg (show ¬ (false = true) by decide)] at H; exact H); clear H; have H := H1; clear H1; have HC25 := q0_5 H; clear H; (go_upto_region 7 with (fail)); (go_cut [39] (fun v39 wc => ∃ (kq : Nat) (x39_24 : Bool), v39 = .bool x39_24 ∧ Aside0 (spec_CadenceOf.j2 kq t280 t281 x39_24 = some r) ∧ Aside0 (kq ≤ kj21) ∧ Aside0 (wc.heap[q7]? = some (.cells #[.int .i64 a1_0, .int .i64 a1_1] 25 (0, 0))) ∧ Aside0 (wc.heap[qa]? = some (.cells #[.int .i64 a2_0, .int .i64 a2_1] 25 (0, 0))) ∧ Aside0 (Below w.heap.size w wc)))
         case first =>
          have H := HC25.out; clear HC25; replace H := Option.bind_eq_some_iff.mp H; obtain ⟨t282, A260, H⟩ := H; replace H : (if t282 = true then (spec_CadenceOf.j2 kj21 t280 t281 (t281 == 5)) else (spec_CadenceOf.j2 kj21 t280 t281 false)) = some r := H; have A26 := q0_5 A260; clear A260
          by_cases c27 : t282 = true
          · subst c27
            have H1 : (spec_CadenceOf.j2 kj21 t280 t281 (t281 == 5)) = some r := by rw [if_pos rfl] at H; exact H
            clear H; have H := H1; clear H1; (have H' := q0_5 H); clear H; have hnb28 := q8.out; have hnc28 := q9.out; (have hcz29_0 : wc.cell? ⟨q7, 0, none⟩ = some (.int .i64 a1_0) := (blk_cell q2.out 0).trans rfl); (have hcz29_1 : wc.cell? ⟨q7, 1, none⟩ = some (.int .i64 a1_1) := (blk_cell q2.out 1).trans rfl); have hfz29_0 := blk_frozen q2.out 0; have hfz29_1 := blk_frozen q2.out 1; (go_wp2_with (first | ((with_reducible refine gate_callee (f := 20) rfl ?_); refine goesL_ (some 41) rfl rfl Try.func20 (by kernel_rfl) rfl #[.agg #[.int .i64 a1_0, .int .i64 a1_1]] rfl ma ?_; (with_reducible refine (spec_IsChord.calls a1_0 a1_1 true _ A26.out).mono ?_); rintro e w30 ⟨rfl, hb⟩; refine ⟨_, rfl, ?_⟩; have n0_ := q0_5 (bb q2.out hb); have n1_ := q0_5 (bb q4.out hb); have n2_ := q0_5 (below_step (q1_5) hb); clear q2; clear q4; clear HB; have q2 := n0_; have q4 := n1_; have HB := n2_; clear n0_ n1_ n2_; (try clear hb); (try clear hb2); (try clear hk); (try clear hi)))); (go_meet)
            case rel => exact ⟨_, ((t281 == 5)), (by first | rfl | (simp; done) | (simp [*]; done)), H', ⟨by have := HJ5.out; have := HJ21.out; first | omega | exact Nat.le_refl _⟩, ⟨by refine ba ?_; exact q2.out⟩, ⟨by refine ba ?_; exact q4.out⟩, ⟨by exact (q1_5)⟩⟩
          · replace c27 := Bool.eq_false_iff.mpr c27
            subst c27; (have H1 : (spec_CadenceOf.j2 kj21 t280 t281 false) = some r := by rw [if_neg (show ¬ (false = true) by decide)] at H; exact H); clear H; have H := H1; clear H1; (have H' := q0_5 H); clear H; have hnb31 := q8.out; have hnc31 := q9.out; (have hcz32_0 : wc.cell? ⟨q7, 0, none⟩ = some (.int .i64 a1_0) := (blk_cell q2.out 0).trans rfl); (have hcz32_1 : wc.cell? ⟨q7, 1, none⟩ = some (.int .i64 a1_1) := (blk_cell q2.out 1).trans rfl); have hfz32_0 := blk_frozen q2.out 0; have hfz32_1 := blk_frozen q2.out 1; (go_wp2_with (first | ((with_reducible refine gate_callee (f := 20) rfl ?_); refine goesL_ (some 41) rfl rfl Try.func20 (by kernel_rfl) rfl #[.agg #[.int .i64 a1_0, .int .i64 a1_1]] rfl ma ?_; (with_reducible refine (spec_IsChord.calls a1_0 a1_1 false _ A26.out).mono ?_); rintro e w33 ⟨rfl, hb⟩; refine ⟨_, rfl, ?_⟩; have n0_ := q0_5 (bb q2.out hb); have n1_ := q0_5 (bb q4.out hb); have n2_ := q0_5 (below_step (q1_5) hb); clear q2; clear q4; clear HB; have q2 := n0_; have q4 := n1_; have HB := n2_; clear n0_ n1_ n2_; (try clear hb); (try clear hb2); (try clear hk); (try clear hi)))); (go_meet)
            case rel => exact ⟨_, (false), (by first | rfl | (simp; done) | (simp [*]; done)), H', ⟨by have := HJ5.out; have := HJ21.out; first | omega | exact Nat.le_refl _⟩, ⟨by refine ba ?_; exact q2.out⟩, ⟨by refine ba ?_; exact q4.out⟩, ⟨by exact (q1_5)⟩⟩
         case rest =>
          clear HC25; (try clear c1); (try clear c2); (try clear p2); (try clear c3); (try clear c8); (try clear c9); (try clear c14); (try clear c14b0); (try clear c14b1); (try clear c15); (try clear c15b0); (try clear c15b1); (try clear c16); (try clear c16b0); (try clear c16b1); (try clear c17); (try clear c19); (try clear c20); (try clear c21); (try clear c23); (try clear c23b0); (try clear c23b1); (try clear c24); (try clear c27); (try clear c28); (try clear c31); (try clear hcz10_0); (try clear hcz10_1); (try clear hcz12_0); (try clear hcz12_1); (try clear hcz18_0); (try clear hcz18_1); (try clear hcz20_0); (try clear hcz20_1); (try clear hcz29_0); (try clear hcz29_1); (try clear hcz32_0); (try clear hcz32_1); (try clear hfz10_0); (try clear hfz10_1); (try clear hfz12_0); (try clear hfz12_1); (try clear hfz18_0); (try clear hfz18_1); (try clear hfz20_0); (try clear hfz20_1); (try clear hfz29_0); (try clear hfz29_1); (try clear hfz32_0); (try clear hfz32_1); (try clear p2); obtain ⟨kq, x39_24, rfl, HA, HJ24, q2, q4, HB⟩ := hcut
          cases kq with
          | zero => exact absurd HA.out (by simp [spec_CadenceOf.j2])
          | succ kj24 =>
           have H := HA.out; clear HA; (simp only [spec_CadenceOf.j2] at H)
           by_cases c34 : x39_24 = true
           · subst c34
             have H1 : (some (⟨#[104, 97, 108, 102]⟩ : ByteArray)) = some r := by rw [if_pos rfl] at H; exact H
             clear H; have H := H1; clear H1; obtain rfl := Option.some.inj H; (go_wp2); go_ret; (exact ⟨by first | rfl | (simp [errW_none, errW_some] <;> rfl) | (simp [*, errW_none, errW_some] <;> rfl), by exact (q1_5)⟩)
           · replace c34 := Bool.eq_false_iff.mpr c34
             subst c34; (have H1 : (if t280 = 5 then (if t281 = 6 then (some (⟨#[98, 114, 111, 107, 101, 110]⟩ : ByteArray)) else (some (⟨#[]⟩ : ByteArray))) else (some (⟨#[]⟩ : ByteArray))) = some r := by rw [if_neg (show ¬ (false = true) by decide)] at H; exact H); clear H; have H := H1; clear H1
             by_cases c35 : t280 = 5
             · rw [if_pos c35] at H
               (have c35b0 : (t280 == 5) = true := beq_iff_eq.mpr c35); (have c35b1 : (t280 != 5) = false := bne_eq_false_iff_eq.mpr c35); clear c35
               by_cases c36 : t281 = 6
               · rw [if_pos c36] at H
                 (have c36b0 : (t281 == 6) = true := beq_iff_eq.mpr c36); (have c36b1 : (t281 != 6) = false := bne_eq_false_iff_eq.mpr c36); clear c36; obtain rfl := Option.some.inj H; (go_wp2); go_ret; (exact ⟨by first | rfl | (simp [errW_none, errW_some] <;> rfl) | (simp [*, errW_none, errW_some] <;> rfl), by exact (q1_5)⟩)
               · rw [if_neg c36] at H
                 (have c36b0 : (t281 == 6) = false := beq_eq_false_iff_ne.mpr c36); (have c36b1 : (t281 != 6) = true := bne_iff_ne.mpr c36); obtain rfl := Option.some.inj H; (go_wp2); go_ret; (exact ⟨by first | rfl | (simp [errW_none, errW_some] <;> rfl) | (simp [*, errW_none, errW_some] <;> rfl), by exact (q1_5)⟩)
             · rw [if_neg c35] at H
               (have c35b0 : (t280 == 5) = false := beq_eq_false_iff_ne.mpr c35); (have c35b1 : (t280 != 5) = true := bne_iff_ne.mpr c35); obtain rfl := Option.some.inj H; (go_wp2); go_ret; (exact ⟨by first | rfl | (simp [errW_none, errW_some] <;> rfl) | (simp [*, errW_none, errW_some] <;> rfl), by exact (q1_5)⟩)
end Go.Proofs.Ytlkicjkoejpmbaa.PFnCadences
