-- Written for this claim by a program of this repository (wip/tools/print2.py), out of the translation; Lean checks it.
import Derived.Test.YtlkicjkoejpmbaaPFnCadencesx0
import Derived.Test.YtlkicjkoejpmbaaPFnCadencesx1
import Derived.Test.YtlkicjkoejpmbaaPFnCadencesx3
namespace Go.Proofs.Ytlkicjkoejpmbaa.PFnCadences
open Go.RowKit Go.Proofs.YtlkicjkoejpmbaaW.PrintWords Go.Proofs.YtlkicjkoejpmbaaW.PrintLast Go.Proofs.YtlkicjkoejpmbaaW.PrintMore
attribute [local go_sem] max2_int min2_int max_two min_two max_three min_three max_four min_four   -- for this text's walks alone
set_option linter.unusedVariables false
set_option linter.unusedSimpArgs false
-- SHORT
theorem qe_4 {p : Prop} (f : p := by repeat (first | (with_reducible first | exact HB.out | apply below_alloc | apply pw_below_drewN | apply below_drew1) | exact HB.out)) : p := f
theorem q6_4 {p : Prop} (f : p := by repeat (first | (with_reducible first | exact HB.out | apply below_alloc | apply pw_below_drewN | apply below_drew1 | refine below_set ?_ qk.out) | exact HB.out)) : p := f
theorem qd_4 {p : Prop} (f : p := by repeat (first | (with_reducible first | exact HB.out | apply below_alloc | apply pw_below_drewN | apply below_drew1 | refine below_set ?_ ql.out) | exact HB.out)) : p := f
theorem q2_4 {p : Prop} (f : p := by repeat (first | (with_reducible first | exact HB.out | apply below_alloc | apply pw_below_drewN | apply below_drew1 | refine below_set ?_ ql.out | refine below_set ?_ qm.out) | exact HB.out)) : p := f
theorem qg_4 {p : Prop} (f : p := by repeat (first | (with_reducible first | exact HB.out | apply below_alloc | apply pw_below_drewN | apply below_drew1 | refine below_set ?_ qh.out) | exact HB.out)) : p := f
theorem q0_4 {p : Prop} (h : p) : Aside0 p := ⟨h⟩
/-! ### impl_DegreeOf: function 11 -/
def impl_DegreeOf.j0 : Nat → Int → Bool → Int → Int → Option (Int)
 | 0, _, _, _, _ => none
 | k + 1, x0, x12, x251000, x251001 => if x12 = true then (some 0) else ((impl_scale.f).bind fun t253 => ((impl_TonicOf.f x0).bind fun t256 => ((impl_Mod.f (wrap64 (x251000 - t256)) 12).bind fun t257 => ((slices_Index_int_int.f k t253 t257).bind fun t258 => (some (wrap64 (t258 + 1)))))))
def impl_DegreeOf.f (k : Nat) (a0 : Int) (a1_0 : Int) (a1_1 : Int) : Option (Int) := (impl_IsKey.f a0).bind fun t251 => (if t251 = true then ((impl_IsChord.f a1_0 a1_1).bind fun t252 => (impl_DegreeOf.j0 k a0 (!t252) a1_0 a1_1)) else (impl_DegreeOf.j0 k a0 true a1_0 a1_1))
theorem impl_DegreeOf.mono_l : ∀ k, (∀ y0 y1 y2 y3, LeO (impl_DegreeOf.j0 k y0 y1 y2 y3) (impl_DegreeOf.j0 (k + 1) y0 y1 y2 y3))
 | 0 => fun _ _ _ _ r h => by simp [impl_DegreeOf.j0] at h
 | k + 1 => by
  have ih0 := impl_DegreeOf.mono_l k
  · intro y0 y1 y2 y3
    unfold impl_DegreeOf.j0
    repeat' first
    | (with_reducible exact ih0 _ _ _ _)
    | (with_reducible exact slices_Index_int_int.mono _ _ _)
    | (with_reducible exact LeO.refl _)
    | (with_reducible exact LeO.none _)
    | (with_reducible refine LeO.ite ?_ ?_)
    | (with_reducible refine LeO.bind ?_ (fun _ => ?_))
    | exact ih0 _ _ _ _
    | exact slices_Index_int_int.mono _ _ _
    | exact LeO.none _
    | refine LeO.ite ?_ ?_
    | refine LeO.bind ?_ (fun _ => ?_)
theorem impl_DegreeOf.mono : ∀ a0 a1 a2 k, LeO (impl_DegreeOf.f k a0 a1 a2) (impl_DegreeOf.f (k + 1) a0 a1 a2) := by
 intro a0 a1 a2 k; have ih0 := impl_DegreeOf.mono_l k; unfold impl_DegreeOf.f
 repeat' first
  | (with_reducible exact ih0 _ _ _ _)
  | (with_reducible exact slices_Index_int_int.mono _ _ _)
  | (with_reducible exact LeO.refl _)
  | (with_reducible exact LeO.none _)
  | (with_reducible refine LeO.ite ?_ ?_)
  | (with_reducible refine LeO.bind ?_ (fun _ => ?_))
  | exact ih0 _ _ _ _
  | exact slices_Index_int_int.mono _ _ _
  | exact LeO.none _
  | refine LeO.ite ?_ ?_
  | refine LeO.bind ?_ (fun _ => ?_)
def impl_DegreeOf.T3 : Bool × List (List Nat × List Nat) := (true, [([], []), ([], []), ([1], [1]), ([], []), ([3, 0], [3]), ([2, 4], [2, 4]), ([5, 4], [5]), ([0, 6, 6], [0, 6]), ([7], [7]), ([8, 7, 0, 1, 2, 3, 4, 5, 6, 7, 8], [8])])
def impl_DegreeOf.B3 : List Nat := [0, 0, 2, 0, 9, 31, 63, 127, 255, 511]
theorem impl_DegreeOf.tab3 : rtab .any (opsOf Try.f11 3) = impl_DegreeOf.T3 := by kernel_rfl
theorem impl_DegreeOf.bits3 : waitsOk impl_DegreeOf.T3.2 impl_DegreeOf.B3 = true := by kernel_rfl
set_option maxHeartbeats 8000000 in
set_option maxRecDepth 100000 in
theorem impl_DegreeOf.calls (k : Nat) (a0 : Int) (a1_0 : Int) (a1_1 : Int) (r : Int) (w : World) (h : impl_DegreeOf.f k a0 a1_0 a1_1 = some r) :
 Calls Try.prog 11 #[.int .i64 a0, .agg #[.int .i64 a1_0, .int .i64 a1_1]] w fun e w' => e = .returned (.int .i64 r) ∧ Below w.heap.size w w' := by
 have hu25 := Try.underlying25; have HB := q0_4 (Below.refl w.heap.size w); (have H : ((impl_IsKey.f a0).bind fun t251 => (if t251 = true then ((impl_IsChord.f a1_0 a1_1).bind fun t252 => (impl_DegreeOf.j0 k a0 (!t252) a1_0 a1_1)) else (impl_DegreeOf.j0 k a0 true a1_0 a1_1))) = some r := h); clear h; have HC3 := q0_4 H; clear H; go_enter Try.func11, Try.ntmps11; (go_upto_region 1 with (first | ((with_reducible refine gate_dst (N := 3) rfl ?_); refine box_event ?hg (N := 3) ?hd (cs := #[.int .i64 a1_0, .int .i64 a1_1]) (t := 25) ?hr ?_; (case hd => rfl); (case hg => rfl); (case hr => first | (go_simp; done) | (go_simp; rfl)); intro qc hg w4 hbox hb; have n0_ := q0_4 (below_step (qe_4) hb); have n1_ := q0_4 (hbox); have n2_ := q0_4 ((by rw [hg]; exact (below_size (qe_4)) : w.heap.size ≤ qc)); have n3_ := q0_4 ((by rw [hg]; exact (below_size (qe_4)) : w.heap.size ≤ qc)); clear HB; have HB := n0_; have q4 := n1_; have GW250 := n2_; have qk := n3_; clear n0_ n1_ n2_ n3_; clear hb hbox hg))); ((try simp only [Act.put, List.setIfInBounds_toArray, List.set_cons_zero, List.set_cons_succ])); (go_cut [12] (fun v12 wc => ∃ (kq : Nat) (x12_2 : Bool), v12 = .bool x12_2 ∧ Aside0 (impl_DegreeOf.j0 kq a0 x12_2 a1_0 a1_1 = some r) ∧ Aside0 (kq ≤ k) ∧ Aside0 (wc.heap[qc]? = some (.cells #[.int .i64 a1_0, .int .i64 a1_1] 25 (0, 0))) ∧ Aside0 (Below w.heap.size w wc)))
 case first =>
  have H := HC3.out; clear HC3; replace H := Option.bind_eq_some_iff.mp H; obtain ⟨t251, A50, H⟩ := H; replace H : (if t251 = true then ((impl_IsChord.f a1_0 a1_1).bind fun t252 => (impl_DegreeOf.j0 k a0 (!t252) a1_0 a1_1)) else (impl_DegreeOf.j0 k a0 true a1_0 a1_1)) = some r := H; have A5 := q0_4 A50; clear A50
  by_cases c6 : t251 = true
  · subst c6
    have H1 : ((impl_IsChord.f a1_0 a1_1).bind fun t252 => (impl_DegreeOf.j0 k a0 (!t252) a1_0 a1_1)) = some r := by rw [if_pos rfl] at H; exact H
    clear H; have H := H1; clear H1; replace H := Option.bind_eq_some_iff.mp H; obtain ⟨t252, A70, H⟩ := H; replace H : (impl_DegreeOf.j0 k a0 (!t252) a1_0 a1_1) = some r := H; have A7 := q0_4 A70; clear A70; (have H' := q0_4 H); clear H; (go_wp2_with (first | ((with_reducible refine gate_callee (f := 40) rfl ?_); refine goesL_ (some 6) rfl rfl Try.func40 (by kernel_rfl) rfl #[.int .i64 a0] rfl ma ?_; (with_reducible refine (impl_IsKey.calls a0 true _ A5.out).mono ?_); rintro e w' ⟨rfl, ⟨nd, rfl⟩⟩; refine ⟨_, rfl, ?_⟩; have hcz8_0 : w4.cell? ⟨qc, 0, none⟩ = some (.int .i64 a1_0) := (blk_cell q4.out 0).trans rfl; have hcz8_1 : w4.cell? ⟨qc, 1, none⟩ = some (.int .i64 a1_1) := (blk_cell q4.out 1).trans rfl; have hfz8_0 := blk_frozen q4.out 0; have hfz8_1 := blk_frozen q4.out 1) | (go_at_call 19; (with_reducible refine (impl_IsChord.calls a1_0 a1_1 t252 _ A7.out).mono ?_); rintro e w9 ⟨rfl, hb⟩; have n0_ := q0_4 (bb q4.out hb); have n1_ := q0_4 (below_step (q6_4) hb); clear q4; clear HB; have q4 := n0_; have HB := n1_; clear n0_ n1_; (try clear hb); (try clear hb2); (try clear hk); (try clear hi)))); (go_meet)
    case rel => exact ⟨_, (!t252), (by first | rfl | (simp; done) | (simp [*]; done)), H', ⟨by first | omega | exact Nat.le_refl _⟩, ⟨by refine ba ?_; exact q4.out⟩, ⟨by exact (q6_4)⟩⟩
  · replace c6 := Bool.eq_false_iff.mpr c6
    subst c6; (have H1 : (impl_DegreeOf.j0 k a0 true a1_0 a1_1) = some r := by rw [if_neg (show ¬ (false = true) by decide)] at H; exact H); clear H; have H := H1; clear H1; (have H' := q0_4 H); clear H; (go_wp2_with (first | ((with_reducible refine gate_callee (f := 40) rfl ?_); refine goesL_ (some 6) rfl rfl Try.func40 (by kernel_rfl) rfl #[.int .i64 a0] rfl ma ?_; (with_reducible refine (impl_IsKey.calls a0 false _ A5.out).mono ?_); rintro e w' ⟨rfl, ⟨nd, rfl⟩⟩; refine ⟨_, rfl, ?_⟩))); (go_meet)
    case rel => exact ⟨_, (true), (by first | rfl | (simp; done) | (simp [*]; done)), H', ⟨by first | omega | exact Nat.le_refl _⟩, ⟨by refine ba ?_; exact q4.out⟩, ⟨by exact (q6_4)⟩⟩
 case rest =>
  clear HC3; (try clear c1); (try clear p2); (try clear c4); (try clear c6); (try clear hcz8_0); (try clear hcz8_1); (try clear hfz8_0); (try clear hfz8_1); obtain ⟨kq, x12_2, rfl, HA, HJ2, q4, HB⟩ := hcut
  cases kq with
  | zero => exact absurd HA.out (by simp [impl_DegreeOf.j0])
  | succ kj2 =>
   have H := HA.out; clear HA; (simp only [impl_DegreeOf.j0] at H)
   by_cases c10 : x12_2 = true
   · subst c10
     have H1 : (some 0) = some r := by rw [if_pos rfl] at H; exact H
     clear H; have H := H1; clear H1; obtain rfl := Option.some.inj H; (go_wp2); go_ret; (exact ⟨by first | rfl | (simp [errW_none, errW_some] <;> rfl) | (simp [*, errW_none, errW_some] <;> rfl), by exact (q6_4)⟩)
   · replace c10 := Bool.eq_false_iff.mpr c10
     subst c10; (have H1 : ((impl_scale.f).bind fun t253 => ((impl_TonicOf.f a0).bind fun t256 => ((impl_Mod.f (wrap64 (a1_0 - t256)) 12).bind fun t257 => ((slices_Index_int_int.f kj2 t253 t257).bind fun t258 => (some (wrap64 (t258 + 1))))))) = some r := by rw [if_neg (show ¬ (false = true) by decide)] at H; exact H); clear H; have H := H1; clear H1; replace H := Option.bind_eq_some_iff.mp H; obtain ⟨t253, A110, H⟩ := H; replace H : ((impl_TonicOf.f a0).bind fun t256 => ((impl_Mod.f (wrap64 (a1_0 - t256)) 12).bind fun t257 => ((slices_Index_int_int.f kj2 t253 t257).bind fun t258 => (some (wrap64 (t258 + 1)))))) = some r := H; have A11 := q0_4 A110; clear A110; replace H := Option.bind_eq_some_iff.mp H; obtain ⟨t256, A120, H⟩ := H; replace H : ((impl_Mod.f (wrap64 (a1_0 - t256)) 12).bind fun t257 => ((slices_Index_int_int.f kj2 t253 t257).bind fun t258 => (some (wrap64 (t258 + 1))))) = some r := H; have A12 := q0_4 A120; clear A120; replace H := Option.bind_eq_some_iff.mp H; obtain ⟨t257, A130, H⟩ := H; replace H : ((slices_Index_int_int.f kj2 t253 t257).bind fun t258 => (some (wrap64 (t258 + 1)))) = some r := H; have A13 := q0_4 A130; clear A130; replace H := Option.bind_eq_some_iff.mp H; obtain ⟨t258, A140, H⟩ := H; replace H : (some (wrap64 (t258 + 1))) = some r := H; have A14 := q0_4 A140; clear A140; obtain rfl := Option.some.inj H; (try go_wp2); have n0_ := q0_4 (blk_drew q4.out); have n1_ := q0_4 (below_drew1 HB.out); clear q4 HB; have q4 := n0_; have HB := n1_; clear n0_ n1_; refine start_ (n := 10) (S := fun w' => w'.cell? ⟨qc, 0, none⟩ = some (.int .i64 a1_0) ∧ w'.cell? ⟨qc, 1, none⟩ = some (.int .i64 a1_1)) (ds := []) (bq 0 10) (by kernel_rfl) rfl rfl ⟨(blk_cell q4.out 0).trans rfl, (blk_cell q4.out 1).trans rfl⟩ (fun hHeld => ?_); refine with_tabW impl_DegreeOf.tab3 impl_DegreeOf.bits3 (fun HT_ HW_ => ?_); generalize wc.drew = w15 at q4 HB hHeld ⊢; refine pure_ (i := 1) (N := some 14) (v := ?_) (a' := ?_) (bq 2 10) rfl rfl (any_of HT_.out (by kernel_rfl)) (fun _ _ _ h => h) (Or.inl ⟨by rfl, ?_⟩) ?_ ?_; rotate_left; (intro w'; go_simp; with_reducible rfl); rotate_left; (exact pb); refine pure_ (i := 3) (N := some 16) (v := ?_) (a' := ?_) (bq 10 10) rfl rfl (any_of HT_.out (by kernel_rfl)) (fun _ _ _ h => h) (Or.inl ⟨by rfl, ?_⟩) ?_ ?_; rotate_left; (intro w'; go_simp; with_reducible rfl); rotate_left; (exact pb); refine take_ (i := 2) (N := some 15) (v := ?_) (a' := ?_) (bq 14 10) rfl rfl (take_ofW HT_.out HW_.out (by kernel_rfl)) (fun _ _ _ h => h) (Or.inl ⟨by rfl, ?_⟩) hHeld ?_ ?_; rotate_left; (rintro w' ⟨s0, s1⟩; go_simp; with_reducible rfl); rotate_left; (exact pb); refine one_ (i := 0) (N := some 13) (bq 15 10) rfl rfl (one_of HT_.out (by kernel_rfl)) (by decide) (fun K hK => ?_); refine goes_ Try.func44 (by kernel_rfl) rfl #[] (by rfl) rfl rfl ma ?_; (with_reducible refine (impl_scale.calls  t253 _ A11.out).mono ?_); rintro e w16 ⟨v254, rfl, ho0, hb⟩; refine ⟨_, rfl, ?_⟩
     have n0_ := q0_4 (Kd.R_lower ho0 (below_size (q6_4))); have n1_ := q0_4 (bb q4.out hb); have n2_ := q0_4 (below_step (q6_4) hb); clear q4 HB; have qf := n0_; have q4 := n1_; have HB := n2_; clear n0_ n1_ n2_; ((try clear hb)); ((try clear hb2)); ((try clear hk)); ((try clear hi)); ((try clear ho0)); refine hK.out _ _ ⟨(blk_cell q4.out 0).trans rfl, (blk_cell q4.out 1).trans rfl⟩ (fun hHeld => ?_); clear hK K; refine norm_ (a' := ?_) ?_ ?_; rotate_left; ((show Act.put _ (some 13) _ = _); simp only [Act.put, List.setIfInBounds_toArray, List.set_cons_zero, List.set_cons_succ, i64_w, i32_w]; rfl); refine one_ (i := 4) (N := some 17) (bq 31 10) rfl rfl (one_of HT_.out (by kernel_rfl)) (by decide) (fun K hK => ?_); refine goes_ Try.func45 (by kernel_rfl) rfl #[.int .i64 a0] (by rfl) rfl rfl ma ?_; (with_reducible refine (impl_TonicOf.calls a0 t256 _ A12.out).mono ?_); rintro e w' ⟨rfl, ⟨nd, rfl⟩⟩; refine ⟨_, rfl, ?_⟩; refine hK.out _ _ ⟨(blk_cell q4.out 0).trans rfl, (blk_cell q4.out 1).trans rfl⟩ (fun hHeld => ?_); clear hK K; refine norm_ (a' := ?_) ?_ ?_; rotate_left; ((show Act.put _ (some 17) _ = _); simp only [Act.put, List.setIfInBounds_toArray, List.set_cons_zero, List.set_cons_succ, i64_w, i32_w]; rfl); refine pure_ (i := 5) (N := some 18) (v := ?_) (a' := ?_) (bq 63 10) rfl rfl (any_of HT_.out (by kernel_rfl)) (fun _ _ _ h => h) (Or.inl ⟨by rfl, ?_⟩) ?_ ?_; rotate_left; (intro w'; go_simp; with_reducible rfl); rotate_left; (exact pb); refine one_ (i := 6) (N := some 19) (bq 127 10) rfl rfl (one_of HT_.out (by kernel_rfl)) (by decide) (fun K hK => ?_); refine goes_ Try.func39 (by kernel_rfl) rfl #[.int .i64 (wrap64 (a1_0 - t256)), .int .i64 12] (by rfl) rfl rfl ma ?_; (with_reducible refine (impl_Mod.calls (wrap64 (a1_0 - t256)) 12 t257 _ A13.out).mono ?_); rintro e w' ⟨rfl, ⟨nd, rfl⟩⟩; refine ⟨_, rfl, ?_⟩; obtain ⟨qi, qj, eo17⟩ := Kd.R_slice qf.out; ((first | subst eo17 | (injection eo17 with f1_ f2_ f3_; have f4_ := f1_.symm; have f5_ := f3_.symm; clear f1_ f2_ f3_; subst f4_; subst f5_))); refine hK.out _ _ ⟨(blk_cell q4.out 0).trans rfl, (blk_cell q4.out 1).trans rfl⟩ (fun hHeld => ?_); clear hK K; refine norm_ (a' := ?_) ?_ ?_; rotate_left; ((show Act.put _ (some 19) _ = _); simp only [Act.put, List.setIfInBounds_toArray, List.set_cons_zero, List.set_cons_succ, i64_w, i32_w]; rfl); refine one_ (i := 7) (N := some 20) (bq 255 10) rfl rfl (one_of HT_.out (by kernel_rfl)) (by decide) (fun K hK => ?_); refine goes_ Try.func46 (by kernel_rfl) rfl #[.slice qi t253.length qj, .int .i64 t257] (by rfl) rfl rfl ma ?_; (with_reducible refine (slices_Index_int_int.calls kj2 _ _ t253 t257 t258 _ ?side1 ?side2 A14.out).mono ?_); ((case side1 => exact ca (Kd.R_reads' qf.out).2.2)); ((case side2 => exact (Kd.R_reads' qf.out).2.1)); rintro e w' ⟨rfl, ⟨nd, rfl⟩⟩; refine ⟨_, rfl, ?_⟩; refine hK.out _ _ ⟨(blk_cell q4.out 0).trans rfl, (blk_cell q4.out 1).trans rfl⟩ (fun hHeld => ?_)
     clear hK K; refine norm_ (a' := ?_) ?_ ?_; rotate_left; ((show Act.put _ (some 20) _ = _); simp only [Act.put, List.setIfInBounds_toArray, List.set_cons_zero, List.set_cons_succ, i64_w, i32_w]; rfl); refine pure_ (i := 8) (N := some 21) (v := ?_) (a' := ?_) (bq 511 10) rfl rfl (any_of HT_.out (by kernel_rfl)) (fun _ _ _ h => h) (Or.inl ⟨by rfl, ?_⟩) ?_ ?_; rotate_left; (intro w'; go_simp; with_reducible rfl); rotate_left; (exact pb); refine pure_ (i := 9) (N := some 4) (v := ?_) (a' := ?_) (bq 1023 10) rfl rfl (any_of HT_.out (by kernel_rfl)) (fun _ _ _ h => h) (Or.inl ⟨by rfl, ?_⟩) ?_ ?_; rotate_left; (intro w'; go_simp; with_reducible rfl); rotate_left; (exact pb); refine done_ (done_of HT_.out (by kernel_rfl)) ?_; (try go_wp2); go_ret; (exact ⟨by first | rfl | (simp [errW_none, errW_some] <;> rfl) | (simp [*, errW_none, errW_some] <;> rfl), by exact (q6_4)⟩)
/-! ### impl_CadenceOf: function 7 -/
mutual
def impl_CadenceOf.j0 : Nat → Int → Int → Bool → Int → Int → Option (ByteArray)
 | 0, _, _, _, _, _ => none
 | k + 1, x7, x8, x15, x260000, x260001 => if x15 = true then (some (⟨#[102, 117, 108, 108]⟩ : ByteArray)) else (if x7 = 4 then (impl_CadenceOf.j1 k x7 x8 (x8 == 1) x260000 x260001) else (impl_CadenceOf.j1 k x7 x8 false x260000 x260001))
def impl_CadenceOf.j1 : Nat → Int → Int → Bool → Int → Int → Option (ByteArray)
 | 0, _, _, _, _, _ => none
 | k + 1, x7, x8, x32, x260000, x260001 => if x32 = true then (some (⟨#[112, 108, 97, 103, 97, 108]⟩ : ByteArray)) else ((impl_IsChord.f x260000 x260001).bind fun t263 => (if t263 = true then (impl_CadenceOf.j2 k x7 x8 (x8 == 5)) else (impl_CadenceOf.j2 k x7 x8 false)))
def impl_CadenceOf.j2 : Nat → Int → Int → Bool → Option (ByteArray)
 | 0, _, _, _ => none
 | k + 1, x7, x8, x39 => if x39 = true then (some (⟨#[104, 97, 108, 102]⟩ : ByteArray)) else (if x7 = 5 then (if x8 = 6 then (some (⟨#[98, 114, 111, 107, 101, 110]⟩ : ByteArray)) else (some (⟨#[]⟩ : ByteArray))) else (some (⟨#[]⟩ : ByteArray)))
end
def impl_CadenceOf.f (k : Nat) (a0 : Int) (a1_0 : Int) (a1_1 : Int) (a2_0 : Int) (a2_1 : Int) : Option (ByteArray) := (impl_DegreeOf.f k a0 a1_0 a1_1).bind fun t261 => ((impl_DegreeOf.f k a0 a2_0 a2_1).bind fun t262 => (if t261 = 5 then (if t262 = 1 then (if a1_1 = 1 then (impl_CadenceOf.j0 k t261 t262 true a1_0 a1_1) else (impl_CadenceOf.j0 k t261 t262 (a1_1 == 5) a1_0 a1_1)) else (impl_CadenceOf.j0 k t261 t262 false a1_0 a1_1)) else (impl_CadenceOf.j0 k t261 t262 false a1_0 a1_1)))
theorem impl_CadenceOf.mono_l : ∀ k, (∀ y0 y1 y2 y3 y4, LeO (impl_CadenceOf.j0 k y0 y1 y2 y3 y4) (impl_CadenceOf.j0 (k + 1) y0 y1 y2 y3 y4)) ∧ (∀ y0 y1 y2 y3 y4, LeO (impl_CadenceOf.j1 k y0 y1 y2 y3 y4) (impl_CadenceOf.j1 (k + 1) y0 y1 y2 y3 y4)) ∧ (∀ y0 y1 y2, LeO (impl_CadenceOf.j2 k y0 y1 y2) (impl_CadenceOf.j2 (k + 1) y0 y1 y2))
 | 0 => ⟨fun _ _ _ _ _ r h => by simp [impl_CadenceOf.j0] at h, fun _ _ _ _ _ r h => by simp [impl_CadenceOf.j1] at h, fun _ _ _ r h => by simp [impl_CadenceOf.j2] at h⟩
 | k + 1 => by
  obtain ⟨ih0, ih1, ih2⟩ := impl_CadenceOf.mono_l k; refine ⟨?_, ?_, ?_⟩
  · intro y0 y1 y2 y3 y4
    unfold impl_CadenceOf.j0
    repeat' first
    | (with_reducible exact ih0 _ _ _ _ _)
    | (with_reducible exact ih1 _ _ _ _ _)
    | (with_reducible exact ih2 _ _ _)
    | (with_reducible exact impl_DegreeOf.mono _ _ _ _)
    | (with_reducible exact LeO.refl _)
    | (with_reducible exact LeO.none _)
    | (with_reducible refine LeO.ite ?_ ?_)
    | (with_reducible refine LeO.bind ?_ (fun _ => ?_))
    | exact ih0 _ _ _ _ _
    | exact ih1 _ _ _ _ _
    | exact ih2 _ _ _
    | exact impl_DegreeOf.mono _ _ _ _
    | exact LeO.none _
    | refine LeO.ite ?_ ?_
    | refine LeO.bind ?_ (fun _ => ?_)
  · intro y0 y1 y2 y3 y4
    unfold impl_CadenceOf.j1
    repeat' first
    | (with_reducible exact ih0 _ _ _ _ _)
    | (with_reducible exact ih1 _ _ _ _ _)
    | (with_reducible exact ih2 _ _ _)
    | (with_reducible exact impl_DegreeOf.mono _ _ _ _)
    | (with_reducible exact LeO.refl _)
    | (with_reducible exact LeO.none _)
    | (with_reducible refine LeO.ite ?_ ?_)
    | (with_reducible refine LeO.bind ?_ (fun _ => ?_))
    | exact ih0 _ _ _ _ _
    | exact ih1 _ _ _ _ _
    | exact ih2 _ _ _
    | exact impl_DegreeOf.mono _ _ _ _
    | exact LeO.none _
    | refine LeO.ite ?_ ?_
    | refine LeO.bind ?_ (fun _ => ?_)
  · intro y0 y1 y2
    unfold impl_CadenceOf.j2
    repeat' first
    | (with_reducible exact ih0 _ _ _ _ _)
    | (with_reducible exact ih1 _ _ _ _ _)
    | (with_reducible exact ih2 _ _ _)
    | (with_reducible exact impl_DegreeOf.mono _ _ _ _)
    | (with_reducible exact LeO.refl _)
    | (with_reducible exact LeO.none _)
    | (with_reducible refine LeO.ite ?_ ?_)
    | (with_reducible refine LeO.bind ?_ (fun _ => ?_))
    | exact ih0 _ _ _ _ _
    | exact ih1 _ _ _ _ _
    | exact ih2 _ _ _
    | exact impl_DegreeOf.mono _ _ _ _
    | exact LeO.none _
    | refine LeO.ite ?_ ?_
    | refine LeO.bind ?_ (fun _ => ?_)
theorem impl_CadenceOf.mono : ∀ a0 a1 a2 a3 a4 k, LeO (impl_CadenceOf.f k a0 a1 a2 a3 a4) (impl_CadenceOf.f (k + 1) a0 a1 a2 a3 a4) := by
 intro a0 a1 a2 a3 a4 k; obtain ⟨ih0, ih1, ih2⟩ := impl_CadenceOf.mono_l k; unfold impl_CadenceOf.f
 repeat' first
  | (with_reducible exact ih0 _ _ _ _ _)
  | (with_reducible exact ih1 _ _ _ _ _)
  | (with_reducible exact ih2 _ _ _)
  | (with_reducible exact impl_DegreeOf.mono _ _ _ _)
  | (with_reducible exact LeO.refl _)
  | (with_reducible exact LeO.none _)
  | (with_reducible refine LeO.ite ?_ ?_)
  | (with_reducible refine LeO.bind ?_ (fun _ => ?_))
  | exact ih0 _ _ _ _ _
  | exact ih1 _ _ _ _ _
  | exact ih2 _ _ _
  | exact impl_DegreeOf.mono _ _ _ _
  | exact LeO.none _
  | refine LeO.ite ?_ ?_
  | refine LeO.bind ?_ (fun _ => ?_)
def impl_CadenceOf.T1 : Bool × List (List Nat × List Nat) := (true, [([], []), ([], []), ([0, 1], [0, 1]), ([], []), ([], []), ([3, 4, 2], [3, 4]), ([2, 5, 0, 1, 2], [2]), ([5, 6, 0, 1, 2, 3, 4, 5, 6], [5])])
def impl_CadenceOf.B1 : List Nat := [0, 0, 3, 0, 0, 31, 63, 127]
theorem impl_CadenceOf.tab1 : rtab .any (opsOf Try.f7 1) = impl_CadenceOf.T1 := by kernel_rfl
theorem impl_CadenceOf.bits1 : waitsOk impl_CadenceOf.T1.2 impl_CadenceOf.B1 = true := by kernel_rfl
set_option maxHeartbeats 8000000 in
set_option maxRecDepth 100000 in
theorem impl_CadenceOf.calls (k : Nat) (a0 : Int) (a1_0 : Int) (a1_1 : Int) (a2_0 : Int) (a2_1 : Int) (r : ByteArray) (w : World) (h : impl_CadenceOf.f k a0 a1_0 a1_1 a2_0 a2_1 = some r) :
 Calls Try.prog 7 #[.int .i64 a0, .agg #[.int .i64 a1_0, .int .i64 a1_1], .agg #[.int .i64 a2_0, .int .i64 a2_1]] w fun e w' => e = .returned (.string r) ∧ Below w.heap.size w w' := by
 have hu25 := Try.underlying25; have HB := q0_4 (Below.refl w.heap.size w); (have H : ((impl_DegreeOf.f k a0 a1_0 a1_1).bind fun t261 => ((impl_DegreeOf.f k a0 a2_0 a2_1).bind fun t262 => (if t261 = 5 then (if t262 = 1 then (if a1_1 = 1 then (impl_CadenceOf.j0 k t261 t262 true a1_0 a1_1) else (impl_CadenceOf.j0 k t261 t262 (a1_1 == 5) a1_0 a1_1)) else (impl_CadenceOf.j0 k t261 t262 false a1_0 a1_1)) else (impl_CadenceOf.j0 k t261 t262 false a1_0 a1_1)))) = some r := h); clear h; replace H := Option.bind_eq_some_iff.mp H; obtain ⟨t261, A40, H⟩ := H; replace H : ((impl_DegreeOf.f k a0 a2_0 a2_1).bind fun t262 => (if t261 = 5 then (if t262 = 1 then (if a1_1 = 1 then (impl_CadenceOf.j0 k t261 t262 true a1_0 a1_1) else (impl_CadenceOf.j0 k t261 t262 (a1_1 == 5) a1_0 a1_1)) else (impl_CadenceOf.j0 k t261 t262 false a1_0 a1_1)) else (impl_CadenceOf.j0 k t261 t262 false a1_0 a1_1))) = some r := H; have A4 := q0_4 A40; clear A40; replace H := Option.bind_eq_some_iff.mp H; obtain ⟨t262, A50, H⟩ := H; replace H : (if t261 = 5 then (if t262 = 1 then (if a1_1 = 1 then (impl_CadenceOf.j0 k t261 t262 true a1_0 a1_1) else (impl_CadenceOf.j0 k t261 t262 (a1_1 == 5) a1_0 a1_1)) else (impl_CadenceOf.j0 k t261 t262 false a1_0 a1_1)) else (impl_CadenceOf.j0 k t261 t262 false a1_0 a1_1)) = some r := H; have A5 := q0_4 A50; clear A50; have HC6 := q0_4 H; clear H; go_enter Try.func7, Try.ntmps7
 (try go_wp2_with (first | ((with_reducible refine gate_dst (N := 4) rfl ?_); refine box_event ?hg (N := 4) ?hd (cs := #[.int .i64 a1_0, .int .i64 a1_1]) (t := 25) ?hr ?_; (case hd => rfl); (case hg => rfl); (case hr => first | (go_simp; done) | (go_simp; rfl)); intro q5 hg w7 hbox hb; have n0_ := q0_4 (below_step (qe_4) hb); have n1_ := q0_4 (hbox); have n2_ := q0_4 ((by rw [hg]; exact (below_size (qe_4)) : w.heap.size ≤ q5)); have n3_ := q0_4 ((by rw [hg]; exact (below_size (qe_4)) : w.heap.size ≤ q5)); clear HB; have HB := n0_; have q1 := n1_; have GW259 := n2_; have ql := n3_; clear n0_ n1_ n2_ n3_; clear hb hbox hg) | ((with_reducible refine gate_dst (N := 5) rfl ?_); refine box_event ?hg (N := 5) ?hd (cs := #[.int .i64 a2_0, .int .i64 a2_1]) (t := 25) ?hr ?_; (case hd => rfl); (case hg => rfl); (case hr => first | (go_simp; done) | (go_simp; rfl)); intro q9 hg w8 hbox hb; have n0_ := q0_4 (bb q1.out hb); have n1_ := q0_4 (below_step (qd_4) hb); have n2_ := q0_4 (hbox); have n3_ := q0_4 ((by rw [hg]; exact (below_size (qd_4)) : w.heap.size ≤ q9)); have n4_ := q0_4 ((by rw [hg]; exact (below_size (qd_4)) : w.heap.size ≤ q9)); have n5_ := q0_4 ((by rw [hg]; exact Nat.ne_of_lt (bl q1.out) : q5 ≠ q9)); have n6_ := q0_4 ((by rw [hg]; exact Nat.ne_of_gt (bl q1.out) : q9 ≠ q5)); clear q1; clear HB; have q1 := n0_; have HB := n1_; have q3 := n2_; have GW260 := n3_; have qm := n4_; have q7 := n5_; have q8 := n6_; clear n0_ n1_ n2_ n3_ n4_ n5_ n6_; clear hb hbox hg))); have n0_ := q0_4 (blk_drew q1.out); have n1_ := q0_4 (blk_drew q3.out); have n2_ := q0_4 (below_drew1 HB.out); clear q1 q3 HB; have q1 := n0_; have q3 := n1_; have HB := n2_; clear n0_ n1_ n2_; refine start_ (n := 8) (S := fun w' => w'.cell? ⟨q5, 0, none⟩ = some (.int .i64 a1_0) ∧ w'.cell? ⟨q5, 1, none⟩ = some (.int .i64 a1_1) ∧ w'.cell? ⟨q9, 0, none⟩ = some (.int .i64 a2_0) ∧ w'.cell? ⟨q9, 1, none⟩ = some (.int .i64 a2_1)) (ds := []) (bq 0 8) (by kernel_rfl) rfl rfl ⟨(blk_cell q1.out 0).trans rfl, (blk_cell q1.out 1).trans rfl, (blk_cell q3.out 0).trans rfl, (blk_cell q3.out 1).trans rfl⟩ (fun hHeld => ?_); refine with_tabW impl_CadenceOf.tab1 impl_CadenceOf.bits1 (fun HT_ HW_ => ?_); generalize w8.drew = w9 at q1 q3 HB hHeld ⊢; refine pure_ (i := 0) (N := some 9) (v := ?_) (a' := ?_) (bq 1 8) rfl rfl (any_of HT_.out (by kernel_rfl)) (fun _ _ _ h => h) (Or.inl ⟨by rfl, ?_⟩) ?_ ?_; rotate_left; (intro w'; go_simp; with_reducible rfl); rotate_left; (exact pb); refine pure_ (i := 3) (N := some 12) (v := ?_) (a' := ?_) (bq 9 8) rfl rfl (any_of HT_.out (by kernel_rfl)) (fun _ _ _ h => h) (Or.inl ⟨by rfl, ?_⟩) ?_ ?_; rotate_left; (intro w'; go_simp; with_reducible rfl); rotate_left; (exact pb)
 refine take_ (i := 1) (N := some 10) (v := ?_) (a' := ?_) (bq 11 8) rfl rfl (take_ofW HT_.out HW_.out (by kernel_rfl)) (fun _ _ _ h => h) (Or.inl ⟨by rfl, ?_⟩) hHeld ?_ ?_; rotate_left; (rintro w' ⟨s0, s1, s2, s3⟩; go_simp; with_reducible rfl); rotate_left; (exact pb); refine take_ (i := 4) (N := some 13) (v := ?_) (a' := ?_) (bq 27 8) rfl rfl (take_ofW HT_.out HW_.out (by kernel_rfl)) (fun _ _ _ h => h) (Or.inl ⟨by rfl, ?_⟩) hHeld ?_ ?_; rotate_left; (rintro w' ⟨s0, s1, s2, s3⟩; go_simp; with_reducible rfl); rotate_left; (exact pb); refine one_ (i := 2) (N := some 11) (bq 31 8) rfl rfl (one_of HT_.out (by kernel_rfl)) (by decide) (fun K hK => ?_); refine goes_ Try.func11 (by kernel_rfl) rfl #[.int .i64 a0, .agg #[.int .i64 a1_0, .int .i64 a1_1]] (by rfl) rfl rfl ma ?_; (with_reducible refine (impl_DegreeOf.calls k a0 a1_0 a1_1 t261 _ A4.out).mono ?_); rintro e w10 ⟨rfl, hb⟩; refine ⟨_, rfl, ?_⟩; have n0_ := q0_4 (bb q1.out hb); have n1_ := q0_4 (bb q3.out hb); have n2_ := q0_4 (below_step (q2_4) hb); clear q1 q3 HB; have q1 := n0_; have q3 := n1_; have HB := n2_; clear n0_ n1_ n2_; ((try clear hb)); ((try clear hb2)); ((try clear hk)); ((try clear hi)); refine hK.out _ _ ⟨(blk_cell q1.out 0).trans rfl, (blk_cell q1.out 1).trans rfl, (blk_cell q3.out 0).trans rfl, (blk_cell q3.out 1).trans rfl⟩ (fun hHeld => ?_); clear hK K; refine norm_ (a' := ?_) ?_ ?_; rotate_left; ((show Act.put _ (some 11) _ = _); simp only [Act.put, List.setIfInBounds_toArray, List.set_cons_zero, List.set_cons_succ, i64_w, i32_w]; rfl); refine one_ (i := 5) (N := some 14) (bq 63 8) rfl rfl (one_of HT_.out (by kernel_rfl)) (by decide) (fun K hK => ?_); refine goes_ Try.func11 (by kernel_rfl) rfl #[.int .i64 a0, .agg #[.int .i64 a2_0, .int .i64 a2_1]] (by rfl) rfl rfl ma ?_; (with_reducible refine (impl_DegreeOf.calls k a0 a2_0 a2_1 t262 _ A5.out).mono ?_); rintro e w11 ⟨rfl, hb⟩; refine ⟨_, rfl, ?_⟩; have n0_ := q0_4 (bb q1.out hb); have n1_ := q0_4 (bb q3.out hb); have n2_ := q0_4 (below_step (q2_4) hb); clear q1 q3 HB; have q1 := n0_; have q3 := n1_; have HB := n2_; clear n0_ n1_ n2_; ((try clear hb)); ((try clear hb2)); ((try clear hk)); ((try clear hi)); refine hK.out _ _ ⟨(blk_cell q1.out 0).trans rfl, (blk_cell q1.out 1).trans rfl, (blk_cell q3.out 0).trans rfl, (blk_cell q3.out 1).trans rfl⟩ (fun hHeld => ?_); clear hK K; refine norm_ (a' := ?_) ?_ ?_; rotate_left; ((show Act.put _ (some 14) _ = _); simp only [Act.put, List.setIfInBounds_toArray, List.set_cons_zero, List.set_cons_succ, i64_w, i32_w]; rfl); refine pure_ (i := 6) (N := some 7) (v := ?_) (a' := ?_) (bq 127 8) rfl rfl (any_of HT_.out (by kernel_rfl)) (fun _ _ _ h => h) (Or.inl ⟨by rfl, ?_⟩) ?_ ?_; rotate_left; (intro w'; go_simp; with_reducible rfl); rotate_left; (exact pb)
 refine pure_ (i := 7) (N := some 8) (v := ?_) (a' := ?_) (bq 255 8) rfl rfl (any_of HT_.out (by kernel_rfl)) (fun _ _ _ h => h) (Or.inl ⟨by rfl, ?_⟩) ?_ ?_; rotate_left; (intro w'; go_simp; with_reducible rfl); rotate_left; (exact pb); refine done_ (done_of HT_.out (by kernel_rfl)) ?_; (go_upto_region 2 with (fail)); (go_cut [15] (fun v15 wc => ∃ (kq : Nat) (x15_5 : Bool), v15 = .bool x15_5 ∧ Aside0 (impl_CadenceOf.j0 kq t261 t262 x15_5 a1_0 a1_1 = some r) ∧ Aside0 (kq ≤ k) ∧ Aside0 (wc.heap[q5]? = some (.cells #[.int .i64 a1_0, .int .i64 a1_1] 25 (0, 0))) ∧ Aside0 (wc.heap[q9]? = some (.cells #[.int .i64 a2_0, .int .i64 a2_1] 25 (0, 0))) ∧ Aside0 (Below w.heap.size w wc)))
 case first =>
  have H := HC6.out; clear HC6
  by_cases c12 : t261 = 5
  · rw [if_pos c12] at H
    (have c12b0 : (t261 == 5) = true := beq_iff_eq.mpr c12); (have c12b1 : (t261 != 5) = false := bne_eq_false_iff_eq.mpr c12); clear c12; ((first | rw [c12b0] | (simp only [i64_w, i32_w]; rw [c12b0]) | skip))
    by_cases c13 : t262 = 1
    · rw [if_pos c13] at H
      (have c13b0 : (t262 == 1) = true := beq_iff_eq.mpr c13); (have c13b1 : (t262 != 1) = false := bne_eq_false_iff_eq.mpr c13); clear c13
      by_cases c14 : a1_1 = 1
      · rw [if_pos c14] at H
        (have c14b0 : (a1_1 == 1) = true := beq_iff_eq.mpr c14); (have c14b1 : (a1_1 != 1) = false := bne_eq_false_iff_eq.mpr c14); clear c14; (have H' := q0_4 H); clear H; have hnb15 := q7.out; have hnc15 := q8.out; (have hcz16_0 : w11.cell? ⟨q5, 0, none⟩ = some (.int .i64 a1_0) := (blk_cell q1.out 0).trans rfl); (have hcz16_1 : w11.cell? ⟨q5, 1, none⟩ = some (.int .i64 a1_1) := (blk_cell q1.out 1).trans rfl); have hfz16_0 := blk_frozen q1.out 0; have hfz16_1 := blk_frozen q1.out 1; (go_wp2); (go_meet)
        case rel => exact ⟨_, (true), (by first | rfl | (simp; done) | (simp [*]; done)), H', ⟨by first | omega | exact Nat.le_refl _⟩, ⟨by refine ba ?_; exact q1.out⟩, ⟨by refine ba ?_; exact q3.out⟩, ⟨by exact (q2_4)⟩⟩
      · rw [if_neg c14] at H
        (have c14b0 : (a1_1 == 1) = false := beq_eq_false_iff_ne.mpr c14); (have c14b1 : (a1_1 != 1) = true := bne_iff_ne.mpr c14); (have H' := q0_4 H); clear H; have hnb17 := q7.out; have hnc17 := q8.out; (have hcz18_0 : w11.cell? ⟨q5, 0, none⟩ = some (.int .i64 a1_0) := (blk_cell q1.out 0).trans rfl); (have hcz18_1 : w11.cell? ⟨q5, 1, none⟩ = some (.int .i64 a1_1) := (blk_cell q1.out 1).trans rfl); have hfz18_0 := blk_frozen q1.out 0; have hfz18_1 := blk_frozen q1.out 1; (go_wp2); (go_meet)
        case rel => exact ⟨_, ((a1_1 == 5)), (by first | rfl | (simp; done) | (simp [*]; done)), H', ⟨by first | omega | exact Nat.le_refl _⟩, ⟨by refine ba ?_; exact q1.out⟩, ⟨by refine ba ?_; exact q3.out⟩, ⟨by exact (q2_4)⟩⟩
    · rw [if_neg c13] at H
      (have c13b0 : (t262 == 1) = false := beq_eq_false_iff_ne.mpr c13); (have c13b1 : (t262 != 1) = true := bne_iff_ne.mpr c13); (have H' := q0_4 H); clear H; (go_wp2); (go_meet)
      case rel => exact ⟨_, (false), (by first | rfl | (simp; done) | (simp [*]; done)), H', ⟨by first | omega | exact Nat.le_refl _⟩, ⟨by refine ba ?_; exact q1.out⟩, ⟨by refine ba ?_; exact q3.out⟩, ⟨by exact (q2_4)⟩⟩
  · rw [if_neg c12] at H
    (have c12b0 : (t261 == 5) = false := beq_eq_false_iff_ne.mpr c12); (have c12b1 : (t261 != 5) = true := bne_iff_ne.mpr c12); ((first | rw [c12b0] | (simp only [i64_w, i32_w]; rw [c12b0]) | skip)); (have H' := q0_4 H); clear H; (go_wp2); (go_meet)
    case rel => exact ⟨_, (false), (by first | rfl | (simp; done) | (simp [*]; done)), H', ⟨by first | omega | exact Nat.le_refl _⟩, ⟨by refine ba ?_; exact q1.out⟩, ⟨by refine ba ?_; exact q3.out⟩, ⟨by exact (q2_4)⟩⟩
 case rest =>
  clear HC6; (try clear c1); (try clear p2); (try clear c7); (try clear c11); (try clear c12); (try clear c12b0); (try clear c12b1); (try clear c13); (try clear c13b0); (try clear c13b1); (try clear c14); (try clear c14b0); (try clear c14b1); (try clear c15); (try clear c17); (try clear hcz16_0); (try clear hcz16_1); (try clear hcz18_0); (try clear hcz18_1); (try clear hfz16_0); (try clear hfz16_1); (try clear hfz18_0); (try clear hfz18_1); obtain ⟨kq, x15_5, rfl, HA, HJ5, q1, q3, HB⟩ := hcut
  cases kq with
  | zero => exact absurd HA.out (by simp [impl_CadenceOf.j0])
  | succ kj5 =>
   have H := HA.out; clear HA; (simp only [impl_CadenceOf.j0] at H)
   by_cases c19 : x15_5 = true
   · subst c19
     have H1 : (some (⟨#[102, 117, 108, 108]⟩ : ByteArray)) = some r := by rw [if_pos rfl] at H; exact H
     clear H; have H := H1; clear H1; obtain rfl := Option.some.inj H; (go_wp2); go_ret; (exact ⟨by first | rfl | (simp [errW_none, errW_some] <;> rfl) | (simp [*, errW_none, errW_some] <;> rfl), by exact (q2_4)⟩)
   · replace c19 := Bool.eq_false_iff.mpr c19
     subst c19; (have H1 : (if t261 = 4 then (impl_CadenceOf.j1 kj5 t261 t262 (t262 == 1) a1_0 a1_1) else (impl_CadenceOf.j1 kj5 t261 t262 false a1_0 a1_1)) = some r := by rw [if_neg (show ¬ (false = true) by decide)] at H; exact H); clear H; have H := H1; clear H1; have HC20 := q0_4 H; clear H; (go_upto_region 4 with (fail)); (go_cut [32] (fun v32 wc => ∃ (kq : Nat) (x32_19 : Bool), v32 = .bool x32_19 ∧ Aside0 (impl_CadenceOf.j1 kq t261 t262 x32_19 a1_0 a1_1 = some r) ∧ Aside0 (kq ≤ kj5) ∧ Aside0 (wc.heap[q5]? = some (.cells #[.int .i64 a1_0, .int .i64 a1_1] 25 (0, 0))) ∧ Aside0 (wc.heap[q9]? = some (.cells #[.int .i64 a2_0, .int .i64 a2_1] 25 (0, 0))) ∧ Aside0 (Below w.heap.size w wc)))
     case first =>
      have H := HC20.out; clear HC20
      by_cases c21 : t261 = 4
      · rw [if_pos c21] at H
        (have c21b0 : (t261 == 4) = true := beq_iff_eq.mpr c21); (have c21b1 : (t261 != 4) = false := bne_eq_false_iff_eq.mpr c21); clear c21; ((first | rw [c21b0] | (simp only [i64_w, i32_w]; rw [c21b0]) | skip)); (have H' := q0_4 H); clear H; (go_wp2); (go_meet)
        case rel => exact ⟨_, ((t262 == 1)), (by first | rfl | (simp; done) | (simp [*]; done)), H', ⟨by have := HJ5.out; first | omega | exact Nat.le_refl _⟩, ⟨by refine ba ?_; exact q1.out⟩, ⟨by refine ba ?_; exact q3.out⟩, ⟨by exact (q2_4)⟩⟩
      · rw [if_neg c21] at H
        (have c21b0 : (t261 == 4) = false := beq_eq_false_iff_ne.mpr c21); (have c21b1 : (t261 != 4) = true := bne_iff_ne.mpr c21); ((first | rw [c21b0] | (simp only [i64_w, i32_w]; rw [c21b0]) | skip)); (have H' := q0_4 H); clear H; (go_wp2); (go_meet)
        case rel => exact ⟨_, (false), (by first | rfl | (simp; done) | (simp [*]; done)), H', ⟨by have := HJ5.out; first | omega | exact Nat.le_refl _⟩, ⟨by refine ba ?_; exact q1.out⟩, ⟨by refine ba ?_; exact q3.out⟩, ⟨by exact (q2_4)⟩⟩
     case rest =>
      clear HC20; (try clear c1); (try clear c2); (try clear p2); (try clear c7); (try clear c11); (try clear c12); (try clear c12b0); (try clear c12b1); (try clear c13); (try clear c13b0); (try clear c13b1); (try clear c14); (try clear c14b0); (try clear c14b1); (try clear c15); (try clear c17); (try clear c19); (try clear c21); (try clear c21b0); (try clear c21b1); (try clear hcz16_0); (try clear hcz16_1); (try clear hcz18_0); (try clear hcz18_1); (try clear hfz16_0); (try clear hfz16_1); (try clear hfz18_0); (try clear hfz18_1); (try clear p2); obtain ⟨kq, x32_19, rfl, HA, HJ19, q1, q3, HB⟩ := hcut
      cases kq with
      | zero => exact absurd HA.out (by simp [impl_CadenceOf.j1])
      | succ kj19 =>
       have H := HA.out; clear HA; (simp only [impl_CadenceOf.j1] at H)
       by_cases c22 : x32_19 = true
       · subst c22
         have H1 : (some (⟨#[112, 108, 97, 103, 97, 108]⟩ : ByteArray)) = some r := by rw [if_pos rfl] at H; exact H
         clear H; have H := H1; clear H1; obtain rfl := Option.some.inj H; (go_wp2); go_ret; (exact ⟨by first | rfl | (simp [errW_none, errW_some] <;> rfl) | (simp [*, errW_none, errW_some] <;> rfl), by exact (q2_4)⟩)
       · replace c22 := Bool.eq_false_iff.mpr c22
         subst c22; (have H1 : ((impl_IsChord.f a1_0 a1_1).bind fun t263 => (if t263 = true then (impl_CadenceOf.j2 kj19 t261 t262 (t262 == 5)) else (impl_CadenceOf.j2 kj19 t261 t262 false))) = some r := by rw [if_neg (show ¬ (false = true) by decide)] at H; exact H); clear H; have H := H1; clear H1; have HC23 := q0_4 H; clear H; (go_upto_region 6 with (fail)); (go_cut [39] (fun v39 wc => ∃ (kq : Nat) (x39_22 : Bool), v39 = .bool x39_22 ∧ Aside0 (impl_CadenceOf.j2 kq t261 t262 x39_22 = some r) ∧ Aside0 (kq ≤ kj19) ∧ Aside0 (wc.heap[q5]? = some (.cells #[.int .i64 a1_0, .int .i64 a1_1] 25 (0, 0))) ∧ Aside0 (wc.heap[q9]? = some (.cells #[.int .i64 a2_0, .int .i64 a2_1] 25 (0, 0))) ∧ Aside0 (Below w.heap.size w wc)))
         case first =>
          have H := HC23.out; clear HC23; replace H := Option.bind_eq_some_iff.mp H; obtain ⟨t263, A240, H⟩ := H; replace H : (if t263 = true then (impl_CadenceOf.j2 kj19 t261 t262 (t262 == 5)) else (impl_CadenceOf.j2 kj19 t261 t262 false)) = some r := H; have A24 := q0_4 A240; clear A240
          by_cases c25 : t263 = true
          · subst c25
            have H1 : (impl_CadenceOf.j2 kj19 t261 t262 (t262 == 5)) = some r := by rw [if_pos rfl] at H; exact H
            clear H; have H := H1; clear H1; (have H' := q0_4 H); clear H; have hnb26 := q7.out; have hnc26 := q8.out; (have hcz27_0 : wc.cell? ⟨q5, 0, none⟩ = some (.int .i64 a1_0) := (blk_cell q1.out 0).trans rfl); (have hcz27_1 : wc.cell? ⟨q5, 1, none⟩ = some (.int .i64 a1_1) := (blk_cell q1.out 1).trans rfl); have hfz27_0 := blk_frozen q1.out 0; have hfz27_1 := blk_frozen q1.out 1; (go_wp2_with (first | ((with_reducible refine gate_callee (f := 19) rfl ?_); refine goesL_ (some 41) rfl rfl Try.func19 (by kernel_rfl) rfl #[.agg #[.int .i64 a1_0, .int .i64 a1_1]] rfl ma ?_; (with_reducible refine (impl_IsChord.calls a1_0 a1_1 true _ A24.out).mono ?_); rintro e w28 ⟨rfl, hb⟩; refine ⟨_, rfl, ?_⟩; have n0_ := q0_4 (bb q1.out hb); have n1_ := q0_4 (bb q3.out hb); have n2_ := q0_4 (below_step (q2_4) hb); clear q1; clear q3; clear HB; have q1 := n0_; have q3 := n1_; have HB := n2_; clear n0_ n1_ n2_; (try clear hb); (try clear hb2); (try clear hk); (try clear hi)))); (go_meet)
            case rel => exact ⟨_, ((t262 == 5)), (by first | rfl | (simp; done) | (simp [*]; done)), H', ⟨by have := HJ5.out; have := HJ19.out; first | omega | exact Nat.le_refl _⟩, ⟨by refine ba ?_; exact q1.out⟩, ⟨by refine ba ?_; exact q3.out⟩, ⟨by exact (q2_4)⟩⟩
          · replace c25 := Bool.eq_false_iff.mpr c25
            subst c25; (have H1 : (impl_CadenceOf.j2 kj19 t261 t262 false) = some r := by rw [if_neg (show ¬ (false = true) by decide)] at H; exact H); clear H; have H := H1; clear H1; (have H' := q0_4 H); clear H; have hnb29 := q7.out; have hnc29 := q8.out; (have hcz30_0 : wc.cell? ⟨q5, 0, none⟩ = some (.int .i64 a1_0) := (blk_cell q1.out 0).trans rfl); (have hcz30_1 : wc.cell? ⟨q5, 1, none⟩ = some (.int .i64 a1_1) := (blk_cell q1.out 1).trans rfl); have hfz30_0 := blk_frozen q1.out 0; have hfz30_1 := blk_frozen q1.out 1; (go_wp2_with (first | ((with_reducible refine gate_callee (f := 19) rfl ?_); refine goesL_ (some 41) rfl rfl Try.func19 (by kernel_rfl) rfl #[.agg #[.int .i64 a1_0, .int .i64 a1_1]] rfl ma ?_; (with_reducible refine (impl_IsChord.calls a1_0 a1_1 false _ A24.out).mono ?_); rintro e w31 ⟨rfl, hb⟩; refine ⟨_, rfl, ?_⟩; have n0_ := q0_4 (bb q1.out hb); have n1_ := q0_4 (bb q3.out hb); have n2_ := q0_4 (below_step (q2_4) hb); clear q1; clear q3; clear HB; have q1 := n0_; have q3 := n1_; have HB := n2_; clear n0_ n1_ n2_; (try clear hb); (try clear hb2); (try clear hk); (try clear hi)))); (go_meet)
            case rel => exact ⟨_, (false), (by first | rfl | (simp; done) | (simp [*]; done)), H', ⟨by have := HJ5.out; have := HJ19.out; first | omega | exact Nat.le_refl _⟩, ⟨by refine ba ?_; exact q1.out⟩, ⟨by refine ba ?_; exact q3.out⟩, ⟨by exact (q2_4)⟩⟩
         case rest =>
          clear HC23; (try clear c1); (try clear c2); (try clear p2); (try clear c7); (try clear c11); (try clear c12); (try clear c12b0); (try clear c12b1); (try clear c13); (try clear c13b0); (try clear c13b1); (try clear c14); (try clear c14b0); (try clear c14b1); (try clear c15); (try clear c17); (try clear c19); (try clear c21); (try clear c21b0); (try clear c21b1); (try clear c22); (try clear c25); (try clear c26); (try clear c29); (try clear hcz16_0); (try clear hcz16_1); (try clear hcz18_0); (try clear hcz18_1); (try clear hcz27_0); (try clear hcz27_1); (try clear hcz30_0); (try clear hcz30_1); (try clear hfz16_0); (try clear hfz16_1); (try clear hfz18_0); (try clear hfz18_1); (try clear hfz27_0); (try clear hfz27_1); (try clear hfz30_0); (try clear hfz30_1); (try clear p2); obtain ⟨kq, x39_22, rfl, HA, HJ22, q1, q3, HB⟩ := hcut
          cases kq with
          | zero => exact absurd HA.out (by simp [impl_CadenceOf.j2])
          | succ kj22 =>
           have H := HA.out; clear HA; (simp only [impl_CadenceOf.j2] at H)
           by_cases c32 : x39_22 = true
           · subst c32
             have H1 : (some (⟨#[104, 97, 108, 102]⟩ : ByteArray)) = some r := by rw [if_pos rfl] at H; exact H
             clear H; have H := H1; clear H1; obtain rfl := Option.some.inj H; (go_wp2); go_ret; (exact ⟨by first | rfl | (simp [errW_none, errW_some] <;> rfl) | (simp [*, errW_none, errW_some] <;> rfl), by exact (q2_4)⟩)
           · replace c32 := Bool.eq_false_iff.mpr c32
             subst c32; (have H1 : (if t261 = 5 then (if t262 = 6 then (some (⟨#[98, 114, 111, 107, 101, 110]⟩ : ByteArray)) else (some (⟨#[]⟩ : ByteArray))) else (some (⟨#[]⟩ : ByteArray))) = some r := by rw [if_neg (show ¬ (false = true) by decide)] at H; exact H); clear H; have H := H1; clear H1
             by_cases c33 : t261 = 5
             · rw [if_pos c33] at H
               (have c33b0 : (t261 == 5) = true := beq_iff_eq.mpr c33); (have c33b1 : (t261 != 5) = false := bne_eq_false_iff_eq.mpr c33); clear c33
               by_cases c34 : t262 = 6
               · rw [if_pos c34] at H
                 (have c34b0 : (t262 == 6) = true := beq_iff_eq.mpr c34); (have c34b1 : (t262 != 6) = false := bne_eq_false_iff_eq.mpr c34); clear c34; obtain rfl := Option.some.inj H; (go_wp2); go_ret; (exact ⟨by first | rfl | (simp [errW_none, errW_some] <;> rfl) | (simp [*, errW_none, errW_some] <;> rfl), by exact (q2_4)⟩)
               · rw [if_neg c34] at H
                 (have c34b0 : (t262 == 6) = false := beq_eq_false_iff_ne.mpr c34); (have c34b1 : (t262 != 6) = true := bne_iff_ne.mpr c34); obtain rfl := Option.some.inj H; (go_wp2); go_ret; (exact ⟨by first | rfl | (simp [errW_none, errW_some] <;> rfl) | (simp [*, errW_none, errW_some] <;> rfl), by exact (q2_4)⟩)
             · rw [if_neg c33] at H
               (have c33b0 : (t261 == 5) = false := beq_eq_false_iff_ne.mpr c33); (have c33b1 : (t261 != 5) = true := bne_iff_ne.mpr c33); obtain rfl := Option.some.inj H; (go_wp2); go_ret; (exact ⟨by first | rfl | (simp [errW_none, errW_some] <;> rfl) | (simp [*, errW_none, errW_some] <;> rfl), by exact (q2_4)⟩)
/-! ### spec_IsChord: function 20 -/
def spec_IsChord.f (a0_0 : Int) (a0_1 : Int) : Option (Bool) := (spec_l1In.f a0_0 0 11).bind fun t265 => (if t265 = true then ((spec_l1In.f a0_1 1 5).bind fun t266 => (some t266)) else (some false))
set_option maxHeartbeats 8000000 in
set_option maxRecDepth 100000 in
theorem spec_IsChord.calls (a0_0 : Int) (a0_1 : Int) (r : Bool) (w : World) (h : spec_IsChord.f a0_0 a0_1 = some r) :
 Calls Try.prog 20 #[.agg #[.int .i64 a0_0, .int .i64 a0_1]] w fun e w' => e = .returned (.bool r) ∧ Below w.heap.size w w' := by
 have hu25 := Try.underlying25; have HB := q0_4 (Below.refl w.heap.size w); (have H : ((spec_l1In.f a0_0 0 11).bind fun t265 => (if t265 = true then ((spec_l1In.f a0_1 1 5).bind fun t266 => (some t266)) else (some false))) = some r := h); clear h; replace H := Option.bind_eq_some_iff.mp H; obtain ⟨t265, A20, H⟩ := H; replace H : (if t265 = true then ((spec_l1In.f a0_1 1 5).bind fun t266 => (some t266)) else (some false)) = some r := H; have A2 := q0_4 A20; clear A20
 by_cases c3 : t265 = true
 · subst c3
   have H1 : ((spec_l1In.f a0_1 1 5).bind fun t266 => (some t266)) = some r := by rw [if_pos rfl] at H; exact H
   clear H; have H := H1; clear H1; replace H := Option.bind_eq_some_iff.mp H; obtain ⟨t266, A40, H⟩ := H; replace H : (some t266) = some r := H; have A4 := q0_4 A40; clear A40; obtain rfl := Option.some.inj H; go_enter Try.func20, Try.ntmps20; (go_wp2_with (first | ((with_reducible refine gate_dst (N := 1) rfl ?_); refine box_event ?hg (N := 1) ?hd (cs := #[.int .i64 a0_0, .int .i64 a0_1]) (t := 25) ?hr ?_; (case hd => rfl); (case hg => rfl); (case hr => first | (go_simp; done) | (go_simp; rfl)); intro qa hg w5 hbox hb; have n0_ := q0_4 (below_step (qe_4) hb); have n1_ := q0_4 (hbox); have n2_ := q0_4 ((by rw [hg]; exact (below_size (qe_4)) : w.heap.size ≤ qa)); have n3_ := q0_4 ((by rw [hg]; exact (below_size (qe_4)) : w.heap.size ≤ qa)); clear HB; have HB := n0_; have qb := n1_; have GW264 := n2_; have qh := n3_; clear n0_ n1_ n2_ n3_; clear hb hbox hg; have hcz6_0 : w5.cell? ⟨qa, 0, none⟩ = some (.int .i64 a0_0) := (blk_cell qb.out 0).trans rfl; have hcz6_1 : w5.cell? ⟨qa, 1, none⟩ = some (.int .i64 a0_1) := (blk_cell qb.out 1).trans rfl; have hfz6_0 := blk_frozen qb.out 0; have hfz6_1 := blk_frozen qb.out 1) | ((with_reducible refine gate_callee (f := 52) rfl ?_); refine goesL_ (some 5) rfl rfl Try.func52 (by kernel_rfl) rfl #[.int .i64 a0_0, .int .i64 0, .int .i64 11] rfl ma ?_; (with_reducible refine (spec_l1In.calls a0_0 0 11 true _ A2.out).mono ?_); rintro e w' ⟨rfl, ⟨nd, rfl⟩⟩; refine ⟨_, rfl, ?_⟩) | (go_at_call 52; (with_reducible refine (spec_l1In.calls a0_1 1 5 t266 _ A4.out).mono ?_); rintro e w' ⟨rfl, ⟨nd, rfl⟩⟩))); go_ret; (exact ⟨by first | rfl | (simp [errW_none, errW_some] <;> rfl) | (simp [*, errW_none, errW_some] <;> rfl), by exact (qg_4)⟩)
 · replace c3 := Bool.eq_false_iff.mpr c3
   subst c3; (have H1 : (some false) = some r := by rw [if_neg (show ¬ (false = true) by decide)] at H; exact H); clear H; have H := H1; clear H1; obtain rfl := Option.some.inj H; go_enter Try.func20, Try.ntmps20; (go_wp2_with (first | ((with_reducible refine gate_dst (N := 1) rfl ?_); refine box_event ?hg (N := 1) ?hd (cs := #[.int .i64 a0_0, .int .i64 a0_1]) (t := 25) ?hr ?_; (case hd => rfl); (case hg => rfl); (case hr => first | (go_simp; done) | (go_simp; rfl)); intro qa hg w7 hbox hb; have n0_ := q0_4 (below_step (qe_4) hb); have n1_ := q0_4 (hbox); have n2_ := q0_4 ((by rw [hg]; exact (below_size (qe_4)) : w.heap.size ≤ qa)); have n3_ := q0_4 ((by rw [hg]; exact (below_size (qe_4)) : w.heap.size ≤ qa)); clear HB; have HB := n0_; have qb := n1_; have GW264 := n2_; have qh := n3_; clear n0_ n1_ n2_ n3_; clear hb hbox hg; have hcz8_0 : w7.cell? ⟨qa, 0, none⟩ = some (.int .i64 a0_0) := (blk_cell qb.out 0).trans rfl; have hcz8_1 : w7.cell? ⟨qa, 1, none⟩ = some (.int .i64 a0_1) := (blk_cell qb.out 1).trans rfl; have hfz8_0 := blk_frozen qb.out 0; have hfz8_1 := blk_frozen qb.out 1) | ((with_reducible refine gate_callee (f := 52) rfl ?_); refine goesL_ (some 5) rfl rfl Try.func52 (by kernel_rfl) rfl #[.int .i64 a0_0, .int .i64 0, .int .i64 11] rfl ma ?_; (with_reducible refine (spec_l1In.calls a0_0 0 11 false _ A2.out).mono ?_); rintro e w' ⟨rfl, ⟨nd, rfl⟩⟩; refine ⟨_, rfl, ?_⟩))); go_ret; (exact ⟨by first | rfl | (simp [errW_none, errW_some] <;> rfl) | (simp [*, errW_none, errW_some] <;> rfl), by exact (qg_4)⟩)
end Go.Proofs.Ytlkicjkoejpmbaa.PFnCadences
