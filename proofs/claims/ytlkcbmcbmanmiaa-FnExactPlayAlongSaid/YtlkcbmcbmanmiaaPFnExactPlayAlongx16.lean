-- Written for this claim by a program of this repository (wip/tools/print2.py), out of the translation; Lean checks it.
import Derived.Test.YtlkcbmcbmanmiaaPFnExactPlayAlongx0
import Derived.Test.YtlkcbmcbmanmiaaPFnExactPlayAlongx12
import Derived.Test.YtlkcbmcbmanmiaaPFnExactPlayAlongx13
import Derived.Test.YtlkcbmcbmanmiaaPFnExactPlayAlongx14
import Derived.Test.YtlkcbmcbmanmiaaPFnExactPlayAlongx15
namespace Go.Proofs.Ytlkcbmcbmanmiaa.PFnExactPlayAlong
open Go.RowKit Go.Proofs.YtlkcbmcbmanmiaaW.PrintWords Go.Proofs.YtlkcbmcbmanmiaaW.PrintLast Go.Proofs.YtlkcbmcbmanmiaaW.PrintMore
attribute [local go_sem] max2_int min2_int max_two min_two max_three min_three max_four min_four   -- for this text's walks alone
set_option linter.unusedVariables false
set_option linter.unusedSimpArgs false
-- SHORT
theorem qq_16 {p : Prop} (f : p := by repeat (first | (with_reducible first | exact HB.out | apply below_alloc | apply pw_below_drewN | apply below_drew1) | exact HB.out)) : p := f
theorem qk_16 {p : Prop} (f : p := by repeat (first | (with_reducible first | exact HB.out | apply below_alloc | apply pw_below_drewN | apply below_drew1 | refine below_set ?_ qt.out) | exact HB.out)) : p := f
theorem q7_16 {p : Prop} (f : p := by repeat (first | (with_reducible first | exact HB.out | apply below_alloc | apply pw_below_drewN | apply below_drew1 | refine below_set ?_ qt.out | refine below_set ?_ qu.out) | exact HB.out)) : p := f
theorem q0_16 {p : Prop} (h : p) : Aside0 p := ⟨h⟩
/-! ### impl_PlayAlong: function 61 -/
mutual
def impl_PlayAlong.j0 : Nat → List (S81) → Int → List Int → Int → Bool → List Int → List Int → List Int → Int → Option ((List (S81)) × Bool)
 | 0, _, _, _, _, _, _, _, _, _ => none
 | k + 1, x0, x1, x2, x3, x34, x375000, x375001, x381000, x381001 => if x34 = true then (some ((([] : List (S81))), false)) else (impl_PlayAlong.l0 k x0 x1 x3 (-1) x2 (x2.length : Int) 0 x375000 x375001 x381000 x381001)
def impl_PlayAlong.l0 : Nat → List (S81) → Int → Int → Int → List Int → Int → Int → List Int → List Int → List Int → Int → Option ((List (S81)) × Bool)
 | 0, _, _, _, _, _, _, _, _, _, _, _ => none
 | k + 1, x0, x1, x3, x14, x36, x37, x38, x375000, x375001, x381000, x381001 => if x38 < x37 then (if 0 ≤ x38 then (if x38 < (x36.length : Int) then ((impl_StepFollower.f k x375000 x381000 x381001 (rd x36 x38)).bind fun bt385 => ((impl_SureTick.f k x375000 x375001 bt385.1 bt385.2 x3).bind fun t389 => (impl_PlayAlong.l0 k x0 x1 x3 (mx x14 t389) x36 x37 (wrap64 (x38 + 1)) x375000 x375001 bt385.1 bt385.2))) else (none)) else (none)) else ((impl_DueEvents.f k x0 x1 (-1) x14).bind fun t390 => (some (t390, true)))
end
def impl_PlayAlong.f (k : Nat) (l0 : List (S81)) (a1 : Int) (l2 : List Int) (a3 : Int) : Option ((List (S81)) × Bool) := (impl_CueFrom.f k l0 a1).bind fun bt367 => ((impl_StartFollower.f k bt367.1).bind fun bt375 => (if bt367.2.2 = true then (impl_PlayAlong.j0 k l0 a1 l2 a3 (!bt375.2.2) bt367.1 bt367.2.1 bt375.1 bt375.2.1) else (impl_PlayAlong.j0 k l0 a1 l2 a3 true bt367.1 bt367.2.1 bt375.1 bt375.2.1)))
theorem impl_PlayAlong.mono_l : ∀ k, (∀ y0 y1 y2 y3 y4 y5 y6 y7 y8, LeO (impl_PlayAlong.j0 k y0 y1 y2 y3 y4 y5 y6 y7 y8) (impl_PlayAlong.j0 (k + 1) y0 y1 y2 y3 y4 y5 y6 y7 y8)) ∧ (∀ y0 y1 y2 y3 y4 y5 y6 y7 y8 y9 y10, LeO (impl_PlayAlong.l0 k y0 y1 y2 y3 y4 y5 y6 y7 y8 y9 y10) (impl_PlayAlong.l0 (k + 1) y0 y1 y2 y3 y4 y5 y6 y7 y8 y9 y10))
 | 0 => ⟨fun _ _ _ _ _ _ _ _ _ r h => by simp [impl_PlayAlong.j0] at h, fun _ _ _ _ _ _ _ _ _ _ _ r h => by simp [impl_PlayAlong.l0] at h⟩
 | k + 1 => by
  obtain ⟨ih0, ih1⟩ := impl_PlayAlong.mono_l k; refine ⟨?_, ?_⟩
  · intro y0 y1 y2 y3 y4 y5 y6 y7 y8
    unfold impl_PlayAlong.j0
    repeat' first
    | (with_reducible exact ih0 _ _ _ _ _ _ _ _ _)
    | (with_reducible exact ih1 _ _ _ _ _ _ _ _ _ _ _)
    | (with_reducible exact impl_CueFrom.mono _ _ _)
    | (with_reducible exact impl_DueEvents.mono _ _ _ _ _)
    | (with_reducible exact impl_StartFollower.mono _ _)
    | (with_reducible exact impl_StepFollower.mono _ _ _ _ _)
    | (with_reducible exact impl_SureTick.mono _ _ _ _ _ _)
    | (with_reducible exact LeO.refl _)
    | (with_reducible exact LeO.none _)
    | (with_reducible refine LeO.ite ?_ ?_)
    | (with_reducible refine LeO.bind ?_ (fun _ => ?_))
    | exact ih0 _ _ _ _ _ _ _ _ _
    | exact ih1 _ _ _ _ _ _ _ _ _ _ _
    | exact impl_CueFrom.mono _ _ _
    | exact impl_DueEvents.mono _ _ _ _ _
    | exact impl_StartFollower.mono _ _
    | exact impl_StepFollower.mono _ _ _ _ _
    | exact impl_SureTick.mono _ _ _ _ _ _
    | exact LeO.none _
    | refine LeO.ite ?_ ?_
    | refine LeO.bind ?_ (fun _ => ?_)
  · intro y0 y1 y2 y3 y4 y5 y6 y7 y8 y9 y10
    unfold impl_PlayAlong.l0
    repeat' first
    | (with_reducible exact ih0 _ _ _ _ _ _ _ _ _)
    | (with_reducible exact ih1 _ _ _ _ _ _ _ _ _ _ _)
    | (with_reducible exact impl_CueFrom.mono _ _ _)
    | (with_reducible exact impl_DueEvents.mono _ _ _ _ _)
    | (with_reducible exact impl_StartFollower.mono _ _)
    | (with_reducible exact impl_StepFollower.mono _ _ _ _ _)
    | (with_reducible exact impl_SureTick.mono _ _ _ _ _ _)
    | (with_reducible exact LeO.refl _)
    | (with_reducible exact LeO.none _)
    | (with_reducible refine LeO.ite ?_ ?_)
    | (with_reducible refine LeO.bind ?_ (fun _ => ?_))
    | exact ih0 _ _ _ _ _ _ _ _ _
    | exact ih1 _ _ _ _ _ _ _ _ _ _ _
    | exact impl_CueFrom.mono _ _ _
    | exact impl_DueEvents.mono _ _ _ _ _
    | exact impl_StartFollower.mono _ _
    | exact impl_StepFollower.mono _ _ _ _ _
    | exact impl_SureTick.mono _ _ _ _ _ _
    | exact LeO.none _
    | refine LeO.ite ?_ ?_
    | refine LeO.bind ?_ (fun _ => ?_)
theorem impl_PlayAlong.mono : ∀ a0 a1 a2 a3 k, LeO (impl_PlayAlong.f k a0 a1 a2 a3) (impl_PlayAlong.f (k + 1) a0 a1 a2 a3) := by
 intro a0 a1 a2 a3 k; obtain ⟨ih0, ih1⟩ := impl_PlayAlong.mono_l k; unfold impl_PlayAlong.f
 repeat' first
  | (with_reducible exact ih0 _ _ _ _ _ _ _ _ _)
  | (with_reducible exact ih1 _ _ _ _ _ _ _ _ _ _ _)
  | (with_reducible exact impl_CueFrom.mono _ _ _)
  | (with_reducible exact impl_DueEvents.mono _ _ _ _ _)
  | (with_reducible exact impl_StartFollower.mono _ _)
  | (with_reducible exact impl_StepFollower.mono _ _ _ _ _)
  | (with_reducible exact impl_SureTick.mono _ _ _ _ _ _)
  | (with_reducible exact LeO.refl _)
  | (with_reducible exact LeO.none _)
  | (with_reducible refine LeO.ite ?_ ?_)
  | (with_reducible refine LeO.bind ?_ (fun _ => ?_))
  | exact ih0 _ _ _ _ _ _ _ _ _
  | exact ih1 _ _ _ _ _ _ _ _ _ _ _
  | exact impl_CueFrom.mono _ _ _
  | exact impl_DueEvents.mono _ _ _ _ _
  | exact impl_StartFollower.mono _ _
  | exact impl_StepFollower.mono _ _ _ _ _
  | exact impl_SureTick.mono _ _ _ _ _ _
  | exact LeO.none _
  | refine LeO.ite ?_ ?_
  | refine LeO.bind ?_ (fun _ => ?_)
set_option maxHeartbeats 8000000 in
set_option maxRecDepth 100000 in
theorem impl_PlayAlong.calls (k : Nat) (A0 : Option Addr) (c0 : Nat) (l0 : List (S81)) (a1 : Int) (A2 : Option Addr) (c2 : Nat) (l2 : List Int) (a3 : Int) (r1 : List (S81)) (r2 : Bool) (w : World) (hr0 : Kd.C k81 w A0 l0.length l0) (hc0 : l0.length ≤ c0) (hr2 : Kd.C (Kd.int .i64) w A2 l2.length l2) (hc2 : l2.length ≤ c2) (h : impl_PlayAlong.f k l0 a1 l2 a3 = some (r1, r2)) :
 Calls Try.prog 61 #[.slice A0 l0.length c0, .int .i64 a1, .slice A2 l2.length c2, .int .i64 a3] w fun e w' => ∃ v0_ : Value, e = .returned (.tuple #[v0_, .bool r2]) ∧ Kd.R k81 81 w' w.heap.size (fun _ => True) v0_ r1 ∧ Below w.heap.size w w' := by
 have hu42 := Try.underlying42; have hu51 := Try.underlying51; have HR0 := q0_16 hr0; have HC0 := q0_16 hc0; clear hr0 hc0; have HR2 := q0_16 hr2; have HC2 := q0_16 hc2; clear hr2 hc2; have HB := q0_16 (Below.refl w.heap.size w); (have H : ((impl_CueFrom.f k l0 a1).bind fun bt367 => ((impl_StartFollower.f k bt367.1).bind fun bt375 => (if bt367.2.2 = true then (impl_PlayAlong.j0 k l0 a1 l2 a3 (!bt375.2.2) bt367.1 bt367.2.1 bt375.1 bt375.2.1) else (impl_PlayAlong.j0 k l0 a1 l2 a3 true bt367.1 bt367.2.1 bt375.1 bt375.2.1)))) = some (r1, r2) := h); clear h; replace H := Option.bind_eq_some_iff.mp H; obtain ⟨⟨t367, t370, t373⟩, A50, H⟩ := H; replace H : ((impl_StartFollower.f k t367).bind fun bt375 => (if t373 = true then (impl_PlayAlong.j0 k l0 a1 l2 a3 (!bt375.2.2) t367 t370 bt375.1 bt375.2.1) else (impl_PlayAlong.j0 k l0 a1 l2 a3 true t367 t370 bt375.1 bt375.2.1))) = some (r1, r2) := H; have A5 := q0_16 A50; clear A50; replace H := Option.bind_eq_some_iff.mp H; obtain ⟨⟨t375, t378, t379⟩, A60, H⟩ := H; replace H : (if t373 = true then (impl_PlayAlong.j0 k l0 a1 l2 a3 (!t379) t367 t370 t375 t378) else (impl_PlayAlong.j0 k l0 a1 l2 a3 true t367 t370 t375 t378)) = some (r1, r2) := H; have A6 := q0_16 A60; clear A60; have HC7 := q0_16 H; clear H; go_enter Try.func61, Try.ntmps61
 (go_upto_region 3 with (first | ((with_reducible refine gate_callee (f := 29) rfl ?_); refine goesL_ (some 20) rfl rfl Try.func29 (by kernel_rfl) rfl #[.slice A0 l0.length c0, .int .i64 a1] rfl ma ?_; (with_reducible refine (impl_CueFrom.calls k _ _ l0 a1 t367 t370 t373 _ ?side1 ?side2 A5.out).mono ?_); (case side1 => repeat (first | exact HR0.out | (with_reducible refine Kd.C_alloc ?_ _) | (with_reducible refine Kd.C_drewN ?_ _) | (with_reducible refine Kd.C_drew ?_))); (case side2 => exact HC0.out); rintro e w8 ⟨v368, v371, rfl, ho0, ho1, hb⟩; refine ⟨_, rfl, ?_⟩; have n0_ := q0_16 (Kd.R_lower ho0 (below_size (qq_16))); have n1_ := q0_16 (Kd.R_lower ho1 (below_size (qq_16))); have n2_ := q0_16 (below_step (qq_16) hb); clear HB; have qb := n0_; have qf := n1_; have HB := n2_; clear n0_ n1_ n2_; (try clear hb); (try clear hb2); (try clear hk); (try clear hi); (try clear ho0); (try clear ho1)) | ((with_reducible refine gate_dst (N := 10) rfl ?_); refine box_event ?hg (N := 10) ?hd (cs := #[.slice none 0 0, .slice none 0 0]) (t := 42) ?hr ?_; (case hd => rfl); (case hg => rfl); (case hr => first | (go_simp; done) | (go_simp; rfl)); intro q8 hg w9 hbox hb; have n0_ := q0_16 (Kd.R_below (ra qb.out) hb); have n1_ := q0_16 (Kd.R_below (ra qf.out) hb); have n2_ := q0_16 (below_step (qq_16) hb); have n3_ := q0_16 (hbox); have n4_ := q0_16 ((by rw [hg]; exact (below_size (qq_16)) : w.heap.size ≤ q8)); have n5_ := q0_16 ((by rw [hg]; exact (below_size (qq_16)) : w.heap.size ≤ q8)); clear qb; clear qf; clear HB; have qb := n0_; have qf := n1_; have HB := n2_; have q4 := n3_; have GW374 := n4_; have qt := n5_; clear n0_ n1_ n2_ n3_ n4_ n5_; clear hb hbox hg; obtain ⟨qc, qa, eo10⟩ := Kd.R_slice qb.out; subst eo10; have hcz11_0 : w9.cell? ⟨q8, 0, none⟩ = some (.slice none 0 0) := (blk_cell q4.out 0).trans rfl; have hcz11_1 : w9.cell? ⟨q8, 1, none⟩ = some (.slice none 0 0) := (blk_cell q4.out 1).trans rfl; have hfz11_0 := blk_frozen q4.out 0; have hfz11_1 := blk_frozen q4.out 1; obtain ⟨qe, qd, eo12⟩ := Kd.R_slice qf.out; subst eo12) | ((with_reducible refine gate_callee (f := 104) rfl ?_); refine goesL_ (some 26) rfl rfl Try.func104 (by kernel_rfl) rfl #[.slice qc t367.length qa] rfl ma ?_; (with_reducible refine (impl_StartFollower.calls k _ _ t367 t375 t378 t379 _ ?side1 ?side2 A6.out).mono ?_); (case side1 => refine (Kd.R_reads' (e := 3) (base := w.heap.size) (ok := fun k_ => some k_ ≠ (.slice qe t370.length qd : Value).ownBlock) (n := t367.length) (c := qa) ?_).2.2; exact (by refine ra ?_; exact (Kd.R_mono (Kd.R_far (p := ⟨q8, 1, none⟩) (Kd.R_far (p := ⟨q8, 0, none⟩) (Kd.R_types qb.out q4.out (by decide)) (fun _ hk => hk.2) (.slice qc t367.length qa)) (fun _ hk => hk.2) (.slice qe t370.length qd)) (fun _ h_ => h_.1)))); (case side2 => exact (Kd.R_reads' qb.out).2.1); rintro e w13 ⟨v376, rfl, ho0, hb⟩; refine ⟨_, rfl, ?_⟩; have n0_ := q0_16 (Kd.R_elder' (by refine ra ?_; exact (Kd.R_mono (Kd.R_far (p := ⟨q8, 1, none⟩) (Kd.R_far (p := ⟨q8, 0, none⟩) (Kd.R_types qb.out q4.out (by decide)) (fun _ hk => hk.2) (.slice qc t367.length qa)) (fun _ hk => hk.2) (.slice qe t370.length qd)) (fun _ h_ => h_.1))) (Kd.R_base ho0) hb); have n1_ := q0_16 (Kd.R_elder' (by refine ra ?_; exact (Kd.R_mono (Kd.R_far (p := ⟨q8, 1, none⟩) (Kd.R_far (p := ⟨q8, 0, none⟩) (Kd.R_types qf.out q4.out (by decide)) (fun _ hk => hk.2) (.slice qc t367.length qa)) (fun _ hk => hk.2) (.slice qe t370.length qd)) (fun _ h_ => h_.1))) (Kd.R_base ho0) hb); have n2_ := q0_16 (Kd.R_lower (Kd.R_new' (Kd.R_new' ho0 (Kd.R_lt (by refine ra ?_; exact (Kd.R_mono (Kd.R_far (p := ⟨q8, 1, none⟩) (Kd.R_far (p := ⟨q8, 0, none⟩) (Kd.R_types qb.out q4.out (by decide)) (fun _ hk => hk.2) (.slice qc t367.length qa)) (fun _ hk => hk.2) (.slice qe t370.length qd)) (fun _ h_ => h_.1))))) (Kd.R_lt (by refine ra ?_; exact (Kd.R_mono (Kd.R_far (p := ⟨q8, 1, none⟩) (Kd.R_far (p := ⟨q8, 0, none⟩) (Kd.R_types qf.out q4.out (by decide)) (fun _ hk => hk.2) (.slice qc t367.length qa)) (fun _ hk => hk.2) (.slice qe t370.length qd)) (fun _ h_ => h_.1))))) (below_size (qk_16))); have n3_ := q0_16 (blk_below (g := q8) (o := .cells #[.slice qc t367.length qa, .slice qe t370.length qd] 42 (0, 0)) (by refine ba ?_; refine blk_put (cs := #[.slice qc t367.length qa, .slice none 0 0]) ?_ 1 _ rfl; refine ba ?_; refine blk_put (cs := #[.slice none 0 0, .slice none 0 0]) ?_ 0 _ rfl; refine ba ?_; exact q4.out) hb); have n4_ := q0_16 (below_step (qk_16) hb); clear qb; clear qf; clear q4; clear HB; have qb := n0_; have qf := n1_; have qm := n2_; have q4 := n3_; have HB := n4_; clear n0_ n1_ n2_ n3_ n4_; (try clear hb); (try clear hb2); (try clear hk); (try clear hi); (try clear ho0)) | ((with_reducible refine gate_dst (N := 12) rfl ?_); refine box_event ?hg (N := 12) ?hd (cs := #[.slice none 0 0, .int .i64 0]) (t := 51) ?hr ?_; (case hd => rfl); (case hg => rfl); (case hr => first | (go_simp; done) | (go_simp; rfl)); intro q6 hg w14 hbox hb; have n0_ := q0_16 (Kd.R_below (ra qb.out) hb); have n1_ := q0_16 (Kd.R_below (ra qf.out) hb); have n2_ := q0_16 (Kd.R_below (ra qm.out) hb); have n3_ := q0_16 (bb q4.out hb); have n4_ := q0_16 (below_step (qk_16) hb); have n5_ := q0_16 (hbox); have n6_ := q0_16 ((by rw [hg]; exact (below_size (qk_16)) : w.heap.size ≤ q6)); have n7_ := q0_16 ((by rw [hg]; exact (below_size (qk_16)) : w.heap.size ≤ q6)); have n8_ := q0_16 ((by rw [hg]; exact Nat.ne_of_lt (bl q4.out) : q8 ≠ q6)); have n9_ := q0_16 ((by rw [hg]; exact Nat.ne_of_gt (bl q4.out) : q6 ≠ q8)); clear qb; clear qf; clear qm; clear q4; clear HB; have qb := n0_; have qf := n1_; have qm := n2_; have q4 := n3_; have HB := n4_; have q5 := n5_; have GW380 := n6_; have qu := n7_; have q9 := n8_; have qn := n9_; clear n0_ n1_ n2_ n3_ n4_ n5_ n6_ n7_ n8_ n9_; clear hb hbox hg; obtain ⟨qh, qi, eo15⟩ := Kd.R_slice qm.out; subst eo15; have hnb16 := qn.out; have hnc16 := q9.out; have hcz17_0 : w14.cell? ⟨q6, 0, none⟩ = some (.slice none 0 0) := (blk_cell q5.out 0).trans rfl; have hcz17_1 : w14.cell? ⟨q6, 1, none⟩ = some (.int .i64 0) := (blk_cell q5.out 1).trans rfl; have hfz17_0 := blk_frozen q5.out 0; have hfz17_1 := blk_frozen q5.out 1)))
 ((try simp only [Act.put, List.setIfInBounds_toArray, List.set_cons_zero, List.set_cons_succ])); (go_cut [34] (fun v34 wc => ∃ (kq : Nat) (x34_6 : Bool), v34 = .bool x34_6 ∧ Aside0 (impl_PlayAlong.j0 kq l0 a1 l2 a3 x34_6 t367 t370 t375 t378 = some (r1, r2)) ∧ Aside0 (kq ≤ k) ∧ Aside0 (Kd.R (Kd.int .i64) 3 wc w.heap.size (fun k_ => some k_ ≠ ((.slice qe t370.length qd) : Value).ownBlock ∧ some k_ ≠ ((.slice qh t375.length qi) : Value).ownBlock) (.slice qc t367.length qa) t367) ∧ Aside0 (Kd.R (Kd.int .i64) 3 wc w.heap.size (fun k_ => some k_ ≠ ((.slice qc t367.length qa) : Value).ownBlock ∧ some k_ ≠ ((.slice qh t375.length qi) : Value).ownBlock) (.slice qe t370.length qd) t370) ∧ Aside0 (Kd.R (Kd.int .i64) 3 wc w.heap.size (fun k_ => some k_ ≠ ((.slice qc t367.length qa) : Value).ownBlock ∧ some k_ ≠ ((.slice qe t370.length qd) : Value).ownBlock) (.slice qh t375.length qi) t375) ∧ Aside0 (wc.heap[q8]? = some (.cells #[(.slice qc t367.length qa), (.slice qe t370.length qd)] 42 (0, 0))) ∧ Aside0 (wc.heap[q6]? = some (.cells #[(.slice qh t375.length qi), .int .i64 t378] 51 (0, 0))) ∧ Aside0 (Below w.heap.size w wc)))
 case first =>
  have H := HC7.out; clear HC7
  by_cases c18 : t373 = true
  · subst c18
    have H1 : (impl_PlayAlong.j0 k l0 a1 l2 a3 (!t379) t367 t370 t375 t378) = some (r1, r2) := by rw [if_pos rfl] at H; exact H
    clear H; have H := H1; clear H1; (have H' := q0_16 H); clear H; (go_wp2); (go_meet)
    case rel => exact ⟨_, (!t379), (by first | rfl | (simp; done) | (simp [*]; done)), H', ⟨by first | omega | exact Nat.le_refl _⟩, ⟨by refine ra ?_; exact Kd.R_mono (Kd.R_far (p := ⟨q6, 1, none⟩) (Kd.R_far (p := ⟨q6, 0, none⟩) (Kd.R_types qb.out q5.out (by decide)) (fun _ hk => hk.2) (.slice qh t375.length qi)) (fun _ hk => hk.2) (.int .i64 t378)) (fun _ hk => ⟨hk.1.1, hk.1.2⟩)⟩, ⟨by refine ra ?_; exact Kd.R_mono (Kd.R_far (p := ⟨q6, 1, none⟩) (Kd.R_far (p := ⟨q6, 0, none⟩) (Kd.R_types qf.out q5.out (by decide)) (fun _ hk => hk.2) (.slice qh t375.length qi)) (fun _ hk => hk.2) (.int .i64 t378)) (fun _ hk => ⟨hk.1.1, hk.1.2⟩)⟩, ⟨by refine ra ?_; exact Kd.R_mono (Kd.R_far (p := ⟨q6, 1, none⟩) (Kd.R_far (p := ⟨q6, 0, none⟩) (Kd.R_types qm.out q5.out (by decide)) (fun _ hk => hk.2) (.slice qh t375.length qi)) (fun _ hk => hk.2) (.int .i64 t378)) (fun _ hk => ⟨hk.1.1.2, hk.1.2⟩)⟩, ⟨by refine ba ?_; refine blk_far ?_ q9.out _; refine ba ?_; refine blk_far ?_ q9.out _; refine ba ?_; exact q4.out⟩, ⟨by refine ba ?_; refine blk_put (cs := #[.slice qh t375.length qi, .int .i64 0]) ?_ 1 _ rfl; refine ba ?_; refine blk_put (cs := #[.slice none 0 0, .int .i64 0]) ?_ 0 _ rfl; refine ba ?_; exact q5.out⟩, ⟨by exact (q7_16)⟩⟩
  · replace c18 := Bool.eq_false_iff.mpr c18
    subst c18; (have H1 : (impl_PlayAlong.j0 k l0 a1 l2 a3 true t367 t370 t375 t378) = some (r1, r2) := by rw [if_neg (show ¬ (false = true) by decide)] at H; exact H); clear H; have H := H1; clear H1; (have H' := q0_16 H); clear H; (go_wp2); (go_meet)
    case rel => exact ⟨_, (true), (by first | rfl | (simp; done) | (simp [*]; done)), H', ⟨by first | omega | exact Nat.le_refl _⟩, ⟨by refine ra ?_; exact Kd.R_mono (Kd.R_far (p := ⟨q6, 1, none⟩) (Kd.R_far (p := ⟨q6, 0, none⟩) (Kd.R_types qb.out q5.out (by decide)) (fun _ hk => hk.2) (.slice qh t375.length qi)) (fun _ hk => hk.2) (.int .i64 t378)) (fun _ hk => ⟨hk.1.1, hk.1.2⟩)⟩, ⟨by refine ra ?_; exact Kd.R_mono (Kd.R_far (p := ⟨q6, 1, none⟩) (Kd.R_far (p := ⟨q6, 0, none⟩) (Kd.R_types qf.out q5.out (by decide)) (fun _ hk => hk.2) (.slice qh t375.length qi)) (fun _ hk => hk.2) (.int .i64 t378)) (fun _ hk => ⟨hk.1.1, hk.1.2⟩)⟩, ⟨by refine ra ?_; exact Kd.R_mono (Kd.R_far (p := ⟨q6, 1, none⟩) (Kd.R_far (p := ⟨q6, 0, none⟩) (Kd.R_types qm.out q5.out (by decide)) (fun _ hk => hk.2) (.slice qh t375.length qi)) (fun _ hk => hk.2) (.int .i64 t378)) (fun _ hk => ⟨hk.1.1.2, hk.1.2⟩)⟩, ⟨by refine ba ?_; refine blk_far ?_ q9.out _; refine ba ?_; refine blk_far ?_ q9.out _; refine ba ?_; exact q4.out⟩, ⟨by refine ba ?_; refine blk_put (cs := #[.slice qh t375.length qi, .int .i64 0]) ?_ 1 _ rfl; refine ba ?_; refine blk_put (cs := #[.slice none 0 0, .int .i64 0]) ?_ 0 _ rfl; refine ba ?_; exact q5.out⟩, ⟨by exact (q7_16)⟩⟩
 case rest =>
  clear HC7; (try clear c1); (try clear c2); (try clear p2); (try clear c6); (try clear c10); (try clear c16); (try clear c18); (try clear hcz11_0); (try clear hcz11_1); (try clear hcz17_0); (try clear hcz17_1); (try clear hfz11_0); (try clear hfz11_1); (try clear hfz17_0); (try clear hfz17_1); obtain ⟨kq, x34_6, rfl, HA, HJ6, q1, q2, q3, q4, q5, HB⟩ := hcut
  cases kq with
  | zero => exact absurd HA.out (by simp [impl_PlayAlong.j0])
  | succ kj6 =>
   have H := HA.out; clear HA; (simp only [impl_PlayAlong.j0] at H)
   by_cases c19 : x34_6 = true
   · subst c19
     have H1 : (some ((([] : List (S81))), false)) = some (r1, r2) := by rw [if_pos rfl] at H; exact H
     clear H; have H := H1; clear H1; obtain ⟨y381, hy381⟩ : ∃ y_ : List (S81), y_ = (([] : List (S81))) := ⟨_, rfl⟩; (replace H : (some (y381, false)) = some (r1, r2) := by first | (rw [hy381]; with_reducible exact H) | (have H2_ := (Option.bind_some _ _).symm.trans H; rw [hy381]; with_reducible exact H2_) | (have H2_ := (Option.bind_some _ _).symm.trans H; with_reducible exact H2_) | with_reducible exact H | (rw [hy381]; exact H) | exact H); have Ny381 := q0_16 hy381; clear hy381; (simp only [Option.some.injEq, Prod.mk.injEq] at H); obtain ⟨rfl, rfl⟩ := H; (go_wp2_with (first | ((with_reducible refine gate_dst (N := 35) rfl ?_); refine Kd.R_lit k81 _ 81 ?hg (N := 35) ?hd (xs := ([] : List (S81))) (inner := []) (ok := fun _ => True) (okp := fun _ => True) ?hr ?hp (fun _ hk => hk) trivial (Below.refl _ _) (Nat.le_refl _) (by simp) ?_; (case hd => rfl); (case hg => rfl); (case hr => first | (go_simp; done) | (go_simp; rfl)); (case hp => exact (Reps.none _ _)); intro v382 w20 ho21 hb hg_ hnew_; clear hg_ hnew_; (first | rw [← Ny381.out] at ho21 | (simp only [Int.reduceToNat] at ho21; rw [← Ny381.out] at ho21)); have n0_ := q0_16 (Kd.R_below (ra q1.out) hb); have n1_ := q0_16 (Kd.R_below (ra q2.out) hb); have n2_ := q0_16 (Kd.R_below (ra q3.out) hb); have n3_ := q0_16 (Kd.R_lower ho21 (below_size (q7_16))); have n4_ := q0_16 (bb q4.out hb); have n5_ := q0_16 (bb q5.out hb); have n6_ := q0_16 (below_step (q7_16) hb); clear q1; clear q2; clear q3; clear q4; clear q5; clear HB; have q1 := n0_; have q2 := n1_; have q3 := n2_; have qr := n3_; have q4 := n4_; have q5 := n5_; have HB := n6_; clear n0_ n1_ n2_ n3_ n4_ n5_ n6_; clear hb ho21))); (go_ret2); (exact ⟨_, by first | rfl | (simp [errW_none, errW_some] <;> rfl) | (simp [*, errW_none, errW_some] <;> rfl), by refine ra ?_; exact qr.out, by exact (q7_16)⟩)
   · replace c19 := Bool.eq_false_iff.mpr c19
     subst c19; (have H1 : (impl_PlayAlong.l0 kj6 l0 a1 a3 (-1) l2 (l2.length : Int) 0 t367 t370 t375 t378) = some (r1, r2) := by rw [if_neg (show ¬ (false = true) by decide)] at H; exact H); clear H; have H := H1; clear H1; (have H' := q0_16 H); clear H; (go_wp2); (go_loopg [14, 38] kj6 (fun kq v14 v38 w' => ∃ (x14_2 : Int) (x38_2 : Int) (x381000_2 : List Int) (x381001_2 : Int) (u381000 : Value), v14 = .int .i64 x14_2 ∧ v38 = .int .i64 x38_2 ∧ Aside0 (impl_PlayAlong.l0 kq l0 a1 a3 x14_2 l2 (l2.length : Int) x38_2 t367 t370 x381000_2 x381001_2 = some (r1, r2)) ∧ Aside0 (kq ≤ kj6) ∧ Aside0 (Kd.R (Kd.int .i64) 3 w' w.heap.size (fun k_ => some k_ ≠ ((.slice qe t370.length qd) : Value).ownBlock ∧ some k_ ≠ (u381000 : Value).ownBlock) (.slice qc t367.length qa) t367) ∧ Aside0 (Kd.R (Kd.int .i64) 3 w' w.heap.size (fun k_ => some k_ ≠ ((.slice qc t367.length qa) : Value).ownBlock ∧ some k_ ≠ (u381000 : Value).ownBlock) (.slice qe t370.length qd) t370) ∧ Aside0 (Kd.R (Kd.int .i64) 3 w' w.heap.size (fun k_ => some k_ ≠ ((.slice qc t367.length qa) : Value).ownBlock ∧ some k_ ≠ ((.slice qe t370.length qd) : Value).ownBlock) u381000 x381000_2) ∧ Aside0 (w'.heap[q8]? = some (.cells #[(.slice qc t367.length qa), (.slice qe t370.length qd)] 42 (0, 0))) ∧ Aside0 (w'.heap[q6]? = some (.cells #[u381000, .int .i64 x381001_2] 51 (0, 0))) ∧ Aside0 (Below w.heap.size w w')))
     case atStart => exact ⟨((-1)), (0), (t375), (t378), (.slice qh t375.length qi), (by first | rfl | (simp; done) | (simp [*]; done)), (by first | rfl | (simp; done) | (simp [*]; done)), H', ⟨Nat.le_refl _⟩, ⟨by refine ra ?_; exact q1.out⟩, ⟨by refine ra ?_; exact q2.out⟩, ⟨by refine ra ?_; exact q3.out⟩, ⟨by refine ba ?_; exact q4.out⟩, ⟨by refine ba ?_; exact q5.out⟩, ⟨by exact (q7_16)⟩⟩
     case round =>
      clear H'; (try clear c1); (try clear c2); (try clear p2); (try clear c6); (try clear c10); (try clear c16); (try clear c18); (try clear c19); (try clear hcz11_0); (try clear hcz11_1); (try clear hcz17_0); (try clear hcz17_1); (try clear hfz11_0); (try clear hfz11_1); (try clear hfz17_0); (try clear hfz17_1); (try clear p2); obtain ⟨x14_2, x38_2, x381000_2, x381001_2, u381000, rfl, rfl, HA, HK2, q1, q2, q3, q4, q5, HB⟩ := hrel
      cases gk with
      | zero => exact absurd HA.out (by simp [impl_PlayAlong.l0])
      | succ k2 =>
       have H := HA.out; clear HA; (simp only [impl_PlayAlong.l0] at H)
       by_cases c22 : x38_2 < (l2.length : Int)
       · rw [if_pos c22] at H
         (have c22b0 : decide (x38_2 < (l2.length : Int)) = true := decide_eq_true c22); clear c22
         by_cases c23 : 0 ≤ x38_2
         · rw [if_pos c23] at H
           (have c23b0 : decide (0 ≤ x38_2) = true := decide_eq_true c23); clear c23
           by_cases c24 : x38_2 < (l2.length : Int)
           · rw [if_pos c24] at H
             (have c24b0 : decide (x38_2 < (l2.length : Int)) = true := decide_eq_true c24); clear c24; replace H := Option.bind_eq_some_iff.mp H; obtain ⟨⟨t385, t388⟩, A250, H⟩ := H; replace H : ((impl_SureTick.f k2 t367 t370 t385 t388 a3).bind fun t389 => (impl_PlayAlong.l0 k2 l0 a1 a3 (mx x14_2 t389) l2 (l2.length : Int) (wrap64 (x38_2 + 1)) t367 t370 t385 t388)) = some (r1, r2) := H; have A25 := q0_16 A250; clear A250; replace H := Option.bind_eq_some_iff.mp H; obtain ⟨t389, A260, H⟩ := H; replace H : (impl_PlayAlong.l0 k2 l0 a1 a3 (mx x14_2 t389) l2 (l2.length : Int) (wrap64 (x38_2 + 1)) t367 t370 t385 t388) = some (r1, r2) := H; have A26 := q0_16 A260; clear A260; obtain ⟨ji27, hji27⟩ : ∃ j_ : Int, (mx x14_2 t389) = j_ := ⟨_, rfl⟩; (replace H : (impl_PlayAlong.l0 k2 l0 a1 a3 ji27 l2 (l2.length : Int) (wrap64 (x38_2 + 1)) t367 t370 t385 t388) = some (r1, r2) := by first | (rw [hji27] at H; exact H) | (simp only [hji27] at H ⊢; exact H)); ((try rw [hji27] at A25)); ((try rw [hji27] at A26)); (have hji27_ : (if x14_2 < t389 then t389 else x14_2) = ji27 := hji27); (have H' := q0_16 H); clear H; (have p384 : 0 ≤ (x38_2 : Int) := of_decide_eq_true (by first | (with_reducible assumption) | assumption)); (have q384 : x38_2 < (l2.length : Int) := of_decide_eq_true (by first | (with_reducible assumption) | assumption)); obtain ⟨ad384, e384, hx384_0⟩ := Kd.at_int HR2.out x38_2 p384 q384
             cases e384
             replace hx384_0 := (HB.out.cell (World.block_lt_of_cell? w _ hx384_0)).trans hx384_0; replace p384 := eq_true p384; replace q384 := eq_true q384; have hnb28 := q9.out; have hnc28 := qn.out; (have hcz29_0 : wr.cell? ⟨q8, 0, none⟩ = some (.slice qc t367.length qa) := (blk_cell q4.out 0).trans rfl); (have hcz29_1 : wr.cell? ⟨q8, 1, none⟩ = some (.slice qe t370.length qd) := (blk_cell q4.out 1).trans rfl); have hfz29_0 := blk_frozen q4.out 0; have hfz29_1 := blk_frozen q4.out 1; (have hcz30_0 : wr.cell? ⟨q6, 0, none⟩ = some (u381000) := (blk_cell q5.out 0).trans rfl); (have hcz30_1 : wr.cell? ⟨q6, 1, none⟩ = some (.int .i64 x381001_2) := (blk_cell q5.out 1).trans rfl); have hfz30_0 := blk_frozen q5.out 0; have hfz30_1 := blk_frozen q5.out 1; obtain ⟨qo, qp, eo31⟩ := Kd.R_slice q3.out; subst eo31
             (go_wp2_with (first | ((with_reducible refine gate_callee (f := 113) rfl ?_); refine goesL_ (some 46) rfl rfl Try.func113 (by kernel_rfl) rfl #[.slice qc t367.length qa, .agg #[.slice qo x381000_2.length qp, .int .i64 x381001_2], .int .i64 (rd l2 x38_2)] rfl ma ?_; (with_reducible refine (impl_StepFollower.calls k2 _ _ t367 _ _ x381000_2 x381001_2 (rd l2 x38_2) t385 t388 _ ?side1 ?side2 ?side3 ?side4 A25.out).mono ?_); (case side1 => exact ca (Kd.R_reads' q1.out).2.2); (case side2 => exact (Kd.R_reads' q1.out).2.1); (case side3 => exact ca (Kd.R_reads' q3.out).2.2); (case side4 => exact (Kd.R_reads' q3.out).2.1); rintro e w32 ⟨v386, rfl, ho0, hb⟩; refine ⟨_, rfl, ?_⟩; have n0_ := q0_16 (Kd.R_elder' (ra q1.out) (Kd.R_base ho0) hb); have n1_ := q0_16 (Kd.R_elder' (ra q2.out) (Kd.R_base ho0) hb); have n2_ := q0_16 (Kd.R_elder' (ra q3.out) (Kd.R_base ho0) hb); have n3_ := q0_16 (Kd.R_lower (Kd.R_new' (Kd.R_new' (Kd.R_new' ho0 (Kd.R_lt (ra q1.out))) (Kd.R_lt (ra q2.out))) (Kd.R_lt (ra q3.out))) (below_size (q7_16))); have n4_ := q0_16 (bb q4.out hb); have n5_ := q0_16 (bb q5.out hb); have n6_ := q0_16 (below_step (q7_16) hb); clear q1; clear q2; clear q3; clear q4; clear q5; clear HB; have q1 := n0_; have q2 := n1_; have q3 := n2_; have ql := n3_; have q4 := n4_; have q5 := n5_; have HB := n6_; clear n0_ n1_ n2_ n3_ n4_ n5_ n6_; (try clear hb); (try clear hb2); (try clear hk); (try clear hi); (try clear ho0); obtain ⟨qj, qg, eo33⟩ := Kd.R_slice ql.out; subst eo33; have hcz34_0 : w32.cell? ⟨q6, 0, none⟩ = some (.slice qo x381000_2.length qp) := (blk_cell q5.out 0).trans rfl; have hcz34_1 : w32.cell? ⟨q6, 1, none⟩ = some (.int .i64 x381001_2) := (blk_cell q5.out 1).trans rfl; have hfz34_0 := blk_frozen q5.out 0; have hfz34_1 := blk_frozen q5.out 1; have hcz35_0 : w32.cell? ⟨q8, 0, none⟩ = some (.slice qc t367.length qa) := (blk_cell q4.out 0).trans rfl; have hcz35_1 : w32.cell? ⟨q8, 1, none⟩ = some (.slice qe t370.length qd) := (blk_cell q4.out 1).trans rfl; have hfz35_0 := blk_frozen q4.out 0; have hfz35_1 := blk_frozen q4.out 1) | ((with_reducible refine gate_callee (f := 114) rfl ?_); refine goesL_ (some 51) rfl rfl Try.func114 (by kernel_rfl) rfl #[.agg #[.slice qc t367.length qa, .slice qe t370.length qd], .agg #[.slice qj t385.length qg, .int .i64 t388], .int .i64 a3] rfl ma ?_; (with_reducible refine (impl_SureTick.calls k2 _ _ t367 _ _ t370 _ _ t385 t388 a3 t389 _ ?side1 ?side2 ?side3 ?side4 ?side5 ?side6 A26.out).mono ?_); (case side1 => refine (Kd.R_reads' (e := 3) (base := w.heap.size) (ok := fun k_ => ((some k_ ≠ (.slice qe t370.length qd : Value).ownBlock ∧ some k_ ≠ (.slice qo x381000_2.length qp : Value).ownBlock) ∧ some k_ ≠ (.slice qj t385.length qg : Value).ownBlock)) (n := t367.length) (c := qa) ?_).2.2; exact (by refine ra ?_; exact (Kd.R_mono (Kd.R_far (p := ⟨q6, 1, none⟩) (Kd.R_far (p := ⟨q6, 0, none⟩) (Kd.R_types q1.out q5.out (by decide)) (fun _ hk => hk.2) (.slice qj t385.length qg)) (fun _ hk => hk.2) (.int .i64 t388)) (fun _ h_ => h_.1)))); (case side2 => exact (Kd.R_reads' q1.out).2.1); (case side3 => refine (Kd.R_reads' (e := 3) (base := w.heap.size) (ok := fun k_ => ((some k_ ≠ (.slice qc t367.length qa : Value).ownBlock ∧ some k_ ≠ (.slice qo x381000_2.length qp : Value).ownBlock) ∧ some k_ ≠ (.slice qj t385.length qg : Value).ownBlock)) (n := t370.length) (c := qd) ?_).2.2; exact (by refine ra ?_; exact (Kd.R_mono (Kd.R_far (p := ⟨q6, 1, none⟩) (Kd.R_far (p := ⟨q6, 0, none⟩) (Kd.R_types q2.out q5.out (by decide)) (fun _ hk => hk.2) (.slice qj t385.length qg)) (fun _ hk => hk.2) (.int .i64 t388)) (fun _ h_ => h_.1)))); (case side4 => exact (Kd.R_reads' q2.out).2.1); (case side5 => refine (Kd.R_reads' (e := 3) (base := w.heap.size) (ok := fun k_ => (((True ∧ some k_ ≠ (.slice qc t367.length qa : Value).ownBlock) ∧ some k_ ≠ (.slice qe t370.length qd : Value).ownBlock) ∧ some k_ ≠ (.slice qo x381000_2.length qp : Value).ownBlock)) (n := t385.length) (c := qg) ?_).2.2; exact (by refine ra ?_; exact (Kd.R_mono (Kd.R_far (p := ⟨q6, 1, none⟩) (Kd.R_far (p := ⟨q6, 0, none⟩) (Kd.R_types ql.out q5.out (by decide)) (fun _ hk => hk.2) (.slice qj t385.length qg)) (fun _ hk => hk.2) (.int .i64 t388)) (fun _ h_ => h_.1)))); (case side6 => exact (Kd.R_reads' ql.out).2.1); rintro e w36 ⟨rfl, hb⟩; refine ⟨_, rfl, ?_⟩; have n0_ := q0_16 (Kd.R_below (by refine ra ?_; exact (Kd.R_mono (Kd.R_far (p := ⟨q6, 1, none⟩) (Kd.R_far (p := ⟨q6, 0, none⟩) (Kd.R_types q1.out q5.out (by decide)) (fun _ hk => hk.2) (.slice qj t385.length qg)) (fun _ hk => hk.2) (.int .i64 t388)) (fun _ h_ => h_.1))) hb); have n1_ := q0_16 (Kd.R_below (by refine ra ?_; exact (Kd.R_mono (Kd.R_far (p := ⟨q6, 1, none⟩) (Kd.R_far (p := ⟨q6, 0, none⟩) (Kd.R_types q2.out q5.out (by decide)) (fun _ hk => hk.2) (.slice qj t385.length qg)) (fun _ hk => hk.2) (.int .i64 t388)) (fun _ h_ => h_.1))) hb); have n2_ := q0_16 (Kd.R_below (by refine ra ?_; exact (Kd.R_mono (Kd.R_far (p := ⟨q6, 1, none⟩) (Kd.R_far (p := ⟨q6, 0, none⟩) (Kd.R_types q3.out q5.out (by decide)) (fun _ hk => hk.2) (.slice qj t385.length qg)) (fun _ hk => hk.2) (.int .i64 t388)) (fun _ h_ => h_.1))) hb); have n3_ := q0_16 (Kd.R_below (by refine ra ?_; exact (Kd.R_mono (Kd.R_far (p := ⟨q6, 1, none⟩) (Kd.R_far (p := ⟨q6, 0, none⟩) (Kd.R_types ql.out q5.out (by decide)) (fun _ hk => hk.2) (.slice qj t385.length qg)) (fun _ hk => hk.2) (.int .i64 t388)) (fun _ h_ => h_.1))) hb); have n4_ := q0_16 (blk_below (g := q8) (o := .cells #[.slice qc t367.length qa, .slice qe t370.length qd] 42 (0, 0)) (by refine ba ?_; refine blk_far ?_ q9.out _; refine ba ?_; refine blk_far ?_ q9.out _; refine ba ?_; exact q4.out) hb); have n5_ := q0_16 (blk_below (g := q6) (o := .cells #[.slice qj t385.length qg, .int .i64 t388] 51 (0, 0)) (by refine ba ?_; refine blk_put (cs := #[.slice qj t385.length qg, .int .i64 x381001_2]) ?_ 1 _ rfl; refine ba ?_; refine blk_put (cs := #[.slice qo x381000_2.length qp, .int .i64 x381001_2]) ?_ 0 _ rfl; refine ba ?_; exact q5.out) hb); have n6_ := q0_16 (below_step (q7_16) hb); clear q1; clear q2; clear q3; clear ql; clear q4; clear q5; clear HB; have q1 := n0_; have q2 := n1_; have q3 := n2_; have ql := n3_; have q4 := n4_; have q5 := n5_; have HB := n6_; clear n0_ n1_ n2_ n3_ n4_ n5_ n6_; (try clear hb); (try clear hb2); (try clear hk); (try clear hi))))
             (go_roundg k2)
             case measure => have := HJ6.out; have := HK2.out; omega
             case rel => exact ⟨(ji27), (wrap64 (x38_2 + 1)), (t385), (t388), (.slice qj t385.length qg), (by first | rfl | (simp; done) | (simp only [← hji27] <;> (first | rfl | simp)) | (simp [*]; done)), (by first | rfl | (simp; done) | (simp [*]; done)), (by first | exact H' | (have H2_ := H'; (try simp only [← hji27] at H2_); (try simp only [← hji27]); exact H2_)), ⟨by have := HJ6.out; have := HK2.out; omega⟩, ⟨by refine ra ?_; exact Kd.R_mono q1.out (fun _ hk => ⟨hk.1.1, hk.2⟩)⟩, ⟨by refine ra ?_; exact Kd.R_mono q2.out (fun _ hk => ⟨hk.1.1, hk.2⟩)⟩, ⟨by refine ra ?_; exact Kd.R_mono ql.out (fun _ hk => ⟨hk.1.1.2, hk.1.2⟩)⟩, ⟨by refine ba ?_; exact q4.out⟩, ⟨by refine ba ?_; exact q5.out⟩, ⟨by exact (q7_16)⟩⟩
           · rw [if_neg c24] at H
             exact absurd H (by simp)
         · rw [if_neg c23] at H
           exact absurd H (by simp)
       · rw [if_neg c22] at H
         (have c22b0 : decide (x38_2 < (l2.length : Int)) = false := decide_eq_false c22); clear c22; replace H := Option.bind_eq_some_iff.mp H; obtain ⟨t390, A370, H⟩ := H; replace H : (some (t390, true)) = some (r1, r2) := H; have A37 := q0_16 A370; clear A370; (simp only [Option.some.injEq, Prod.mk.injEq] at H); obtain ⟨rfl, rfl⟩ := H; (go_wp2_with (first | ((with_reducible refine gate_callee (f := 115) rfl ?_); refine goesL_ (some 57) rfl rfl Try.func115 (by kernel_rfl) rfl #[.slice A0 l0.length c0, .int .i64 a1, .int .i64 (-1), .int .i64 x14_2] rfl ma ?_; (with_reducible refine (impl_DueEvents.calls k2 _ _ l0 a1 (-1) x14_2 t390 _ ?side1 ?side2 A37.out).mono ?_); (case side1 => exact ca (Kd.C_below HR0.out HB.out)); (case side2 => exact HC0.out); rintro e w38 ⟨v391, rfl, ho0, hb⟩; refine ⟨_, rfl, ?_⟩; have n0_ := q0_16 (Kd.R_below (ra q1.out) hb); have n1_ := q0_16 (Kd.R_below (ra q2.out) hb); have n2_ := q0_16 (Kd.R_below (ra q3.out) hb); have n3_ := q0_16 (Kd.R_lower ho0 (below_size (q7_16))); have n4_ := q0_16 (bb q4.out hb); have n5_ := q0_16 (bb q5.out hb); have n6_ := q0_16 (below_step (q7_16) hb); clear q1; clear q2; clear q3; clear q4; clear q5; clear HB; have q1 := n0_; have q2 := n1_; have q3 := n2_; have qs := n3_; have q4 := n4_; have q5 := n5_; have HB := n6_; clear n0_ n1_ n2_ n3_ n4_ n5_ n6_; (try clear hb); (try clear hb2); (try clear hk); (try clear hi); (try clear ho0)))); (go_ret2); (exact ⟨_, by first | rfl | (simp [errW_none, errW_some] <;> rfl) | (simp [*, errW_none, errW_some] <;> rfl), by refine ra ?_; exact qs.out, by exact (q7_16)⟩)
/-! ### laws_heldEventS: function 62 -/
def laws_heldEventS.l0 : Nat → List (S81) → Int → Int → Option (Int)
 | 0, _, _, _ => none
 | k + 1, x0, x1, x5 => if x5 < (x0.length : Int) then (if 0 ≤ x5 then (if ((rd_T81 x0 x5).f0) = x1 then (if ((rd_T81 x0 x5).f1) = (wrap64 (x1 + 1)) then (if ((rd_T81 x0 x5).f2) = (wrap64 ((wrap64 (x1 + 1)) + 1)) then (if ((rd_T81 x0 x5).f3) = (wrap64 ((wrap64 ((wrap64 (x1 + 1)) + 1)) + 1)) then (laws_heldEventS.l0 k x0 (wrap64 ((wrap64 ((wrap64 ((wrap64 (x1 + 1)) + 1)) + 1)) + 1)) (wrap64 (x5 + 1))) else (some (-1))) else (some (-1))) else (some (-1))) else (some (-1))) else (none)) else (some x1)
def laws_heldEventS.f (k : Nat) (l0 : List (S81)) (a1 : Int) : Option (Int) := laws_heldEventS.l0 k l0 a1 0
theorem laws_heldEventS.mono_l : ∀ k, (∀ y0 y1 y2, LeO (laws_heldEventS.l0 k y0 y1 y2) (laws_heldEventS.l0 (k + 1) y0 y1 y2))
 | 0 => fun _ _ _ r h => by simp [laws_heldEventS.l0] at h
 | k + 1 => by
  have ih0 := laws_heldEventS.mono_l k
  · intro y0 y1 y2
    unfold laws_heldEventS.l0
    repeat' first
    | (with_reducible exact ih0 _ _ _)
    | (with_reducible exact LeO.refl _)
    | (with_reducible exact LeO.none _)
    | (with_reducible refine LeO.ite ?_ ?_)
    | (with_reducible refine LeO.bind ?_ (fun _ => ?_))
    | exact ih0 _ _ _
    | exact LeO.none _
    | refine LeO.ite ?_ ?_
    | refine LeO.bind ?_ (fun _ => ?_)
theorem laws_heldEventS.mono : ∀ a0 a1 k, LeO (laws_heldEventS.f k a0 a1) (laws_heldEventS.f (k + 1) a0 a1) := by
 intro a0 a1 k; have ih0 := laws_heldEventS.mono_l k; unfold laws_heldEventS.f
 repeat' first
  | (with_reducible exact ih0 _ _ _)
  | (with_reducible exact LeO.refl _)
  | (with_reducible exact LeO.none _)
  | (with_reducible refine LeO.ite ?_ ?_)
  | (with_reducible refine LeO.bind ?_ (fun _ => ?_))
  | exact ih0 _ _ _
  | exact LeO.none _
  | refine LeO.ite ?_ ?_
  | refine LeO.bind ?_ (fun _ => ?_)
set_option maxHeartbeats 8000000 in
set_option maxRecDepth 100000 in
theorem laws_heldEventS.calls (k : Nat) (A0 : Option Addr) (c0 : Nat) (l0 : List (S81)) (a1 : Int) (r : Int) (w : World) (hr0 : Kd.C k81 w A0 l0.length l0) (hc0 : l0.length ≤ c0) (h : laws_heldEventS.f k l0 a1 = some r) :
 Calls Try.prog 62 #[.slice A0 l0.length c0, .int .i64 a1] w fun e w' => e = .returned (.int .i64 r) ∧ Drawn0 w w' := by
 have HR0 := q0_16 hr0; have HC0 := q0_16 hc0; clear hr0 hc0; (have H : (laws_heldEventS.l0 k l0 a1 0) = some r := h); clear h; (have H' := q0_16 H); clear H; go_enter Try.func62, Try.ntmps62; (go_wp2); (go_loopg [1, 5] k (fun kq v1 v5 w' => ∃ (x1_1 : Int) (x5_1 : Int), v1 = .int .i64 x1_1 ∧ v5 = .int .i64 x5_1 ∧ Aside0 (laws_heldEventS.l0 kq l0 x1_1 x5_1 = some r) ∧ Aside0 (kq ≤ k) ∧ Drawn0 w w'))
 case atStart => exact ⟨(a1), (0), (by first | rfl | (simp; done) | (simp [*]; done)), (by first | rfl | (simp; done) | (simp [*]; done)), H', ⟨Nat.le_refl _⟩, by repeat (first | exact Drawn0.refl _ | apply Drawn0.step)⟩
 case round =>
  clear H'; (try clear p2); obtain ⟨x1_1, x5_1, rfl, rfl, HA, HK1, ⟨m1, rfl⟩⟩ := hrel
  cases gk with
  | zero => exact absurd HA.out (by simp [laws_heldEventS.l0])
  | succ k1 =>
   have H := HA.out; clear HA; (simp only [laws_heldEventS.l0] at H)
   by_cases c3 : x5_1 < (l0.length : Int)
   · rw [if_pos c3] at H
     (have c3b0 : decide (x5_1 < (l0.length : Int)) = true := decide_eq_true c3); clear c3
     by_cases c4 : 0 ≤ x5_1
     · rw [if_pos c4] at H
       (have c4b0 : decide (0 ≤ x5_1) = true := decide_eq_true c4); clear c4
       by_cases c5 : ((rd_T81 l0 x5_1).f0) = x1_1
       · rw [if_pos c5] at H
         (have c5b0 : (((rd_T81 l0 x5_1).f0) == x1_1) = true := beq_iff_eq.mpr c5); (have c5b1 : (((rd_T81 l0 x5_1).f0) != x1_1) = false := bne_eq_false_iff_eq.mpr c5); clear c5
         by_cases c6 : ((rd_T81 l0 x5_1).f1) = (wrap64 (x1_1 + 1))
         · rw [if_pos c6] at H
           (have c6b0 : (((rd_T81 l0 x5_1).f1) == (wrap64 (x1_1 + 1))) = true := beq_iff_eq.mpr c6); (have c6b1 : (((rd_T81 l0 x5_1).f1) != (wrap64 (x1_1 + 1))) = false := bne_eq_false_iff_eq.mpr c6); clear c6
           by_cases c7 : ((rd_T81 l0 x5_1).f2) = (wrap64 ((wrap64 (x1_1 + 1)) + 1))
           · rw [if_pos c7] at H
             (have c7b0 : (((rd_T81 l0 x5_1).f2) == (wrap64 ((wrap64 (x1_1 + 1)) + 1))) = true := beq_iff_eq.mpr c7); (have c7b1 : (((rd_T81 l0 x5_1).f2) != (wrap64 ((wrap64 (x1_1 + 1)) + 1))) = false := bne_eq_false_iff_eq.mpr c7); clear c7
             by_cases c8 : ((rd_T81 l0 x5_1).f3) = (wrap64 ((wrap64 ((wrap64 (x1_1 + 1)) + 1)) + 1))
             · rw [if_pos c8] at H
               (have c8b0 : (((rd_T81 l0 x5_1).f3) == (wrap64 ((wrap64 ((wrap64 (x1_1 + 1)) + 1)) + 1))) = true := beq_iff_eq.mpr c8); (have c8b1 : (((rd_T81 l0 x5_1).f3) != (wrap64 ((wrap64 ((wrap64 (x1_1 + 1)) + 1)) + 1))) = false := bne_eq_false_iff_eq.mpr c8); clear c8; (have H' := q0_16 H); clear H; (have p393 : 0 ≤ (x5_1 : Int) := of_decide_eq_true (by first | (with_reducible assumption) | assumption)); (have q393 : x5_1 < (l0.length : Int) := of_decide_eq_true (by first | (with_reducible assumption) | assumption)); obtain ⟨ad393, e393, hx393_0, hx393_1, hx393_2, hx393_3⟩ := at_T81 HR0.out x5_1 p393 q393
               cases e393
               replace p393 := eq_true p393; replace q393 := eq_true q393; (have p394 : 0 ≤ (x5_1 : Int) := of_decide_eq_true (by first | (with_reducible assumption) | assumption)); (have q394 : x5_1 < (l0.length : Int) := of_decide_eq_true (by first | (with_reducible assumption) | assumption)); obtain ⟨ad394, e394, hx394_0, hx394_1, hx394_2, hx394_3⟩ := at_T81 HR0.out x5_1 p394 q394; obtain rfl : ad393 = ad394 := (by injection e394); replace p394 := eq_true p394; replace q394 := eq_true q394; (have p395 : 0 ≤ (x5_1 : Int) := of_decide_eq_true (by first | (with_reducible assumption) | assumption)); (have q395 : x5_1 < (l0.length : Int) := of_decide_eq_true (by first | (with_reducible assumption) | assumption)); obtain ⟨ad395, e395, hx395_0, hx395_1, hx395_2, hx395_3⟩ := at_T81 HR0.out x5_1 p395 q395; obtain rfl : ad393 = ad395 := (by injection e395); replace p395 := eq_true p395; replace q395 := eq_true q395; (have p396 : 0 ≤ (x5_1 : Int) := of_decide_eq_true (by first | (with_reducible assumption) | assumption)); (have q396 : x5_1 < (l0.length : Int) := of_decide_eq_true (by first | (with_reducible assumption) | assumption)); obtain ⟨ad396, e396, hx396_0, hx396_1, hx396_2, hx396_3⟩ := at_T81 HR0.out x5_1 p396 q396; obtain rfl : ad393 = ad396 := (by injection e396); replace p396 := eq_true p396; replace q396 := eq_true q396; (go_wp2); (go_roundg k1)
               case measure => have := HK1.out; omega
               case rel => exact ⟨(wrap64 ((wrap64 ((wrap64 ((wrap64 (x1_1 + 1)) + 1)) + 1)) + 1)), (wrap64 (x5_1 + 1)), (by first | rfl | (simp; done) | (simp [*]; done)), (by first | rfl | (simp; done) | (simp [*]; done)), H', ⟨by have := HK1.out; omega⟩, by repeat (first | exact Drawn0.refl _ | apply Drawn0.step)⟩
             · rw [if_neg c8] at H
               (have c8b0 : (((rd_T81 l0 x5_1).f3) == (wrap64 ((wrap64 ((wrap64 (x1_1 + 1)) + 1)) + 1))) = false := beq_eq_false_iff_ne.mpr c8); (have c8b1 : (((rd_T81 l0 x5_1).f3) != (wrap64 ((wrap64 ((wrap64 (x1_1 + 1)) + 1)) + 1))) = true := bne_iff_ne.mpr c8); obtain rfl := Option.some.inj H; (have p393 : 0 ≤ (x5_1 : Int) := of_decide_eq_true (by first | (with_reducible assumption) | assumption)); (have q393 : x5_1 < (l0.length : Int) := of_decide_eq_true (by first | (with_reducible assumption) | assumption)); obtain ⟨ad393, e393, hx393_0, hx393_1, hx393_2, hx393_3⟩ := at_T81 HR0.out x5_1 p393 q393
               cases e393
               replace p393 := eq_true p393; replace q393 := eq_true q393; (have p394 : 0 ≤ (x5_1 : Int) := of_decide_eq_true (by first | (with_reducible assumption) | assumption)); (have q394 : x5_1 < (l0.length : Int) := of_decide_eq_true (by first | (with_reducible assumption) | assumption)); obtain ⟨ad394, e394, hx394_0, hx394_1, hx394_2, hx394_3⟩ := at_T81 HR0.out x5_1 p394 q394; obtain rfl : ad393 = ad394 := (by injection e394); replace p394 := eq_true p394; replace q394 := eq_true q394; (have p395 : 0 ≤ (x5_1 : Int) := of_decide_eq_true (by first | (with_reducible assumption) | assumption)); (have q395 : x5_1 < (l0.length : Int) := of_decide_eq_true (by first | (with_reducible assumption) | assumption)); obtain ⟨ad395, e395, hx395_0, hx395_1, hx395_2, hx395_3⟩ := at_T81 HR0.out x5_1 p395 q395; obtain rfl : ad393 = ad395 := (by injection e395); replace p395 := eq_true p395; replace q395 := eq_true q395; (have p396 : 0 ≤ (x5_1 : Int) := of_decide_eq_true (by first | (with_reducible assumption) | assumption)); (have q396 : x5_1 < (l0.length : Int) := of_decide_eq_true (by first | (with_reducible assumption) | assumption)); obtain ⟨ad396, e396, hx396_0, hx396_1, hx396_2, hx396_3⟩ := at_T81 HR0.out x5_1 p396 q396; obtain rfl : ad393 = ad396 := (by injection e396); replace p396 := eq_true p396; replace q396 := eq_true q396; (go_wp2); go_ret; exact ⟨by first | rfl | (simp; done) | (simp [*]; done), by repeat (first | exact Drawn0.refl _ | apply Drawn0.step)⟩
           · rw [if_neg c7] at H
             (have c7b0 : (((rd_T81 l0 x5_1).f2) == (wrap64 ((wrap64 (x1_1 + 1)) + 1))) = false := beq_eq_false_iff_ne.mpr c7); (have c7b1 : (((rd_T81 l0 x5_1).f2) != (wrap64 ((wrap64 (x1_1 + 1)) + 1))) = true := bne_iff_ne.mpr c7); obtain rfl := Option.some.inj H; (have p393 : 0 ≤ (x5_1 : Int) := of_decide_eq_true (by first | (with_reducible assumption) | assumption)); (have q393 : x5_1 < (l0.length : Int) := of_decide_eq_true (by first | (with_reducible assumption) | assumption)); obtain ⟨ad393, e393, hx393_0, hx393_1, hx393_2, hx393_3⟩ := at_T81 HR0.out x5_1 p393 q393
             cases e393
             replace p393 := eq_true p393; replace q393 := eq_true q393; (have p394 : 0 ≤ (x5_1 : Int) := of_decide_eq_true (by first | (with_reducible assumption) | assumption)); (have q394 : x5_1 < (l0.length : Int) := of_decide_eq_true (by first | (with_reducible assumption) | assumption)); obtain ⟨ad394, e394, hx394_0, hx394_1, hx394_2, hx394_3⟩ := at_T81 HR0.out x5_1 p394 q394; obtain rfl : ad393 = ad394 := (by injection e394); replace p394 := eq_true p394; replace q394 := eq_true q394; (have p395 : 0 ≤ (x5_1 : Int) := of_decide_eq_true (by first | (with_reducible assumption) | assumption)); (have q395 : x5_1 < (l0.length : Int) := of_decide_eq_true (by first | (with_reducible assumption) | assumption)); obtain ⟨ad395, e395, hx395_0, hx395_1, hx395_2, hx395_3⟩ := at_T81 HR0.out x5_1 p395 q395; obtain rfl : ad393 = ad395 := (by injection e395); replace p395 := eq_true p395; replace q395 := eq_true q395; (go_wp2); go_ret; exact ⟨by first | rfl | (simp; done) | (simp [*]; done), by repeat (first | exact Drawn0.refl _ | apply Drawn0.step)⟩
         · rw [if_neg c6] at H
           (have c6b0 : (((rd_T81 l0 x5_1).f1) == (wrap64 (x1_1 + 1))) = false := beq_eq_false_iff_ne.mpr c6); (have c6b1 : (((rd_T81 l0 x5_1).f1) != (wrap64 (x1_1 + 1))) = true := bne_iff_ne.mpr c6); obtain rfl := Option.some.inj H; (have p393 : 0 ≤ (x5_1 : Int) := of_decide_eq_true (by first | (with_reducible assumption) | assumption)); (have q393 : x5_1 < (l0.length : Int) := of_decide_eq_true (by first | (with_reducible assumption) | assumption)); obtain ⟨ad393, e393, hx393_0, hx393_1, hx393_2, hx393_3⟩ := at_T81 HR0.out x5_1 p393 q393
           cases e393
           replace p393 := eq_true p393; replace q393 := eq_true q393; (have p394 : 0 ≤ (x5_1 : Int) := of_decide_eq_true (by first | (with_reducible assumption) | assumption)); (have q394 : x5_1 < (l0.length : Int) := of_decide_eq_true (by first | (with_reducible assumption) | assumption)); obtain ⟨ad394, e394, hx394_0, hx394_1, hx394_2, hx394_3⟩ := at_T81 HR0.out x5_1 p394 q394; obtain rfl : ad393 = ad394 := (by injection e394); replace p394 := eq_true p394; replace q394 := eq_true q394; (go_wp2); go_ret; exact ⟨by first | rfl | (simp; done) | (simp [*]; done), by repeat (first | exact Drawn0.refl _ | apply Drawn0.step)⟩
       · rw [if_neg c5] at H
         (have c5b0 : (((rd_T81 l0 x5_1).f0) == x1_1) = false := beq_eq_false_iff_ne.mpr c5); (have c5b1 : (((rd_T81 l0 x5_1).f0) != x1_1) = true := bne_iff_ne.mpr c5); obtain rfl := Option.some.inj H; (have p393 : 0 ≤ (x5_1 : Int) := of_decide_eq_true (by first | (with_reducible assumption) | assumption)); (have q393 : x5_1 < (l0.length : Int) := of_decide_eq_true (by first | (with_reducible assumption) | assumption)); obtain ⟨ad393, e393, hx393_0, hx393_1, hx393_2, hx393_3⟩ := at_T81 HR0.out x5_1 p393 q393
         cases e393
         replace p393 := eq_true p393; replace q393 := eq_true q393; (go_wp2); go_ret; exact ⟨by first | rfl | (simp; done) | (simp [*]; done), by repeat (first | exact Drawn0.refl _ | apply Drawn0.step)⟩
     · rw [if_neg c4] at H
       exact absurd H (by simp)
   · rw [if_neg c3] at H
     (have c3b0 : decide (x5_1 < (l0.length : Int)) = false := decide_eq_false c3); clear c3; obtain rfl := Option.some.inj H; (go_wp2); go_ret; exact ⟨by first | rfl | (simp; done) | (simp [*]; done), by repeat (first | exact Drawn0.refl _ | apply Drawn0.step)⟩
end Go.Proofs.Ytlkcbmcbmanmiaa.PFnExactPlayAlong
