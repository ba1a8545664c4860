-- Written for this claim by a program of this repository (wip/tools/print2.py), out of the translation; Lean checks it.
import Derived.Test.YtlkcbmcbmanmiaaPFnExactFaultsInx0
import Derived.Test.YtlkcbmcbmanmiaaPFnExactFaultsInx9
import Derived.Test.YtlkcbmcbmanmiaaPFnExactFaultsInx10
namespace Go.Proofs.Ytlkcbmcbmanmiaa.PFnExactFaultsIn
open Go.RowKit Go.Proofs.YtlkcbmcbmanmiaaW.PrintWords Go.Proofs.YtlkcbmcbmanmiaaW.PrintLast Go.Proofs.YtlkcbmcbmanmiaaW.PrintMore
attribute [local go_sem] max2_int min2_int max_two min_two max_three min_three max_four min_four   -- for this text's walks alone
set_option linter.unusedVariables false
set_option linter.unusedSimpArgs false
-- SHORT
theorem q5_11 {p : Prop} (f : p := by repeat (first | (with_reducible first | exact HB.out | apply below_alloc | apply pw_below_drewN | apply below_drew1) | exact HB.out)) : p := f
theorem q6_11 {p : Prop} (f : p := by repeat (first | (with_reducible first | exact HB.out | apply below_alloc | apply pw_below_drewN | apply below_drew1 | refine below_set ?_ q8.out) | exact HB.out)) : p := f
theorem q0_11 {p : Prop} (h : p) : Aside0 p := ⟨h⟩
/-! ### impl_PitchAt: function 94 -/
def impl_PitchAt.l0 : Nat → Int → Int → Int → List (S81) → Int → Int → Option (Int)
 | 0, _, _, _, _, _, _ => none
 | k + 1, x1, x2, x7, x12, x13, x14 => if x14 < x13 then (if 0 ≤ x14 then (if x14 < (x12.length : Int) then (if ((rd_T81 x12 x14).f3) = x1 then ((impl_Event_sounds.f ((rd_T81 x12 x14).f0) ((rd_T81 x12 x14).f1) ((rd_T81 x12 x14).f2) ((rd_T81 x12 x14).f3) x2).bind fun t360 => (if t360 = true then (impl_PitchAt.l0 k x1 x2 ((rd_T81 x12 x14).f2) x12 x13 (wrap64 (x14 + 1))) else (impl_PitchAt.l0 k x1 x2 x7 x12 x13 (wrap64 (x14 + 1))))) else (impl_PitchAt.l0 k x1 x2 x7 x12 x13 (wrap64 (x14 + 1)))) else (none)) else (none)) else (some x7)
def impl_PitchAt.f (k : Nat) (l0 : List (S81)) (a1 : Int) (a2 : Int) : Option (Int) := (impl_IsScore.f k l0).bind fun t357 => (if t357 = true then (impl_PitchAt.l0 k a1 a2 0 l0 (l0.length : Int) 0) else (some 0))
theorem impl_PitchAt.mono_l : ∀ k, (∀ y0 y1 y2 y3 y4 y5, LeO (impl_PitchAt.l0 k y0 y1 y2 y3 y4 y5) (impl_PitchAt.l0 (k + 1) y0 y1 y2 y3 y4 y5))
 | 0 => fun _ _ _ _ _ _ r h => by simp [impl_PitchAt.l0] at h
 | k + 1 => by
  have ih0 := impl_PitchAt.mono_l k
  · intro y0 y1 y2 y3 y4 y5
    unfold impl_PitchAt.l0
    repeat' first
    | (with_reducible exact ih0 _ _ _ _ _ _)
    | (with_reducible exact impl_IsScore.mono _ _)
    | (with_reducible exact LeO.refl _)
    | (with_reducible exact LeO.none _)
    | (with_reducible refine LeO.ite ?_ ?_)
    | (with_reducible refine LeO.bind ?_ (fun _ => ?_))
    | exact ih0 _ _ _ _ _ _
    | exact impl_IsScore.mono _ _
    | exact LeO.none _
    | refine LeO.ite ?_ ?_
    | refine LeO.bind ?_ (fun _ => ?_)
theorem impl_PitchAt.mono : ∀ a0 a1 a2 k, LeO (impl_PitchAt.f k a0 a1 a2) (impl_PitchAt.f (k + 1) a0 a1 a2) := by
 intro a0 a1 a2 k; have ih0 := impl_PitchAt.mono_l k; unfold impl_PitchAt.f
 repeat' first
  | (with_reducible exact ih0 _ _ _ _ _ _)
  | (with_reducible exact impl_IsScore.mono _ _)
  | (with_reducible exact LeO.refl _)
  | (with_reducible exact LeO.none _)
  | (with_reducible refine LeO.ite ?_ ?_)
  | (with_reducible refine LeO.bind ?_ (fun _ => ?_))
  | exact ih0 _ _ _ _ _ _
  | exact impl_IsScore.mono _ _
  | exact LeO.none _
  | refine LeO.ite ?_ ?_
  | refine LeO.bind ?_ (fun _ => ?_)
set_option maxHeartbeats 8000000 in
set_option maxRecDepth 100000 in
theorem impl_PitchAt.calls (k : Nat) (A0 : Option Addr) (c0 : Nat) (l0 : List (S81)) (a1 : Int) (a2 : Int) (r : Int) (w : World) (hr0 : Kd.C k81 w A0 l0.length l0) (hc0 : l0.length ≤ c0) (h : impl_PitchAt.f k l0 a1 a2 = some r) :
 Calls Try.prog 94 #[.slice A0 l0.length c0, .int .i64 a1, .int .i64 a2] w fun e w' => e = .returned (.int .i64 r) ∧ Below w.heap.size w w' := by
 have hu81 := Try.underlying81; have HR0 := q0_11 hr0; have HC0 := q0_11 hc0; clear hr0 hc0; have HB := q0_11 (Below.refl w.heap.size w); (have H : ((impl_IsScore.f k l0).bind fun t357 => (if t357 = true then (impl_PitchAt.l0 k a1 a2 0 l0 (l0.length : Int) 0) else (some 0))) = some r := h); clear h; replace H := Option.bind_eq_some_iff.mp H; obtain ⟨t357, A40, H⟩ := H; replace H : (if t357 = true then (impl_PitchAt.l0 k a1 a2 0 l0 (l0.length : Int) 0) else (some 0)) = some r := H; have A4 := q0_11 A40; clear A40
 by_cases c5 : t357 = true
 · subst c5
   have H1 : (impl_PitchAt.l0 k a1 a2 0 l0 (l0.length : Int) 0) = some r := by rw [if_pos rfl] at H; exact H
   clear H; have H := H1; clear H1; (have H' := q0_11 H); clear H; go_enter Try.func94, Try.ntmps94; (go_wp2_with (first | ((with_reducible refine gate_callee (f := 67) rfl ?_); refine goesL_ (some 11) rfl rfl Try.func67 (by kernel_rfl) rfl #[.slice A0 l0.length c0] rfl ma ?_; (with_reducible refine (impl_IsScore.calls k _ _ l0 true _ ?side1 ?side2 A4.out).mono ?_); (case side1 => repeat (first | exact HR0.out | (with_reducible refine Kd.C_alloc ?_ _) | (with_reducible refine Kd.C_drewN ?_ _) | (with_reducible refine Kd.C_drew ?_))); (case side2 => exact HC0.out); rintro e w6 ⟨rfl, hb⟩; refine ⟨_, rfl, ?_⟩; have n0_ := q0_11 (below_step (q5_11) hb); clear HB; have HB := n0_; clear n0_; (try clear hb); (try clear hb2); (try clear hk); (try clear hi)))); (go_loopg [7, 14] k (fun kq v7 v14 w' => ∃ (x7_1 : Int) (x14_1 : Int), v7 = .int .i64 x7_1 ∧ v14 = .int .i64 x14_1 ∧ Aside0 (impl_PitchAt.l0 kq a1 a2 x7_1 l0 (l0.length : Int) x14_1 = some r) ∧ Aside0 (kq ≤ k) ∧ Aside0 (Below w.heap.size w w')))
   case atStart => exact ⟨(0), (0), (by first | rfl | (simp; done) | (simp [*]; done)), (by first | rfl | (simp; done) | (simp [*]; done)), H', ⟨Nat.le_refl _⟩, ⟨by exact (q5_11)⟩⟩
   case round =>
    clear H'; (try clear p2); (try clear c5); (try clear c6); obtain ⟨x7_1, x14_1, rfl, rfl, HA, HK1, HB⟩ := hrel
    cases gk with
    | zero => exact absurd HA.out (by simp [impl_PitchAt.l0])
    | succ k1 =>
     have H := HA.out; clear HA; (simp only [impl_PitchAt.l0] at H)
     by_cases c7 : x14_1 < (l0.length : Int)
     · rw [if_pos c7] at H
       (have c7b0 : decide (x14_1 < (l0.length : Int)) = true := decide_eq_true c7); clear c7
       by_cases c8 : 0 ≤ x14_1
       · rw [if_pos c8] at H
         (have c8b0 : decide (0 ≤ x14_1) = true := decide_eq_true c8); clear c8
         by_cases c9 : x14_1 < (l0.length : Int)
         · rw [if_pos c9] at H
           (have c9b0 : decide (x14_1 < (l0.length : Int)) = true := decide_eq_true c9); clear c9
           by_cases c10 : ((rd_T81 l0 x14_1).f3) = a1
           · rw [if_pos c10] at H
             (have c10b0 : (((rd_T81 l0 x14_1).f3) == a1) = true := beq_iff_eq.mpr c10); (have c10b1 : (((rd_T81 l0 x14_1).f3) != a1) = false := bne_eq_false_iff_eq.mpr c10); clear c10; replace H := Option.bind_eq_some_iff.mp H; obtain ⟨t360, A110, H⟩ := H; replace H : (if t360 = true then (impl_PitchAt.l0 k1 a1 a2 ((rd_T81 l0 x14_1).f2) l0 (l0.length : Int) (wrap64 (x14_1 + 1))) else (impl_PitchAt.l0 k1 a1 a2 x7_1 l0 (l0.length : Int) (wrap64 (x14_1 + 1)))) = some r := H; have A11 := q0_11 A110; clear A110
             by_cases c12 : t360 = true
             · subst c12
               have H1 : (impl_PitchAt.l0 k1 a1 a2 ((rd_T81 l0 x14_1).f2) l0 (l0.length : Int) (wrap64 (x14_1 + 1))) = some r := by rw [if_pos rfl] at H; exact H
               clear H; have H := H1; clear H1; (have H' := q0_11 H); clear H; (have p358 : 0 ≤ (x14_1 : Int) := of_decide_eq_true (by first | (with_reducible assumption) | assumption)); (have q358 : x14_1 < (l0.length : Int) := of_decide_eq_true (by first | (with_reducible assumption) | assumption)); obtain ⟨ad358, e358, hx358_0, hx358_1, hx358_2, hx358_3⟩ := at_T81 HR0.out x14_1 p358 q358
               cases e358
               replace hx358_0 := (HB.out.cell (World.block_lt_of_cell? w _ hx358_0)).trans hx358_0; replace hx358_1 := (HB.out.cell (World.block_lt_of_cell? w _ hx358_1)).trans hx358_1; replace hx358_2 := (HB.out.cell (World.block_lt_of_cell? w _ hx358_2)).trans hx358_2; replace hx358_3 := (HB.out.cell (World.block_lt_of_cell? w _ hx358_3)).trans hx358_3; replace p358 := eq_true p358; replace q358 := eq_true q358
               (go_wp2_with (first | ((with_reducible refine gate_dst (N := 9) rfl ?_); refine box_event ?hg (N := 9) ?hd (cs := #[.int .i64 0, .int .i64 0, .int .i64 0, .int .i64 0]) (t := 81) ?hr ?_; (case hd => rfl); (case hg => rfl); (case hr => first | (go_simp; done) | (go_simp; rfl)); intro q3 hg w13 hbox hb; have n0_ := q0_11 (below_step (q5_11) hb); have n1_ := q0_11 (hbox); have n2_ := q0_11 ((by rw [hg]; exact (below_size (q5_11)) : w.heap.size ≤ q3)); have n3_ := q0_11 ((by rw [hg]; exact (below_size (q5_11)) : w.heap.size ≤ q3)); clear HB; have HB := n0_; have q1 := n1_; have GW359 := n2_; have q8 := n3_; clear n0_ n1_ n2_ n3_; clear hb hbox hg; have hcz14_0 : w13.cell? ⟨q3, 0, none⟩ = some (.int .i64 0) := (blk_cell q1.out 0).trans rfl; have hcz14_1 : w13.cell? ⟨q3, 1, none⟩ = some (.int .i64 0) := (blk_cell q1.out 1).trans rfl; have hcz14_2 : w13.cell? ⟨q3, 2, none⟩ = some (.int .i64 0) := (blk_cell q1.out 2).trans rfl; have hcz14_3 : w13.cell? ⟨q3, 3, none⟩ = some (.int .i64 0) := (blk_cell q1.out 3).trans rfl; have hfz14_0 := blk_frozen q1.out 0; have hfz14_1 := blk_frozen q1.out 1; have hfz14_2 := blk_frozen q1.out 2; have hfz14_3 := blk_frozen q1.out 3) | (go_at_call 137; (with_reducible refine (impl_Event_sounds.calls ((rd_T81 l0 x14_1).f0) ((rd_T81 l0 x14_1).f1) ((rd_T81 l0 x14_1).f2) ((rd_T81 l0 x14_1).f3) a2 true _ A11.out).mono ?_); rintro e w15 ⟨rfl, hb⟩; have n0_ := q0_11 (blk_below (g := q3) (o := .cells #[.int .i64 ((rd_T81 l0 x14_1).f0), .int .i64 ((rd_T81 l0 x14_1).f1), .int .i64 ((rd_T81 l0 x14_1).f2), .int .i64 ((rd_T81 l0 x14_1).f3)] 81 (0, 0)) (by refine ba ?_; refine blk_put (cs := #[.int .i64 ((rd_T81 l0 x14_1).f0), .int .i64 ((rd_T81 l0 x14_1).f1), .int .i64 ((rd_T81 l0 x14_1).f2), .int .i64 0]) ?_ 3 _ rfl; refine ba ?_; refine blk_put (cs := #[.int .i64 ((rd_T81 l0 x14_1).f0), .int .i64 ((rd_T81 l0 x14_1).f1), .int .i64 0, .int .i64 0]) ?_ 2 _ rfl; refine ba ?_; refine blk_put (cs := #[.int .i64 ((rd_T81 l0 x14_1).f0), .int .i64 0, .int .i64 0, .int .i64 0]) ?_ 1 _ rfl; refine ba ?_; refine blk_put (cs := #[.int .i64 0, .int .i64 0, .int .i64 0, .int .i64 0]) ?_ 0 _ rfl; refine ba ?_; exact q1.out) hb); have n1_ := q0_11 (below_step (q6_11) hb); clear q1; clear HB; have q1 := n0_; have HB := n1_; clear n0_ n1_; (try clear hb); (try clear hb2); (try clear hk); (try clear hi); have hcz16_0 : w15.cell? ⟨q3, 0, none⟩ = some (.int .i64 ((rd_T81 l0 x14_1).f0)) := (blk_cell q1.out 0).trans rfl; have hcz16_1 : w15.cell? ⟨q3, 1, none⟩ = some (.int .i64 ((rd_T81 l0 x14_1).f1)) := (blk_cell q1.out 1).trans rfl; have hcz16_2 : w15.cell? ⟨q3, 2, none⟩ = some (.int .i64 ((rd_T81 l0 x14_1).f2)) := (blk_cell q1.out 2).trans rfl; have hcz16_3 : w15.cell? ⟨q3, 3, none⟩ = some (.int .i64 ((rd_T81 l0 x14_1).f3)) := (blk_cell q1.out 3).trans rfl; have hfz16_0 := blk_frozen q1.out 0; have hfz16_1 := blk_frozen q1.out 1; have hfz16_2 := blk_frozen q1.out 2; have hfz16_3 := blk_frozen q1.out 3)))
               (go_roundg k1)
               case measure => have := HK1.out; omega
               case rel => exact ⟨((rd_T81 l0 x14_1).f2), (wrap64 (x14_1 + 1)), (by first | rfl | (simp; done) | (simp [*]; done)), (by first | rfl | (simp; done) | (simp [*]; done)), H', ⟨by have := HK1.out; omega⟩, ⟨by exact (q6_11)⟩⟩
             · replace c12 := Bool.eq_false_iff.mpr c12
               subst c12; (have H1 : (impl_PitchAt.l0 k1 a1 a2 x7_1 l0 (l0.length : Int) (wrap64 (x14_1 + 1))) = some r := by rw [if_neg (show ¬ (false = true) by decide)] at H; exact H); clear H; have H := H1; clear H1; (have H' := q0_11 H); clear H; (have p358 : 0 ≤ (x14_1 : Int) := of_decide_eq_true (by first | (with_reducible assumption) | assumption)); (have q358 : x14_1 < (l0.length : Int) := of_decide_eq_true (by first | (with_reducible assumption) | assumption)); obtain ⟨ad358, e358, hx358_0, hx358_1, hx358_2, hx358_3⟩ := at_T81 HR0.out x14_1 p358 q358
               cases e358
               replace hx358_0 := (HB.out.cell (World.block_lt_of_cell? w _ hx358_0)).trans hx358_0; replace hx358_1 := (HB.out.cell (World.block_lt_of_cell? w _ hx358_1)).trans hx358_1; replace hx358_2 := (HB.out.cell (World.block_lt_of_cell? w _ hx358_2)).trans hx358_2; replace hx358_3 := (HB.out.cell (World.block_lt_of_cell? w _ hx358_3)).trans hx358_3; replace p358 := eq_true p358; replace q358 := eq_true q358; (go_wp2_with (first | ((with_reducible refine gate_dst (N := 9) rfl ?_); refine box_event ?hg (N := 9) ?hd (cs := #[.int .i64 0, .int .i64 0, .int .i64 0, .int .i64 0]) (t := 81) ?hr ?_; (case hd => rfl); (case hg => rfl); (case hr => first | (go_simp; done) | (go_simp; rfl)); intro q3 hg w17 hbox hb; have n0_ := q0_11 (below_step (q5_11) hb); have n1_ := q0_11 (hbox); have n2_ := q0_11 ((by rw [hg]; exact (below_size (q5_11)) : w.heap.size ≤ q3)); have n3_ := q0_11 ((by rw [hg]; exact (below_size (q5_11)) : w.heap.size ≤ q3)); clear HB; have HB := n0_; have q1 := n1_; have GW359 := n2_; have q8 := n3_; clear n0_ n1_ n2_ n3_; clear hb hbox hg; have hcz18_0 : w17.cell? ⟨q3, 0, none⟩ = some (.int .i64 0) := (blk_cell q1.out 0).trans rfl; have hcz18_1 : w17.cell? ⟨q3, 1, none⟩ = some (.int .i64 0) := (blk_cell q1.out 1).trans rfl; have hcz18_2 : w17.cell? ⟨q3, 2, none⟩ = some (.int .i64 0) := (blk_cell q1.out 2).trans rfl; have hcz18_3 : w17.cell? ⟨q3, 3, none⟩ = some (.int .i64 0) := (blk_cell q1.out 3).trans rfl; have hfz18_0 := blk_frozen q1.out 0; have hfz18_1 := blk_frozen q1.out 1; have hfz18_2 := blk_frozen q1.out 2; have hfz18_3 := blk_frozen q1.out 3) | (go_at_call 137; (with_reducible refine (impl_Event_sounds.calls ((rd_T81 l0 x14_1).f0) ((rd_T81 l0 x14_1).f1) ((rd_T81 l0 x14_1).f2) ((rd_T81 l0 x14_1).f3) a2 false _ A11.out).mono ?_); rintro e w19 ⟨rfl, hb⟩; have n0_ := q0_11 (blk_below (g := q3) (o := .cells #[.int .i64 ((rd_T81 l0 x14_1).f0), .int .i64 ((rd_T81 l0 x14_1).f1), .int .i64 ((rd_T81 l0 x14_1).f2), .int .i64 ((rd_T81 l0 x14_1).f3)] 81 (0, 0)) (by refine ba ?_; refine blk_put (cs := #[.int .i64 ((rd_T81 l0 x14_1).f0), .int .i64 ((rd_T81 l0 x14_1).f1), .int .i64 ((rd_T81 l0 x14_1).f2), .int .i64 0]) ?_ 3 _ rfl; refine ba ?_; refine blk_put (cs := #[.int .i64 ((rd_T81 l0 x14_1).f0), .int .i64 ((rd_T81 l0 x14_1).f1), .int .i64 0, .int .i64 0]) ?_ 2 _ rfl; refine ba ?_; refine blk_put (cs := #[.int .i64 ((rd_T81 l0 x14_1).f0), .int .i64 0, .int .i64 0, .int .i64 0]) ?_ 1 _ rfl; refine ba ?_; refine blk_put (cs := #[.int .i64 0, .int .i64 0, .int .i64 0, .int .i64 0]) ?_ 0 _ rfl; refine ba ?_; exact q1.out) hb); have n1_ := q0_11 (below_step (q6_11) hb); clear q1; clear HB; have q1 := n0_; have HB := n1_; clear n0_ n1_; (try clear hb); (try clear hb2); (try clear hk); (try clear hi)))); (go_roundg k1)
               case measure => have := HK1.out; omega
               case rel => exact ⟨(x7_1), (wrap64 (x14_1 + 1)), (by first | rfl | (simp; done) | (simp [*]; done)), (by first | rfl | (simp; done) | (simp [*]; done)), H', ⟨by have := HK1.out; omega⟩, ⟨by exact (q6_11)⟩⟩
           · rw [if_neg c10] at H
             (have c10b0 : (((rd_T81 l0 x14_1).f3) == a1) = false := beq_eq_false_iff_ne.mpr c10); (have c10b1 : (((rd_T81 l0 x14_1).f3) != a1) = true := bne_iff_ne.mpr c10); (have H' := q0_11 H); clear H; (have p358 : 0 ≤ (x14_1 : Int) := of_decide_eq_true (by first | (with_reducible assumption) | assumption)); (have q358 : x14_1 < (l0.length : Int) := of_decide_eq_true (by first | (with_reducible assumption) | assumption)); obtain ⟨ad358, e358, hx358_0, hx358_1, hx358_2, hx358_3⟩ := at_T81 HR0.out x14_1 p358 q358
             cases e358
             replace hx358_0 := (HB.out.cell (World.block_lt_of_cell? w _ hx358_0)).trans hx358_0; replace hx358_1 := (HB.out.cell (World.block_lt_of_cell? w _ hx358_1)).trans hx358_1; replace hx358_2 := (HB.out.cell (World.block_lt_of_cell? w _ hx358_2)).trans hx358_2; replace hx358_3 := (HB.out.cell (World.block_lt_of_cell? w _ hx358_3)).trans hx358_3; replace p358 := eq_true p358; replace q358 := eq_true q358; (go_wp2_with (first | ((with_reducible refine gate_dst (N := 9) rfl ?_); refine box_event ?hg (N := 9) ?hd (cs := #[.int .i64 0, .int .i64 0, .int .i64 0, .int .i64 0]) (t := 81) ?hr ?_; (case hd => rfl); (case hg => rfl); (case hr => first | (go_simp; done) | (go_simp; rfl)); intro q3 hg w20 hbox hb; have n0_ := q0_11 (below_step (q5_11) hb); have n1_ := q0_11 (hbox); have n2_ := q0_11 ((by rw [hg]; exact (below_size (q5_11)) : w.heap.size ≤ q3)); have n3_ := q0_11 ((by rw [hg]; exact (below_size (q5_11)) : w.heap.size ≤ q3)); clear HB; have HB := n0_; have q1 := n1_; have GW359 := n2_; have q8 := n3_; clear n0_ n1_ n2_ n3_; clear hb hbox hg; have hcz21_0 : w20.cell? ⟨q3, 0, none⟩ = some (.int .i64 0) := (blk_cell q1.out 0).trans rfl; have hcz21_1 : w20.cell? ⟨q3, 1, none⟩ = some (.int .i64 0) := (blk_cell q1.out 1).trans rfl; have hcz21_2 : w20.cell? ⟨q3, 2, none⟩ = some (.int .i64 0) := (blk_cell q1.out 2).trans rfl; have hcz21_3 : w20.cell? ⟨q3, 3, none⟩ = some (.int .i64 0) := (blk_cell q1.out 3).trans rfl; have hfz21_0 := blk_frozen q1.out 0; have hfz21_1 := blk_frozen q1.out 1; have hfz21_2 := blk_frozen q1.out 2; have hfz21_3 := blk_frozen q1.out 3))); (go_roundg k1)
             case measure => have := HK1.out; omega
             case rel => exact ⟨(x7_1), (wrap64 (x14_1 + 1)), (by first | rfl | (simp; done) | (simp [*]; done)), (by first | rfl | (simp; done) | (simp [*]; done)), H', ⟨by have := HK1.out; omega⟩, ⟨by exact (q6_11)⟩⟩
         · rw [if_neg c9] at H
           exact absurd H (by simp)
       · rw [if_neg c8] at H
         exact absurd H (by simp)
     · rw [if_neg c7] at H
       (have c7b0 : decide (x14_1 < (l0.length : Int)) = false := decide_eq_false c7); clear c7; obtain rfl := Option.some.inj H; (go_wp2); go_ret; (exact ⟨by first | rfl | (simp [errW_none, errW_some] <;> rfl) | (simp [*, errW_none, errW_some] <;> rfl), by exact (q5_11)⟩)
 · replace c5 := Bool.eq_false_iff.mpr c5
   subst c5; (have H1 : (some 0) = some r := by rw [if_neg (show ¬ (false = true) by decide)] at H; exact H); clear H; have H := H1; clear H1; obtain rfl := Option.some.inj H; go_enter Try.func94, Try.ntmps94; (go_wp2_with (first | ((with_reducible refine gate_callee (f := 67) rfl ?_); refine goesL_ (some 11) rfl rfl Try.func67 (by kernel_rfl) rfl #[.slice A0 l0.length c0] rfl ma ?_; (with_reducible refine (impl_IsScore.calls k _ _ l0 false _ ?side1 ?side2 A4.out).mono ?_); (case side1 => repeat (first | exact HR0.out | (with_reducible refine Kd.C_alloc ?_ _) | (with_reducible refine Kd.C_drewN ?_ _) | (with_reducible refine Kd.C_drew ?_))); (case side2 => exact HC0.out); rintro e w22 ⟨rfl, hb⟩; refine ⟨_, rfl, ?_⟩; have n0_ := q0_11 (below_step (q5_11) hb); clear HB; have HB := n0_; clear n0_; (try clear hb); (try clear hb2); (try clear hk); (try clear hi)))); go_ret; (exact ⟨by first | rfl | (simp [errW_none, errW_some] <;> rfl) | (simp [*, errW_none, errW_some] <;> rfl), by exact (q5_11)⟩)
/-! ### impl_CrossingsIn: function 42 -/
def impl_CrossingsIn.l0 : Nat → List (S81) → Int → Int → List Int → List Int → Int → Int → Option (List Int)
 | 0, _, _, _, _, _, _, _ => none
 | k + 1, x0, x1, x2, x7, x16, x17, x18 => if x18 < x17 then (if 0 ≤ x18 then (if x18 < (x16.length : Int) then ((impl_PitchAt.f k x0 x1 (rd x16 x18)).bind fun t368 => ((impl_PitchAt.f k x0 x2 (rd x16 x18)).bind fun t369 => (if t368 > 0 then (if t369 > 0 then (if t368 < t369 then (if x7.length < 17592186044416 then (impl_CrossingsIn.l0 k x0 x1 x2 (x7 ++ [rd x16 x18]) x16 x17 (wrap64 (x18 + 1))) else (none)) else (impl_CrossingsIn.l0 k x0 x1 x2 x7 x16 x17 (wrap64 (x18 + 1)))) else (impl_CrossingsIn.l0 k x0 x1 x2 x7 x16 x17 (wrap64 (x18 + 1)))) else (impl_CrossingsIn.l0 k x0 x1 x2 x7 x16 x17 (wrap64 (x18 + 1)))))) else (none)) else (none)) else (some x7)
def impl_CrossingsIn.f (k : Nat) (l0 : List (S81)) (a1 : Int) (a2 : Int) : Option (List Int) := (impl_OnsetsOf.f k l0 a1 a2).bind fun t364 => (impl_CrossingsIn.l0 k l0 a1 a2 (([] : List Int)) t364 (t364.length : Int) 0)
theorem impl_CrossingsIn.mono_l : ∀ k, (∀ y0 y1 y2 y3 y4 y5 y6, LeO (impl_CrossingsIn.l0 k y0 y1 y2 y3 y4 y5 y6) (impl_CrossingsIn.l0 (k + 1) y0 y1 y2 y3 y4 y5 y6))
 | 0 => fun _ _ _ _ _ _ _ r h => by simp [impl_CrossingsIn.l0] at h
 | k + 1 => by
  have ih0 := impl_CrossingsIn.mono_l k
  · intro y0 y1 y2 y3 y4 y5 y6
    unfold impl_CrossingsIn.l0
    repeat' first
    | (with_reducible exact ih0 _ _ _ _ _ _ _)
    | (with_reducible exact impl_OnsetsOf.mono _ _ _ _)
    | (with_reducible exact impl_PitchAt.mono _ _ _ _)
    | (with_reducible exact LeO.refl _)
    | (with_reducible exact LeO.none _)
    | (with_reducible refine LeO.ite ?_ ?_)
    | (with_reducible refine LeO.bind ?_ (fun _ => ?_))
    | exact ih0 _ _ _ _ _ _ _
    | exact impl_OnsetsOf.mono _ _ _ _
    | exact impl_PitchAt.mono _ _ _ _
    | exact LeO.none _
    | refine LeO.ite ?_ ?_
    | refine LeO.bind ?_ (fun _ => ?_)
theorem impl_CrossingsIn.mono : ∀ a0 a1 a2 k, LeO (impl_CrossingsIn.f k a0 a1 a2) (impl_CrossingsIn.f (k + 1) a0 a1 a2) := by
 intro a0 a1 a2 k; have ih0 := impl_CrossingsIn.mono_l k; unfold impl_CrossingsIn.f
 repeat' first
  | (with_reducible exact ih0 _ _ _ _ _ _ _)
  | (with_reducible exact impl_OnsetsOf.mono _ _ _ _)
  | (with_reducible exact impl_PitchAt.mono _ _ _ _)
  | (with_reducible exact LeO.refl _)
  | (with_reducible exact LeO.none _)
  | (with_reducible refine LeO.ite ?_ ?_)
  | (with_reducible refine LeO.bind ?_ (fun _ => ?_))
  | exact ih0 _ _ _ _ _ _ _
  | exact impl_OnsetsOf.mono _ _ _ _
  | exact impl_PitchAt.mono _ _ _ _
  | exact LeO.none _
  | refine LeO.ite ?_ ?_
  | refine LeO.bind ?_ (fun _ => ?_)
set_option maxHeartbeats 8000000 in
set_option maxRecDepth 100000 in
theorem impl_CrossingsIn.calls (k : Nat) (A0 : Option Addr) (c0 : Nat) (l0 : List (S81)) (a1 : Int) (a2 : Int) (r : List Int) (w : World) (hr0 : Kd.C k81 w A0 l0.length l0) (hc0 : l0.length ≤ c0) (h : impl_CrossingsIn.f k l0 a1 a2 = some r) :
 Calls Try.prog 42 #[.slice A0 l0.length c0, .int .i64 a1, .int .i64 a2] w fun e w' => ∃ v0_ : Value, e = .returned (v0_) ∧ Kd.R (Kd.int .i64) 3 w' w.heap.size (fun _ => True) v0_ r ∧ Below w.heap.size w w' := by
 have HR0 := q0_11 hr0; have HC0 := q0_11 hc0; clear hr0 hc0; have HB := q0_11 (Below.refl w.heap.size w); (have H : ((impl_OnsetsOf.f k l0 a1 a2).bind fun t364 => (impl_CrossingsIn.l0 k l0 a1 a2 (([] : List Int)) t364 (t364.length : Int) 0)) = some r := h); clear h; obtain ⟨y361, hy361⟩ : ∃ y_ : List Int, y_ = (([] : List Int)) := ⟨_, rfl⟩; (replace H : ((impl_OnsetsOf.f k l0 a1 a2).bind fun t364 => (impl_CrossingsIn.l0 k l0 a1 a2 y361 t364 (t364.length : Int) 0)) = some r := by first | (rw [hy361]; with_reducible exact H) | (have H2_ := (Option.bind_some _ _).symm.trans H; rw [hy361]; with_reducible exact H2_) | (have H2_ := (Option.bind_some _ _).symm.trans H; with_reducible exact H2_) | with_reducible exact H | (rw [hy361]; exact H) | exact H); have Ny361 := q0_11 hy361; clear hy361; replace H := Option.bind_eq_some_iff.mp H; obtain ⟨t364, A40, H⟩ := H; replace H : (impl_CrossingsIn.l0 k l0 a1 a2 y361 t364 (t364.length : Int) 0) = some r := H; have A4 := q0_11 A40; clear A40; (have H' := q0_11 H); clear H; go_enter Try.func42, Try.ntmps42; (go_wp2_with (first | ((with_reducible refine gate_dst (N := 12) rfl ?_); refine Kd.R_lit (Kd.int .i64) _ 3 ?hg (N := 12) ?hd (xs := ([] : List Int)) (inner := []) (ok := fun _ => True) (okp := fun _ => True) ?hr ?hp (fun _ hk => hk) trivial (Below.refl _ _) (Nat.le_refl _) (by simp) ?_; (case hd => rfl); (case hg => rfl); (case hr => first | (go_simp; done) | (go_simp; rfl)); (case hp => exact (Reps.none _ _)); intro v362 w5 ho6 hb hg_ hnew_; clear hg_ hnew_; (first | rw [← Ny361.out] at ho6 | (simp only [Int.reduceToNat] at ho6; rw [← Ny361.out] at ho6)); have n0_ := q0_11 (Kd.R_lower ho6 (below_size (q5_11))); have n1_ := q0_11 (below_step (q5_11) hb); clear HB; have q7 := n0_; have HB := n1_; clear n0_ n1_; clear hb ho6) | ((with_reducible refine gate_callee (f := 93) rfl ?_); refine goesL_ (some 16) rfl rfl Try.func93 (by kernel_rfl) rfl #[.slice A0 l0.length c0, .int .i64 a1, .int .i64 a2] rfl ma ?_; (with_reducible refine (impl_OnsetsOf.calls k _ _ l0 a1 a2 t364 _ ?side1 ?side2 A4.out).mono ?_); (case side1 => exact ca (Kd.C_below HR0.out HB.out)); (case side2 => exact HC0.out); rintro e w7 ⟨v365, rfl, ho0, hb⟩; refine ⟨_, rfl, ?_⟩; have n0_ := q0_11 (Kd.R_elder' (ra q7.out) (Kd.R_base ho0) hb); have n1_ := q0_11 (Kd.R_lower (Kd.R_new' ho0 (Kd.R_lt (ra q7.out))) (below_size (q5_11))); have n2_ := q0_11 (below_step (q5_11) hb); clear q7; clear HB; have q7 := n0_; have q9 := n1_; have HB := n2_; clear n0_ n1_ n2_; (try clear hb); (try clear hb2); (try clear hk); (try clear hi); (try clear ho0); obtain ⟨qc, qb, eo8⟩ := Kd.R_slice q9.out; subst eo8)))
 (go_loopg [7, 18] k (fun kq v7 v18 w' => ∃ (x7_1 : List Int) (x18_1 : Int), v18 = .int .i64 x18_1 ∧ Aside0 (impl_CrossingsIn.l0 kq l0 a1 a2 x7_1 t364 (t364.length : Int) x18_1 = some r) ∧ Aside0 (kq ≤ k) ∧ Aside0 (Kd.R (Kd.int .i64) 3 w' w.heap.size (fun k_ => some k_ ≠ ((.slice qc t364.length qb) : Value).ownBlock) v7 x7_1) ∧ Aside0 (Kd.R (Kd.int .i64) 3 w' w.heap.size (fun k_ => some k_ ≠ (v7 : Value).ownBlock) (.slice qc t364.length qb) t364) ∧ Aside0 (Below w.heap.size w w')))
 case atStart => exact ⟨(y361), (0), (by first | rfl | (simp; done) | (simp [*]; done)), H', ⟨Nat.le_refl _⟩, ⟨by refine ra ?_; exact Kd.R_mono q7.out (fun _ hk => hk.2)⟩, ⟨by refine ra ?_; exact Kd.R_mono q9.out (fun _ hk => hk.2)⟩, ⟨by exact (q5_11)⟩⟩
 case round =>
  clear H'; (try clear p2); (try clear c4); obtain ⟨x7_1, x18_1, rfl, HA, HK1, q4, q2, HB⟩ := hrel
  cases gk with
  | zero => exact absurd HA.out (by simp [impl_CrossingsIn.l0])
  | succ k1 =>
   have H := HA.out; clear HA; (simp only [impl_CrossingsIn.l0] at H)
   by_cases c9 : x18_1 < (t364.length : Int)
   · rw [if_pos c9] at H
     (have c9b0 : decide (x18_1 < (t364.length : Int)) = true := decide_eq_true c9); clear c9
     by_cases c10 : 0 ≤ x18_1
     · rw [if_pos c10] at H
       (have c10b0 : decide (0 ≤ x18_1) = true := decide_eq_true c10); clear c10
       by_cases c11 : x18_1 < (t364.length : Int)
       · rw [if_pos c11] at H
         (have c11b0 : decide (x18_1 < (t364.length : Int)) = true := decide_eq_true c11); clear c11; replace H := Option.bind_eq_some_iff.mp H; obtain ⟨t368, A120, H⟩ := H; replace H : ((impl_PitchAt.f k1 l0 a2 (rd t364 x18_1)).bind fun t369 => (if t368 > 0 then (if t369 > 0 then (if t368 < t369 then (if x7_1.length < 17592186044416 then (impl_CrossingsIn.l0 k1 l0 a1 a2 (x7_1 ++ [rd t364 x18_1]) t364 (t364.length : Int) (wrap64 (x18_1 + 1))) else (none)) else (impl_CrossingsIn.l0 k1 l0 a1 a2 x7_1 t364 (t364.length : Int) (wrap64 (x18_1 + 1)))) else (impl_CrossingsIn.l0 k1 l0 a1 a2 x7_1 t364 (t364.length : Int) (wrap64 (x18_1 + 1)))) else (impl_CrossingsIn.l0 k1 l0 a1 a2 x7_1 t364 (t364.length : Int) (wrap64 (x18_1 + 1))))) = some r := H; have A12 := q0_11 A120; clear A120; replace H := Option.bind_eq_some_iff.mp H; obtain ⟨t369, A130, H⟩ := H; replace H : (if t368 > 0 then (if t369 > 0 then (if t368 < t369 then (if x7_1.length < 17592186044416 then (impl_CrossingsIn.l0 k1 l0 a1 a2 (x7_1 ++ [rd t364 x18_1]) t364 (t364.length : Int) (wrap64 (x18_1 + 1))) else (none)) else (impl_CrossingsIn.l0 k1 l0 a1 a2 x7_1 t364 (t364.length : Int) (wrap64 (x18_1 + 1)))) else (impl_CrossingsIn.l0 k1 l0 a1 a2 x7_1 t364 (t364.length : Int) (wrap64 (x18_1 + 1)))) else (impl_CrossingsIn.l0 k1 l0 a1 a2 x7_1 t364 (t364.length : Int) (wrap64 (x18_1 + 1)))) = some r := H; have A13 := q0_11 A130; clear A130
         by_cases c14 : t368 > 0
         · rw [if_pos c14] at H
           (have c14b0 : decide (0 < t368) = true := decide_eq_true c14); clear c14
           by_cases c15 : t369 > 0
           · rw [if_pos c15] at H
             (have c15b0 : decide (0 < t369) = true := decide_eq_true c15); clear c15
             by_cases c16 : t368 < t369
             · rw [if_pos c16] at H
               (have c16b0 : decide (t368 < t369) = true := decide_eq_true c16); clear c16
               by_cases c17 : x7_1.length < 17592186044416
               · rw [if_pos c17] at H
                 have LMc17 := q0_11 c17; clear c17; obtain ⟨y370, hy370⟩ : ∃ y_ : List Int, y_ = (x7_1 ++ [rd t364 x18_1]) := ⟨_, rfl⟩; (replace H : (impl_CrossingsIn.l0 k1 l0 a1 a2 y370 t364 (t364.length : Int) (wrap64 (x18_1 + 1))) = some r := by first | (rw [hy370]; with_reducible exact H) | (have H2_ := (Option.bind_some _ _).symm.trans H; rw [hy370]; with_reducible exact H2_) | (have H2_ := (Option.bind_some _ _).symm.trans H; with_reducible exact H2_) | with_reducible exact H | (rw [hy370]; exact H) | exact H); have Ny370 := q0_11 hy370; clear hy370; (have H' := q0_11 H); clear H; (have p367 : 0 ≤ (x18_1 : Int) := of_decide_eq_true (by first | (with_reducible assumption) | assumption)); (have q367 : x18_1 < (t364.length : Int) := of_decide_eq_true (by first | (with_reducible assumption) | assumption)); obtain ⟨ad367, e367, hx367_0⟩ := Kd.at_int (Kd.R_reads' q2.out).2.2 x18_1 p367 q367
                 cases e367
                 replace p367 := eq_true p367; replace q367 := eq_true q367; (go_wp2_with (first | ((with_reducible refine gate_callee (f := 94) rfl ?_); refine goesL_ (some 25) rfl rfl Try.func94 (by kernel_rfl) rfl #[.slice A0 l0.length c0, .int .i64 a1, .int .i64 (rd t364 x18_1)] rfl ma ?_; (with_reducible refine (impl_PitchAt.calls k1 _ _ l0 a1 (rd t364 x18_1) t368 _ ?side1 ?side2 A12.out).mono ?_); (case side1 => exact ca (Kd.C_below HR0.out HB.out)); (case side2 => exact HC0.out); rintro e w18 ⟨rfl, hb⟩; refine ⟨_, rfl, ?_⟩; have n0_ := q0_11 (Kd.R_below (ra q4.out) hb); have n1_ := q0_11 (Kd.R_below (ra q2.out) hb); have n2_ := q0_11 (below_step (q5_11) hb); clear q4; clear q2; clear HB; have q4 := n0_; have q2 := n1_; have HB := n2_; clear n0_ n1_ n2_; (try clear hb); (try clear hb2); (try clear hk); (try clear hi)) | ((with_reducible refine gate_callee (f := 94) rfl ?_); refine goesL_ (some 29) rfl rfl Try.func94 (by kernel_rfl) rfl #[.slice A0 l0.length c0, .int .i64 a2, .int .i64 (rd t364 x18_1)] rfl ma ?_; (with_reducible refine (impl_PitchAt.calls k1 _ _ l0 a2 (rd t364 x18_1) t369 _ ?side1 ?side2 A13.out).mono ?_); (case side1 => exact ca (Kd.C_below HR0.out HB.out)); (case side2 => exact HC0.out); rintro e w19 ⟨rfl, hb⟩; refine ⟨_, rfl, ?_⟩; have n0_ := q0_11 (Kd.R_below (ra q4.out) hb); have n1_ := q0_11 (Kd.R_below (ra q2.out) hb); have n2_ := q0_11 (below_step (q5_11) hb); clear q4; clear q2; clear HB; have q4 := n0_; have q2 := n1_; have HB := n2_; clear n0_ n1_ n2_; (try clear hb); (try clear hb2); (try clear hk); (try clear hi)) | ((with_reducible refine gate_builtin (b := .append) (xs := #[.tmp 41, .tmp 43]) rfl ?_); at_builtin; refine Kd.R_append (Kd.int .i64) (w0 := w) w.heap.size rfl (.tmp 41) (.tmp 43) 24 3 (.int .i64 0) 8 rfl Try.underlying24 info3 rfl (by decide) (by omega) u7 x7_1 (rd t364 x18_1) [.int .i64 (rd t364 x18_1)] (fun k_ => some k_ ≠ (.slice (some ad367) t364.length qb : Value).ownBlock) (fun _ => False) rfl rfl ?aP (fun _ hk => hk.elim) ?aF ?aO ?aB ?aS ?aL ?_; (case aP => exact rfl); (case aB => exact (q5_11)); (case aF => exact (fun k_ hk => Kd.fresh' (Kd.R_lt (ra q2.out)) k_ hk)); (case aO => exact (ra q4.out)); (case aS => exact (below_size (q5_11))); (case aL => have := LMc17.out; omega); intro v371 w20 ho hb hg hat; rw [← Ny370.out] at ho; have n0_ := q0_11 (Kd.R_after (ok := (fun _ => True)) (by refine ra ?_; exact Kd.R_mono q2.out (fun _ hk => ⟨trivial, hk⟩)) hg hat); have n1_ := q0_11 (hb); have n2_ := q0_11 (ho); clear q2; clear HB; clear q4; have q2 := n0_; have HB := n1_; have qa := n2_; clear n0_ n1_ n2_; clear ho hb hg hat))); (go_roundg k1)
                 case measure => have := HK1.out; omega
                 case rel => exact ⟨(y370), (wrap64 (x18_1 + 1)), (by first | rfl | (simp; done) | (simp [*]; done)), H', ⟨by have := HK1.out; omega⟩, ⟨by refine ra ?_; exact qa.out⟩, ⟨by refine ra ?_; exact Kd.R_mono q2.out (fun _ hk => hk.2)⟩, ⟨by exact (q5_11)⟩⟩
               · rw [if_neg c17] at H
                 exact absurd H (by simp)
             · rw [if_neg c16] at H
               (have c16b0 : decide (t368 < t369) = false := decide_eq_false c16); clear c16; (have H' := q0_11 H); clear H; (have p367 : 0 ≤ (x18_1 : Int) := of_decide_eq_true (by first | (with_reducible assumption) | assumption)); (have q367 : x18_1 < (t364.length : Int) := of_decide_eq_true (by first | (with_reducible assumption) | assumption)); obtain ⟨ad367, e367, hx367_0⟩ := Kd.at_int (Kd.R_reads' q2.out).2.2 x18_1 p367 q367
               cases e367
               replace p367 := eq_true p367; replace q367 := eq_true q367; (go_wp2_with (first | ((with_reducible refine gate_callee (f := 94) rfl ?_); refine goesL_ (some 25) rfl rfl Try.func94 (by kernel_rfl) rfl #[.slice A0 l0.length c0, .int .i64 a1, .int .i64 (rd t364 x18_1)] rfl ma ?_; (with_reducible refine (impl_PitchAt.calls k1 _ _ l0 a1 (rd t364 x18_1) t368 _ ?side1 ?side2 A12.out).mono ?_); (case side1 => exact ca (Kd.C_below HR0.out HB.out)); (case side2 => exact HC0.out); rintro e w21 ⟨rfl, hb⟩; refine ⟨_, rfl, ?_⟩; have n0_ := q0_11 (Kd.R_below (ra q4.out) hb); have n1_ := q0_11 (Kd.R_below (ra q2.out) hb); have n2_ := q0_11 (below_step (q5_11) hb); clear q4; clear q2; clear HB; have q4 := n0_; have q2 := n1_; have HB := n2_; clear n0_ n1_ n2_; (try clear hb); (try clear hb2); (try clear hk); (try clear hi)) | ((with_reducible refine gate_callee (f := 94) rfl ?_); refine goesL_ (some 29) rfl rfl Try.func94 (by kernel_rfl) rfl #[.slice A0 l0.length c0, .int .i64 a2, .int .i64 (rd t364 x18_1)] rfl ma ?_; (with_reducible refine (impl_PitchAt.calls k1 _ _ l0 a2 (rd t364 x18_1) t369 _ ?side1 ?side2 A13.out).mono ?_); (case side1 => exact ca (Kd.C_below HR0.out HB.out)); (case side2 => exact HC0.out); rintro e w22 ⟨rfl, hb⟩; refine ⟨_, rfl, ?_⟩; have n0_ := q0_11 (Kd.R_below (ra q4.out) hb); have n1_ := q0_11 (Kd.R_below (ra q2.out) hb); have n2_ := q0_11 (below_step (q5_11) hb); clear q4; clear q2; clear HB; have q4 := n0_; have q2 := n1_; have HB := n2_; clear n0_ n1_ n2_; (try clear hb); (try clear hb2); (try clear hk); (try clear hi)))); (go_roundg k1)
               case measure => have := HK1.out; omega
               case rel => exact ⟨(x7_1), (wrap64 (x18_1 + 1)), (by first | rfl | (simp; done) | (simp [*]; done)), H', ⟨by have := HK1.out; omega⟩, ⟨by refine ra ?_; exact q4.out⟩, ⟨by refine ra ?_; exact q2.out⟩, ⟨by exact (q5_11)⟩⟩
           · rw [if_neg c15] at H
             (have c15b0 : decide (0 < t369) = false := decide_eq_false c15); clear c15; (have H' := q0_11 H); clear H; (have p367 : 0 ≤ (x18_1 : Int) := of_decide_eq_true (by first | (with_reducible assumption) | assumption)); (have q367 : x18_1 < (t364.length : Int) := of_decide_eq_true (by first | (with_reducible assumption) | assumption)); obtain ⟨ad367, e367, hx367_0⟩ := Kd.at_int (Kd.R_reads' q2.out).2.2 x18_1 p367 q367
             cases e367
             replace p367 := eq_true p367; replace q367 := eq_true q367; (go_wp2_with (first | ((with_reducible refine gate_callee (f := 94) rfl ?_); refine goesL_ (some 25) rfl rfl Try.func94 (by kernel_rfl) rfl #[.slice A0 l0.length c0, .int .i64 a1, .int .i64 (rd t364 x18_1)] rfl ma ?_; (with_reducible refine (impl_PitchAt.calls k1 _ _ l0 a1 (rd t364 x18_1) t368 _ ?side1 ?side2 A12.out).mono ?_); (case side1 => exact ca (Kd.C_below HR0.out HB.out)); (case side2 => exact HC0.out); rintro e w23 ⟨rfl, hb⟩; refine ⟨_, rfl, ?_⟩; have n0_ := q0_11 (Kd.R_below (ra q4.out) hb); have n1_ := q0_11 (Kd.R_below (ra q2.out) hb); have n2_ := q0_11 (below_step (q5_11) hb); clear q4; clear q2; clear HB; have q4 := n0_; have q2 := n1_; have HB := n2_; clear n0_ n1_ n2_; (try clear hb); (try clear hb2); (try clear hk); (try clear hi)) | ((with_reducible refine gate_callee (f := 94) rfl ?_); refine goesL_ (some 29) rfl rfl Try.func94 (by kernel_rfl) rfl #[.slice A0 l0.length c0, .int .i64 a2, .int .i64 (rd t364 x18_1)] rfl ma ?_; (with_reducible refine (impl_PitchAt.calls k1 _ _ l0 a2 (rd t364 x18_1) t369 _ ?side1 ?side2 A13.out).mono ?_); (case side1 => exact ca (Kd.C_below HR0.out HB.out)); (case side2 => exact HC0.out); rintro e w24 ⟨rfl, hb⟩; refine ⟨_, rfl, ?_⟩; have n0_ := q0_11 (Kd.R_below (ra q4.out) hb); have n1_ := q0_11 (Kd.R_below (ra q2.out) hb); have n2_ := q0_11 (below_step (q5_11) hb); clear q4; clear q2; clear HB; have q4 := n0_; have q2 := n1_; have HB := n2_; clear n0_ n1_ n2_; (try clear hb); (try clear hb2); (try clear hk); (try clear hi)))); (go_roundg k1)
             case measure => have := HK1.out; omega
             case rel => exact ⟨(x7_1), (wrap64 (x18_1 + 1)), (by first | rfl | (simp; done) | (simp [*]; done)), H', ⟨by have := HK1.out; omega⟩, ⟨by refine ra ?_; exact q4.out⟩, ⟨by refine ra ?_; exact q2.out⟩, ⟨by exact (q5_11)⟩⟩
         · rw [if_neg c14] at H
           (have c14b0 : decide (0 < t368) = false := decide_eq_false c14); clear c14; (have H' := q0_11 H); clear H; (have p367 : 0 ≤ (x18_1 : Int) := of_decide_eq_true (by first | (with_reducible assumption) | assumption)); (have q367 : x18_1 < (t364.length : Int) := of_decide_eq_true (by first | (with_reducible assumption) | assumption)); obtain ⟨ad367, e367, hx367_0⟩ := Kd.at_int (Kd.R_reads' q2.out).2.2 x18_1 p367 q367
           cases e367
           replace p367 := eq_true p367; replace q367 := eq_true q367; (go_wp2_with (first | ((with_reducible refine gate_callee (f := 94) rfl ?_); refine goesL_ (some 25) rfl rfl Try.func94 (by kernel_rfl) rfl #[.slice A0 l0.length c0, .int .i64 a1, .int .i64 (rd t364 x18_1)] rfl ma ?_; (with_reducible refine (impl_PitchAt.calls k1 _ _ l0 a1 (rd t364 x18_1) t368 _ ?side1 ?side2 A12.out).mono ?_); (case side1 => exact ca (Kd.C_below HR0.out HB.out)); (case side2 => exact HC0.out); rintro e w25 ⟨rfl, hb⟩; refine ⟨_, rfl, ?_⟩; have n0_ := q0_11 (Kd.R_below (ra q4.out) hb); have n1_ := q0_11 (Kd.R_below (ra q2.out) hb); have n2_ := q0_11 (below_step (q5_11) hb); clear q4; clear q2; clear HB; have q4 := n0_; have q2 := n1_; have HB := n2_; clear n0_ n1_ n2_; (try clear hb); (try clear hb2); (try clear hk); (try clear hi)) | ((with_reducible refine gate_callee (f := 94) rfl ?_); refine goesL_ (some 29) rfl rfl Try.func94 (by kernel_rfl) rfl #[.slice A0 l0.length c0, .int .i64 a2, .int .i64 (rd t364 x18_1)] rfl ma ?_; (with_reducible refine (impl_PitchAt.calls k1 _ _ l0 a2 (rd t364 x18_1) t369 _ ?side1 ?side2 A13.out).mono ?_); (case side1 => exact ca (Kd.C_below HR0.out HB.out)); (case side2 => exact HC0.out); rintro e w26 ⟨rfl, hb⟩; refine ⟨_, rfl, ?_⟩; have n0_ := q0_11 (Kd.R_below (ra q4.out) hb); have n1_ := q0_11 (Kd.R_below (ra q2.out) hb); have n2_ := q0_11 (below_step (q5_11) hb); clear q4; clear q2; clear HB; have q4 := n0_; have q2 := n1_; have HB := n2_; clear n0_ n1_ n2_; (try clear hb); (try clear hb2); (try clear hk); (try clear hi)))); (go_roundg k1)
           case measure => have := HK1.out; omega
           case rel => exact ⟨(x7_1), (wrap64 (x18_1 + 1)), (by first | rfl | (simp; done) | (simp [*]; done)), H', ⟨by have := HK1.out; omega⟩, ⟨by refine ra ?_; exact q4.out⟩, ⟨by refine ra ?_; exact q2.out⟩, ⟨by exact (q5_11)⟩⟩
       · rw [if_neg c11] at H
         exact absurd H (by simp)
     · rw [if_neg c10] at H
       exact absurd H (by simp)
   · rw [if_neg c9] at H
     (have c9b0 : decide (x18_1 < (t364.length : Int)) = false := decide_eq_false c9); clear c9; obtain rfl := Option.some.inj H; (go_wp2); go_ret; (exact ⟨_, by first | rfl | (simp [errW_none, errW_some] <;> rfl) | (simp [*, errW_none, errW_some] <;> rfl), by refine ra ?_; exact Kd.R_mono q4.out (fun _ hk => trivial), by exact (q5_11)⟩)
/-! ### impl_isParallel: function 95 -/
def impl_isParallel.f (a0 : Int) (a1 : Int) (a2 : Int) (a3 : Int) : Option (Bool) := if a0 > 0 then (if a1 > 0 then (if a2 > 0 then (if a3 > 0 then (if a2 > a0 then (if a3 > a1 then (if (Int.tmod (mx (wrap64 (a0 - a1)) (wrap64 (a1 - a0))) 12) = (Int.tmod (mx (wrap64 (a2 - a3)) (wrap64 (a3 - a2))) 12) then (if (Int.tmod (mx (wrap64 (a0 - a1)) (wrap64 (a1 - a0))) 12) = 0 then (some true) else (some ((Int.tmod (mx (wrap64 (a0 - a1)) (wrap64 (a1 - a0))) 12) == 7))) else (some false)) else (if a2 < a0 then (if a3 < a1 then (if (Int.tmod (mx (wrap64 (a0 - a1)) (wrap64 (a1 - a0))) 12) = (Int.tmod (mx (wrap64 (a2 - a3)) (wrap64 (a3 - a2))) 12) then (if (Int.tmod (mx (wrap64 (a0 - a1)) (wrap64 (a1 - a0))) 12) = 0 then (some true) else (some ((Int.tmod (mx (wrap64 (a0 - a1)) (wrap64 (a1 - a0))) 12) == 7))) else (some false)) else (some false)) else (some false))) else (if a2 < a0 then (if a3 < a1 then (if (Int.tmod (mx (wrap64 (a0 - a1)) (wrap64 (a1 - a0))) 12) = (Int.tmod (mx (wrap64 (a2 - a3)) (wrap64 (a3 - a2))) 12) then (if (Int.tmod (mx (wrap64 (a0 - a1)) (wrap64 (a1 - a0))) 12) = 0 then (some true) else (some ((Int.tmod (mx (wrap64 (a0 - a1)) (wrap64 (a1 - a0))) 12) == 7))) else (some false)) else (some false)) else (some false))) else (some false)) else (some false)) else (some false)) else (some false)
set_option maxHeartbeats 8000000 in
set_option maxRecDepth 100000 in
theorem impl_isParallel.calls (a0 : Int) (a1 : Int) (a2 : Int) (a3 : Int) (r : Bool) (w : World) (h : impl_isParallel.f a0 a1 a2 a3 = some r) :
 Calls Try.prog 95 #[.int .i64 a0, .int .i64 a1, .int .i64 a2, .int .i64 a3] w fun e w' => e = .returned (.bool r) ∧ Below w.heap.size w w' := by
 have HB := q0_11 (Below.refl w.heap.size w); (have H : (if a0 > 0 then (if a1 > 0 then (if a2 > 0 then (if a3 > 0 then (if a2 > a0 then (if a3 > a1 then (if (Int.tmod (mx (wrap64 (a0 - a1)) (wrap64 (a1 - a0))) 12) = (Int.tmod (mx (wrap64 (a2 - a3)) (wrap64 (a3 - a2))) 12) then (if (Int.tmod (mx (wrap64 (a0 - a1)) (wrap64 (a1 - a0))) 12) = 0 then (some true) else (some ((Int.tmod (mx (wrap64 (a0 - a1)) (wrap64 (a1 - a0))) 12) == 7))) else (some false)) else (if a2 < a0 then (if a3 < a1 then (if (Int.tmod (mx (wrap64 (a0 - a1)) (wrap64 (a1 - a0))) 12) = (Int.tmod (mx (wrap64 (a2 - a3)) (wrap64 (a3 - a2))) 12) then (if (Int.tmod (mx (wrap64 (a0 - a1)) (wrap64 (a1 - a0))) 12) = 0 then (some true) else (some ((Int.tmod (mx (wrap64 (a0 - a1)) (wrap64 (a1 - a0))) 12) == 7))) else (some false)) else (some false)) else (some false))) else (if a2 < a0 then (if a3 < a1 then (if (Int.tmod (mx (wrap64 (a0 - a1)) (wrap64 (a1 - a0))) 12) = (Int.tmod (mx (wrap64 (a2 - a3)) (wrap64 (a3 - a2))) 12) then (if (Int.tmod (mx (wrap64 (a0 - a1)) (wrap64 (a1 - a0))) 12) = 0 then (some true) else (some ((Int.tmod (mx (wrap64 (a0 - a1)) (wrap64 (a1 - a0))) 12) == 7))) else (some false)) else (some false)) else (some false))) else (some false)) else (some false)) else (some false)) else (some false)) = some r := h); clear h; obtain ⟨ji5, hji5⟩ : ∃ j_ : Int, (mx (wrap64 (a0 - a1)) (wrap64 (a1 - a0))) = j_ := ⟨_, rfl⟩; (replace H : (if a0 > 0 then (if a1 > 0 then (if a2 > 0 then (if a3 > 0 then (if a2 > a0 then (if a3 > a1 then (if (Int.tmod (ji5) 12) = (Int.tmod (mx (wrap64 (a2 - a3)) (wrap64 (a3 - a2))) 12) then (if (Int.tmod (ji5) 12) = 0 then (some true) else (some ((Int.tmod (ji5) 12) == 7))) else (some false)) else (if a2 < a0 then (if a3 < a1 then (if (Int.tmod (ji5) 12) = (Int.tmod (mx (wrap64 (a2 - a3)) (wrap64 (a3 - a2))) 12) then (if (Int.tmod (ji5) 12) = 0 then (some true) else (some ((Int.tmod (ji5) 12) == 7))) else (some false)) else (some false)) else (some false))) else (if a2 < a0 then (if a3 < a1 then (if (Int.tmod (ji5) 12) = (Int.tmod (mx (wrap64 (a2 - a3)) (wrap64 (a3 - a2))) 12) then (if (Int.tmod (ji5) 12) = 0 then (some true) else (some ((Int.tmod (ji5) 12) == 7))) else (some false)) else (some false)) else (some false))) else (some false)) else (some false)) else (some false)) else (some false)) = some r := by first | (rw [hji5] at H; exact H) | (simp only [hji5] at H ⊢; exact H)); (have hji5_ : (if (wrap64 (a0 - a1)) < (wrap64 (a1 - a0)) then (wrap64 (a1 - a0)) else (wrap64 (a0 - a1))) = ji5 := hji5); obtain ⟨ji6, hji6⟩ : ∃ j_ : Int, (mx (wrap64 (a2 - a3)) (wrap64 (a3 - a2))) = j_ := ⟨_, rfl⟩
 replace H : (if a0 > 0 then (if a1 > 0 then (if a2 > 0 then (if a3 > 0 then (if a2 > a0 then (if a3 > a1 then (if (Int.tmod (ji5) 12) = (Int.tmod (ji6) 12) then (if (Int.tmod (ji5) 12) = 0 then (some true) else (some ((Int.tmod (ji5) 12) == 7))) else (some false)) else (if a2 < a0 then (if a3 < a1 then (if (Int.tmod (ji5) 12) = (Int.tmod (ji6) 12) then (if (Int.tmod (ji5) 12) = 0 then (some true) else (some ((Int.tmod (ji5) 12) == 7))) else (some false)) else (some false)) else (some false))) else (if a2 < a0 then (if a3 < a1 then (if (Int.tmod (ji5) 12) = (Int.tmod (ji6) 12) then (if (Int.tmod (ji5) 12) = 0 then (some true) else (some ((Int.tmod (ji5) 12) == 7))) else (some false)) else (some false)) else (some false))) else (some false)) else (some false)) else (some false)) else (some false)) = some r := by first | (rw [hji6] at H; exact H) | (simp only [hji6] at H ⊢; exact H)
 (have hji6_ : (if (wrap64 (a2 - a3)) < (wrap64 (a3 - a2)) then (wrap64 (a3 - a2)) else (wrap64 (a2 - a3))) = ji6 := hji6)
 by_cases c7 : a0 > 0
 · rw [if_pos c7] at H
   (have c7b0 : decide (0 < a0) = true := decide_eq_true c7); clear c7
   by_cases c8 : a1 > 0
   · rw [if_pos c8] at H
     (have c8b0 : decide (0 < a1) = true := decide_eq_true c8); clear c8
     by_cases c9 : a2 > 0
     · rw [if_pos c9] at H
       (have c9b0 : decide (0 < a2) = true := decide_eq_true c9); clear c9
       by_cases c10 : a3 > 0
       · rw [if_pos c10] at H
         (have c10b0 : decide (0 < a3) = true := decide_eq_true c10); clear c10
         by_cases c11 : a2 > a0
         · rw [if_pos c11] at H
           (have c11b0 : decide (a0 < a2) = true := decide_eq_true c11); clear c11
           by_cases c12 : a3 > a1
           · rw [if_pos c12] at H
             (have c12b0 : decide (a1 < a3) = true := decide_eq_true c12); clear c12
             by_cases c13 : (Int.tmod (ji5) 12) = (Int.tmod (ji6) 12)
             · rw [if_pos c13] at H
               (have c13b0 : ((Int.tmod (ji5) 12) == (Int.tmod (ji6) 12)) = true := beq_iff_eq.mpr c13); (have c13b1 : ((Int.tmod (ji5) 12) != (Int.tmod (ji6) 12)) = false := bne_eq_false_iff_eq.mpr c13); clear c13
               by_cases c14 : (Int.tmod (ji5) 12) = 0
               · rw [if_pos c14] at H
                 (have c14b0 : ((Int.tmod (ji5) 12) == 0) = true := beq_iff_eq.mpr c14); (have c14b1 : ((Int.tmod (ji5) 12) != 0) = false := bne_eq_false_iff_eq.mpr c14); clear c14; obtain rfl := Option.some.inj H; go_enter Try.func95, Try.ntmps95; (go_wp2); go_ret; (exact ⟨by first | rfl | (simp [errW_none, errW_some] <;> rfl) | (simp only [← hji5, ← hji6]; first | rfl | (simp [errW_none, errW_some] <;> rfl)) | (simp [*, errW_none, errW_some] <;> rfl), by exact (q5_11)⟩)
               · rw [if_neg c14] at H
                 (have c14b0 : ((Int.tmod (ji5) 12) == 0) = false := beq_eq_false_iff_ne.mpr c14); (have c14b1 : ((Int.tmod (ji5) 12) != 0) = true := bne_iff_ne.mpr c14); obtain rfl := Option.some.inj H; go_enter Try.func95, Try.ntmps95; (go_wp2); go_ret; (exact ⟨by first | rfl | (simp [errW_none, errW_some] <;> rfl) | (simp only [← hji5, ← hji6]; first | rfl | (simp [errW_none, errW_some] <;> rfl)) | (simp [*, errW_none, errW_some] <;> rfl), by exact (q5_11)⟩)
             · rw [if_neg c13] at H
               (have c13b0 : ((Int.tmod (ji5) 12) == (Int.tmod (ji6) 12)) = false := beq_eq_false_iff_ne.mpr c13); (have c13b1 : ((Int.tmod (ji5) 12) != (Int.tmod (ji6) 12)) = true := bne_iff_ne.mpr c13); obtain rfl := Option.some.inj H; go_enter Try.func95, Try.ntmps95; (go_wp2); go_ret; (exact ⟨by first | rfl | (simp [errW_none, errW_some] <;> rfl) | (simp only [← hji5, ← hji6]; first | rfl | (simp [errW_none, errW_some] <;> rfl)) | (simp [*, errW_none, errW_some] <;> rfl), by exact (q5_11)⟩)
           · rw [if_neg c12] at H
             (have c12b0 : decide (a1 < a3) = false := decide_eq_false c12); clear c12
             by_cases c15 : a2 < a0
             · rw [if_pos c15] at H
               (have c15b0 : decide (a2 < a0) = true := decide_eq_true c15); clear c15
               by_cases c16 : a3 < a1
               · rw [if_pos c16] at H
                 (have c16b0 : decide (a3 < a1) = true := decide_eq_true c16); clear c16
                 by_cases c17 : (Int.tmod (ji5) 12) = (Int.tmod (ji6) 12)
                 · rw [if_pos c17] at H
                   (have c17b0 : ((Int.tmod (ji5) 12) == (Int.tmod (ji6) 12)) = true := beq_iff_eq.mpr c17); (have c17b1 : ((Int.tmod (ji5) 12) != (Int.tmod (ji6) 12)) = false := bne_eq_false_iff_eq.mpr c17); clear c17
                   by_cases c18 : (Int.tmod (ji5) 12) = 0
                   · rw [if_pos c18] at H
                     (have c18b0 : ((Int.tmod (ji5) 12) == 0) = true := beq_iff_eq.mpr c18); (have c18b1 : ((Int.tmod (ji5) 12) != 0) = false := bne_eq_false_iff_eq.mpr c18); clear c18; obtain rfl := Option.some.inj H; go_enter Try.func95, Try.ntmps95; (go_wp2); go_ret; (exact ⟨by first | rfl | (simp [errW_none, errW_some] <;> rfl) | (simp only [← hji5, ← hji6]; first | rfl | (simp [errW_none, errW_some] <;> rfl)) | (simp [*, errW_none, errW_some] <;> rfl), by exact (q5_11)⟩)
                   · rw [if_neg c18] at H
                     (have c18b0 : ((Int.tmod (ji5) 12) == 0) = false := beq_eq_false_iff_ne.mpr c18); (have c18b1 : ((Int.tmod (ji5) 12) != 0) = true := bne_iff_ne.mpr c18); obtain rfl := Option.some.inj H; go_enter Try.func95, Try.ntmps95; (go_wp2); go_ret; (exact ⟨by first | rfl | (simp [errW_none, errW_some] <;> rfl) | (simp only [← hji5, ← hji6]; first | rfl | (simp [errW_none, errW_some] <;> rfl)) | (simp [*, errW_none, errW_some] <;> rfl), by exact (q5_11)⟩)
                 · rw [if_neg c17] at H
                   (have c17b0 : ((Int.tmod (ji5) 12) == (Int.tmod (ji6) 12)) = false := beq_eq_false_iff_ne.mpr c17); (have c17b1 : ((Int.tmod (ji5) 12) != (Int.tmod (ji6) 12)) = true := bne_iff_ne.mpr c17); obtain rfl := Option.some.inj H; go_enter Try.func95, Try.ntmps95; (go_wp2); go_ret; (exact ⟨by first | rfl | (simp [errW_none, errW_some] <;> rfl) | (simp only [← hji5, ← hji6]; first | rfl | (simp [errW_none, errW_some] <;> rfl)) | (simp [*, errW_none, errW_some] <;> rfl), by exact (q5_11)⟩)
               · rw [if_neg c16] at H
                 (have c16b0 : decide (a3 < a1) = false := decide_eq_false c16); clear c16; obtain rfl := Option.some.inj H; go_enter Try.func95, Try.ntmps95; (go_wp2); go_ret; (exact ⟨by first | rfl | (simp [errW_none, errW_some] <;> rfl) | (simp only [← hji5, ← hji6]; first | rfl | (simp [errW_none, errW_some] <;> rfl)) | (simp [*, errW_none, errW_some] <;> rfl), by exact (q5_11)⟩)
             · rw [if_neg c15] at H
               (have c15b0 : decide (a2 < a0) = false := decide_eq_false c15); clear c15; obtain rfl := Option.some.inj H; go_enter Try.func95, Try.ntmps95; (go_wp2); go_ret; (exact ⟨by first | rfl | (simp [errW_none, errW_some] <;> rfl) | (simp only [← hji5, ← hji6]; first | rfl | (simp [errW_none, errW_some] <;> rfl)) | (simp [*, errW_none, errW_some] <;> rfl), by exact (q5_11)⟩)
         · rw [if_neg c11] at H
           (have c11b0 : decide (a0 < a2) = false := decide_eq_false c11); clear c11
           by_cases c19 : a2 < a0
           · rw [if_pos c19] at H
             (have c19b0 : decide (a2 < a0) = true := decide_eq_true c19); clear c19
             by_cases c20 : a3 < a1
             · rw [if_pos c20] at H
               (have c20b0 : decide (a3 < a1) = true := decide_eq_true c20); clear c20
               by_cases c21 : (Int.tmod (ji5) 12) = (Int.tmod (ji6) 12)
               · rw [if_pos c21] at H
                 (have c21b0 : ((Int.tmod (ji5) 12) == (Int.tmod (ji6) 12)) = true := beq_iff_eq.mpr c21); (have c21b1 : ((Int.tmod (ji5) 12) != (Int.tmod (ji6) 12)) = false := bne_eq_false_iff_eq.mpr c21); clear c21
                 by_cases c22 : (Int.tmod (ji5) 12) = 0
                 · rw [if_pos c22] at H
                   (have c22b0 : ((Int.tmod (ji5) 12) == 0) = true := beq_iff_eq.mpr c22); (have c22b1 : ((Int.tmod (ji5) 12) != 0) = false := bne_eq_false_iff_eq.mpr c22); clear c22; obtain rfl := Option.some.inj H; go_enter Try.func95, Try.ntmps95; (go_wp2); go_ret; (exact ⟨by first | rfl | (simp [errW_none, errW_some] <;> rfl) | (simp only [← hji5, ← hji6]; first | rfl | (simp [errW_none, errW_some] <;> rfl)) | (simp [*, errW_none, errW_some] <;> rfl), by exact (q5_11)⟩)
                 · rw [if_neg c22] at H
                   (have c22b0 : ((Int.tmod (ji5) 12) == 0) = false := beq_eq_false_iff_ne.mpr c22); (have c22b1 : ((Int.tmod (ji5) 12) != 0) = true := bne_iff_ne.mpr c22); obtain rfl := Option.some.inj H; go_enter Try.func95, Try.ntmps95; (go_wp2); go_ret; (exact ⟨by first | rfl | (simp [errW_none, errW_some] <;> rfl) | (simp only [← hji5, ← hji6]; first | rfl | (simp [errW_none, errW_some] <;> rfl)) | (simp [*, errW_none, errW_some] <;> rfl), by exact (q5_11)⟩)
               · rw [if_neg c21] at H
                 (have c21b0 : ((Int.tmod (ji5) 12) == (Int.tmod (ji6) 12)) = false := beq_eq_false_iff_ne.mpr c21); (have c21b1 : ((Int.tmod (ji5) 12) != (Int.tmod (ji6) 12)) = true := bne_iff_ne.mpr c21); obtain rfl := Option.some.inj H; go_enter Try.func95, Try.ntmps95; (go_wp2); go_ret; (exact ⟨by first | rfl | (simp [errW_none, errW_some] <;> rfl) | (simp only [← hji5, ← hji6]; first | rfl | (simp [errW_none, errW_some] <;> rfl)) | (simp [*, errW_none, errW_some] <;> rfl), by exact (q5_11)⟩)
             · rw [if_neg c20] at H
               (have c20b0 : decide (a3 < a1) = false := decide_eq_false c20); clear c20; obtain rfl := Option.some.inj H; go_enter Try.func95, Try.ntmps95; (go_wp2); go_ret; (exact ⟨by first | rfl | (simp [errW_none, errW_some] <;> rfl) | (simp only [← hji5, ← hji6]; first | rfl | (simp [errW_none, errW_some] <;> rfl)) | (simp [*, errW_none, errW_some] <;> rfl), by exact (q5_11)⟩)
           · rw [if_neg c19] at H
             (have c19b0 : decide (a2 < a0) = false := decide_eq_false c19); clear c19; obtain rfl := Option.some.inj H; go_enter Try.func95, Try.ntmps95; (go_wp2); go_ret; (exact ⟨by first | rfl | (simp [errW_none, errW_some] <;> rfl) | (simp only [← hji5, ← hji6]; first | rfl | (simp [errW_none, errW_some] <;> rfl)) | (simp [*, errW_none, errW_some] <;> rfl), by exact (q5_11)⟩)
       · rw [if_neg c10] at H
         (have c10b0 : decide (0 < a3) = false := decide_eq_false c10); clear c10; obtain rfl := Option.some.inj H; go_enter Try.func95, Try.ntmps95; (go_wp2); go_ret; (exact ⟨by first | rfl | (simp [errW_none, errW_some] <;> rfl) | (simp only [← hji5, ← hji6]; first | rfl | (simp [errW_none, errW_some] <;> rfl)) | (simp [*, errW_none, errW_some] <;> rfl), by exact (q5_11)⟩)
     · rw [if_neg c9] at H
       (have c9b0 : decide (0 < a2) = false := decide_eq_false c9); clear c9; obtain rfl := Option.some.inj H; go_enter Try.func95, Try.ntmps95; (go_wp2); go_ret; (exact ⟨by first | rfl | (simp [errW_none, errW_some] <;> rfl) | (simp only [← hji5, ← hji6]; first | rfl | (simp [errW_none, errW_some] <;> rfl)) | (simp [*, errW_none, errW_some] <;> rfl), by exact (q5_11)⟩)
   · rw [if_neg c8] at H
     (have c8b0 : decide (0 < a1) = false := decide_eq_false c8); clear c8; obtain rfl := Option.some.inj H; go_enter Try.func95, Try.ntmps95; (go_wp2); go_ret; (exact ⟨by first | rfl | (simp [errW_none, errW_some] <;> rfl) | (simp only [← hji5, ← hji6]; first | rfl | (simp [errW_none, errW_some] <;> rfl)) | (simp [*, errW_none, errW_some] <;> rfl), by exact (q5_11)⟩)
 · rw [if_neg c7] at H
   (have c7b0 : decide (0 < a0) = false := decide_eq_false c7); clear c7; obtain rfl := Option.some.inj H; go_enter Try.func95, Try.ntmps95; (go_wp2); go_ret; (exact ⟨by first | rfl | (simp [errW_none, errW_some] <;> rfl) | (simp only [← hji5, ← hji6]; first | rfl | (simp [errW_none, errW_some] <;> rfl)) | (simp [*, errW_none, errW_some] <;> rfl), by exact (q5_11)⟩)
end Go.Proofs.Ytlkcbmcbmanmiaa.PFnExactFaultsIn
