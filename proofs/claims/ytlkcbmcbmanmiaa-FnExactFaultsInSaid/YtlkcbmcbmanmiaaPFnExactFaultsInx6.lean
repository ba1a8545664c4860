-- Written for this claim by a program of this repository (wip/tools/print2.py), out of the translation; Lean checks it.
import Derived.Test.YtlkcbmcbmanmiaaPFnExactFaultsInx0
import Derived.Test.YtlkcbmcbmanmiaaPFnExactFaultsInx3
import Derived.Test.YtlkcbmcbmanmiaaPFnExactFaultsInx5
namespace Go.Proofs.Ytlkcbmcbmanmiaa.PFnExactFaultsIn
open Go.RowKit Go.Proofs.YtlkcbmcbmanmiaaW.PrintWords Go.Proofs.YtlkcbmcbmanmiaaW.PrintLast Go.Proofs.YtlkcbmcbmanmiaaW.PrintMore
attribute [local go_sem] max2_int min2_int max_two min_two max_three min_three max_four min_four   -- for this text's walks alone
set_option linter.unusedVariables false
set_option linter.unusedSimpArgs false
-- SHORT
theorem q3_6 {p : Prop} (f : p := by repeat (first | (with_reducible first | exact HB.out | apply below_alloc | apply pw_below_drewN | apply below_drew1) | exact HB.out)) : p := f
theorem q0_6 {p : Prop} (h : p) : Aside0 p := ⟨h⟩
/-! ### spec_OnsetsOf: function 91 -/
mutual
def spec_OnsetsOf.l0 : Nat → List (S81) → Int → Int → List Int → Int → Option (List Int)
 | 0, _, _, _, _, _ => none
 | k + 1, x0, x1, x2, x7, x8 => if x8 < (x0.length : Int) then ((spec_IsScore.f k x0).bind fun t201 => (spec_OnsetsOf.j1 k x0 x1 x2 x7 x8 t201)) else (spec_OnsetsOf.j1 k x0 x1 x2 x7 x8 false)
def spec_OnsetsOf.j1 : Nat → List (S81) → Int → Int → List Int → Int → Bool → Option (List Int)
 | 0, _, _, _, _, _, _ => none
 | k + 1, x0, x1, x2, x7, x8, x17 => if x17 = true then (if 0 ≤ x8 then (if x8 < (x0.length : Int) then (if ((rd_T81 x0 x8).f3) = x1 then ((spec_l8Num.f k x7 ((rd_T81 x0 x8).f0)).bind fun t204 => (spec_OnsetsOf.l0 k x0 x1 x2 t204 (wrap64 (x8 + 1)))) else (if ((rd_T81 x0 x8).f3) = x2 then ((spec_l8Num.f k x7 ((rd_T81 x0 x8).f0)).bind fun t209 => (spec_OnsetsOf.l0 k x0 x1 x2 t209 (wrap64 (x8 + 1)))) else (spec_OnsetsOf.l0 k x0 x1 x2 x7 (wrap64 (x8 + 1))))) else (none)) else (none)) else (some x7)
end
def spec_OnsetsOf.f (k : Nat) (l0 : List (S81)) (a1 : Int) (a2 : Int) : Option (List Int) := spec_OnsetsOf.l0 k l0 a1 a2 (([] : List Int)) 0
theorem spec_OnsetsOf.mono_l : ∀ k, (∀ y0 y1 y2 y3 y4, LeO (spec_OnsetsOf.l0 k y0 y1 y2 y3 y4) (spec_OnsetsOf.l0 (k + 1) y0 y1 y2 y3 y4)) ∧ (∀ y0 y1 y2 y3 y4 y5, LeO (spec_OnsetsOf.j1 k y0 y1 y2 y3 y4 y5) (spec_OnsetsOf.j1 (k + 1) y0 y1 y2 y3 y4 y5))
 | 0 => ⟨fun _ _ _ _ _ r h => by simp [spec_OnsetsOf.l0] at h, fun _ _ _ _ _ _ r h => by simp [spec_OnsetsOf.j1] at h⟩
 | k + 1 => by
  obtain ⟨ih0, ih1⟩ := spec_OnsetsOf.mono_l k; refine ⟨?_, ?_⟩
  · intro y0 y1 y2 y3 y4
    unfold spec_OnsetsOf.l0
    repeat' first
    | (with_reducible exact ih0 _ _ _ _ _)
    | (with_reducible exact ih1 _ _ _ _ _ _)
    | (with_reducible exact spec_IsScore.mono _ _)
    | (with_reducible exact spec_l8Num.mono _ _ _)
    | (with_reducible exact LeO.refl _)
    | (with_reducible exact LeO.none _)
    | (with_reducible refine LeO.ite ?_ ?_)
    | (with_reducible refine LeO.bind ?_ (fun _ => ?_))
    | exact ih0 _ _ _ _ _
    | exact ih1 _ _ _ _ _ _
    | exact spec_IsScore.mono _ _
    | exact spec_l8Num.mono _ _ _
    | exact LeO.none _
    | refine LeO.ite ?_ ?_
    | refine LeO.bind ?_ (fun _ => ?_)
  · intro y0 y1 y2 y3 y4 y5
    unfold spec_OnsetsOf.j1
    repeat' first
    | (with_reducible exact ih0 _ _ _ _ _)
    | (with_reducible exact ih1 _ _ _ _ _ _)
    | (with_reducible exact spec_IsScore.mono _ _)
    | (with_reducible exact spec_l8Num.mono _ _ _)
    | (with_reducible exact LeO.refl _)
    | (with_reducible exact LeO.none _)
    | (with_reducible refine LeO.ite ?_ ?_)
    | (with_reducible refine LeO.bind ?_ (fun _ => ?_))
    | exact ih0 _ _ _ _ _
    | exact ih1 _ _ _ _ _ _
    | exact spec_IsScore.mono _ _
    | exact spec_l8Num.mono _ _ _
    | exact LeO.none _
    | refine LeO.ite ?_ ?_
    | refine LeO.bind ?_ (fun _ => ?_)
theorem spec_OnsetsOf.mono : ∀ a0 a1 a2 k, LeO (spec_OnsetsOf.f k a0 a1 a2) (spec_OnsetsOf.f (k + 1) a0 a1 a2) := by
 intro a0 a1 a2 k; obtain ⟨ih0, ih1⟩ := spec_OnsetsOf.mono_l k; unfold spec_OnsetsOf.f
 repeat' first
  | (with_reducible exact ih0 _ _ _ _ _)
  | (with_reducible exact ih1 _ _ _ _ _ _)
  | (with_reducible exact spec_IsScore.mono _ _)
  | (with_reducible exact spec_l8Num.mono _ _ _)
  | (with_reducible exact LeO.refl _)
  | (with_reducible exact LeO.none _)
  | (with_reducible refine LeO.ite ?_ ?_)
  | (with_reducible refine LeO.bind ?_ (fun _ => ?_))
  | exact ih0 _ _ _ _ _
  | exact ih1 _ _ _ _ _ _
  | exact spec_IsScore.mono _ _
  | exact spec_l8Num.mono _ _ _
  | exact LeO.none _
  | refine LeO.ite ?_ ?_
  | refine LeO.bind ?_ (fun _ => ?_)
set_option maxHeartbeats 8000000 in
set_option maxRecDepth 100000 in
theorem spec_OnsetsOf.calls (k : Nat) (A0 : Option Addr) (c0 : Nat) (l0 : List (S81)) (a1 : Int) (a2 : Int) (r : List Int) (w : World) (hr0 : Kd.C k81 w A0 l0.length l0) (hc0 : l0.length ≤ c0) (h : spec_OnsetsOf.f k l0 a1 a2 = some r) :
 Calls Try.prog 91 #[.slice A0 l0.length c0, .int .i64 a1, .int .i64 a2] w fun e w' => ∃ v0_ : Value, e = .returned (v0_) ∧ Kd.R (Kd.int .i64) 3 w' w.heap.size (fun _ => True) v0_ r ∧ Below w.heap.size w w' := by
 have HR0 := q0_6 hr0; have HC0 := q0_6 hc0; clear hr0 hc0; have HB := q0_6 (Below.refl w.heap.size w); (have H : (spec_OnsetsOf.l0 k l0 a1 a2 (([] : List Int)) 0) = some r := h); clear h; obtain ⟨y198, hy198⟩ : ∃ y_ : List Int, y_ = (([] : List Int)) := ⟨_, rfl⟩; (replace H : (spec_OnsetsOf.l0 k l0 a1 a2 y198 0) = some r := by first | (rw [hy198]; with_reducible exact H) | (have H2_ := (Option.bind_some _ _).symm.trans H; rw [hy198]; with_reducible exact H2_) | (have H2_ := (Option.bind_some _ _).symm.trans H; with_reducible exact H2_) | with_reducible exact H | (rw [hy198]; exact H) | exact H); have Ny198 := q0_6 hy198; clear hy198; (have H' := q0_6 H); clear H; go_enter Try.func91, Try.ntmps91; (go_wp2_with (first | ((with_reducible refine gate_dst (N := 9) rfl ?_); refine Kd.R_lit (Kd.int .i64) _ 3 ?hg (N := 9) ?hd (xs := ([] : List Int)) (inner := []) (ok := fun _ => True) (okp := fun _ => True) ?hr ?hp (fun _ hk => hk) trivial (Below.refl _ _) (Nat.le_refl _) (by simp) ?_; (case hd => rfl); (case hg => rfl); (case hr => first | (go_simp; done) | (go_simp; rfl)); (case hp => exact (Reps.none _ _)); intro v199 w4 ho5 hb hg_ hnew_; clear hg_ hnew_; (first | rw [← Ny198.out] at ho5 | (simp only [Int.reduceToNat] at ho5; rw [← Ny198.out] at ho5)); have n0_ := q0_6 (Kd.R_lower ho5 (below_size (q3_6))); have n1_ := q0_6 (below_step (q3_6) hb); clear HB; have q5 := n0_; have HB := n1_; clear n0_ n1_; clear hb ho5))); (go_loopg [7, 8] k (fun kq v7 v8 w' => ∃ (x7_1 : List Int) (x8_1 : Int), v8 = .int .i64 x8_1 ∧ Aside0 (spec_OnsetsOf.l0 kq l0 a1 a2 x7_1 x8_1 = some r) ∧ Aside0 (kq ≤ k) ∧ Aside0 (Kd.R (Kd.int .i64) 3 w' w.heap.size (fun _ => True) v7 x7_1) ∧ Aside0 (Below w.heap.size w w')))
 case atStart => exact ⟨(y198), (0), (by first | rfl | (simp; done) | (simp [*]; done)), H', ⟨Nat.le_refl _⟩, ⟨by refine ra ?_; exact q5.out⟩, ⟨by exact (q3_6)⟩⟩
 case round =>
  clear H'; (try clear p2); obtain ⟨x7_1, x8_1, rfl, HA, HK1, q1, HB⟩ := hrel
  cases gk with
  | zero => exact absurd HA.out (by simp [spec_OnsetsOf.l0])
  | succ k1 =>
   have H := HA.out; clear HA; (simp only [spec_OnsetsOf.l0] at H); have HC6 := q0_6 H; clear H; (go_upto_region 3 with (fail)); (go_cut [17] (fun v17 wc => ∃ (kq : Nat) (x17_5 : Bool), v17 = .bool x17_5 ∧ Aside0 (spec_OnsetsOf.j1 kq l0 a1 a2 x7_1 x8_1 x17_5 = some r) ∧ Aside0 (kq ≤ k1) ∧ Aside0 (Kd.R (Kd.int .i64) 3 wc w.heap.size (fun _ => True) u7 x7_1) ∧ Aside0 (Below w.heap.size w wc)))
   case first =>
    have H := HC6.out; clear HC6
    by_cases c7 : x8_1 < (l0.length : Int)
    · rw [if_pos c7] at H
      (have c7b0 : decide (x8_1 < (l0.length : Int)) = true := decide_eq_true c7); clear c7; ((first | rw [c7b0] | (simp only [i64_w, i32_w]; rw [c7b0]) | skip)); replace H := Option.bind_eq_some_iff.mp H; obtain ⟨t201, A80, H⟩ := H; replace H : (spec_OnsetsOf.j1 k1 l0 a1 a2 x7_1 x8_1 t201) = some r := H; have A8 := q0_6 A80; clear A80; (have H' := q0_6 H); clear H; (go_wp2_with (first | (go_at_call 64; (with_reducible refine (spec_IsScore.calls k1 _ _ l0 t201 _ ?side1 ?side2 A8.out).mono ?_); (case side1 => exact ca (Kd.C_below HR0.out HB.out)); (case side2 => exact HC0.out); rintro e w9 ⟨rfl, hb⟩; have n0_ := q0_6 (Kd.R_below (ra q1.out) hb); have n1_ := q0_6 (below_step (q3_6) hb); clear q1; clear HB; have q1 := n0_; have HB := n1_; clear n0_ n1_; (try clear hb); (try clear hb2); (try clear hk); (try clear hi)))); (go_meet)
      case rel => exact ⟨_, (t201), (by first | rfl | (simp; done) | (simp [*]; done)), H', ⟨by have := HK1.out; first | omega | exact Nat.le_refl _⟩, ⟨by refine ra ?_; exact q1.out⟩, ⟨by exact (q3_6)⟩⟩
    · rw [if_neg c7] at H
      (have c7b0 : decide (x8_1 < (l0.length : Int)) = false := decide_eq_false c7); clear c7; ((first | rw [c7b0] | (simp only [i64_w, i32_w]; rw [c7b0]) | skip)); (have H' := q0_6 H); clear H; (go_wp2); (go_meet)
      case rel => exact ⟨_, (false), (by first | rfl | (simp; done) | (simp [*]; done)), H', ⟨by have := HK1.out; first | omega | exact Nat.le_refl _⟩, ⟨by refine ra ?_; exact q1.out⟩, ⟨by exact (q3_6)⟩⟩
   case rest =>
    clear HC6; (try clear p2); (try clear c7); (try clear c7b0); (try clear c9); (try clear p2); obtain ⟨kq, x17_5, rfl, HA, HJ5, q1, HB⟩ := hcut
    cases kq with
    | zero => exact absurd HA.out (by simp [spec_OnsetsOf.j1])
    | succ kj5 =>
     have H := HA.out; clear HA; (simp only [spec_OnsetsOf.j1] at H)
     by_cases c10 : x17_5 = true
     · subst c10
       have H1 : (if 0 ≤ x8_1 then (if x8_1 < (l0.length : Int) then (if ((rd_T81 l0 x8_1).f3) = a1 then ((spec_l8Num.f kj5 x7_1 ((rd_T81 l0 x8_1).f0)).bind fun t204 => (spec_OnsetsOf.l0 kj5 l0 a1 a2 t204 (wrap64 (x8_1 + 1)))) else (if ((rd_T81 l0 x8_1).f3) = a2 then ((spec_l8Num.f kj5 x7_1 ((rd_T81 l0 x8_1).f0)).bind fun t209 => (spec_OnsetsOf.l0 kj5 l0 a1 a2 t209 (wrap64 (x8_1 + 1)))) else (spec_OnsetsOf.l0 kj5 l0 a1 a2 x7_1 (wrap64 (x8_1 + 1))))) else (none)) else (none)) = some r := by rw [if_pos rfl] at H; exact H
       clear H; have H := H1; clear H1
       by_cases c11 : 0 ≤ x8_1
       · rw [if_pos c11] at H
         (have c11b0 : decide (0 ≤ x8_1) = true := decide_eq_true c11); clear c11
         by_cases c12 : x8_1 < (l0.length : Int)
         · rw [if_pos c12] at H
           (have c12b0 : decide (x8_1 < (l0.length : Int)) = true := decide_eq_true c12); clear c12
           by_cases c13 : ((rd_T81 l0 x8_1).f3) = a1
           · rw [if_pos c13] at H
             (have c13b0 : (((rd_T81 l0 x8_1).f3) == a1) = true := beq_iff_eq.mpr c13); (have c13b1 : (((rd_T81 l0 x8_1).f3) != a1) = false := bne_eq_false_iff_eq.mpr c13); clear c13; replace H := Option.bind_eq_some_iff.mp H; obtain ⟨t204, A140, H⟩ := H; replace H : (spec_OnsetsOf.l0 kj5 l0 a1 a2 t204 (wrap64 (x8_1 + 1))) = some r := H; have A14 := q0_6 A140; clear A140; (have H' := q0_6 H); clear H; (have p202 : 0 ≤ (x8_1 : Int) := of_decide_eq_true (by first | (with_reducible assumption) | assumption)); (have q202 : x8_1 < (l0.length : Int) := of_decide_eq_true (by first | (with_reducible assumption) | assumption)); obtain ⟨ad202, e202, hx202_0, hx202_1, hx202_2, hx202_3⟩ := at_T81 HR0.out x8_1 p202 q202
             cases e202
             replace hx202_0 := (HB.out.cell (World.block_lt_of_cell? w _ hx202_0)).trans hx202_0; replace hx202_1 := (HB.out.cell (World.block_lt_of_cell? w _ hx202_1)).trans hx202_1; replace hx202_2 := (HB.out.cell (World.block_lt_of_cell? w _ hx202_2)).trans hx202_2; replace hx202_3 := (HB.out.cell (World.block_lt_of_cell? w _ hx202_3)).trans hx202_3; replace p202 := eq_true p202; replace q202 := eq_true q202; (have p203 : 0 ≤ (x8_1 : Int) := of_decide_eq_true (by first | (with_reducible assumption) | assumption)); (have q203 : x8_1 < (l0.length : Int) := of_decide_eq_true (by first | (with_reducible assumption) | assumption)); obtain ⟨ad203, e203, hx203_0, hx203_1, hx203_2, hx203_3⟩ := at_T81 HR0.out x8_1 p203 q203; obtain rfl : ad202 = ad203 := (by injection e203); replace hx203_0 := (HB.out.cell (World.block_lt_of_cell? w _ hx203_0)).trans hx203_0; replace hx203_1 := (HB.out.cell (World.block_lt_of_cell? w _ hx203_1)).trans hx203_1; replace hx203_2 := (HB.out.cell (World.block_lt_of_cell? w _ hx203_2)).trans hx203_2; replace hx203_3 := (HB.out.cell (World.block_lt_of_cell? w _ hx203_3)).trans hx203_3; replace p203 := eq_true p203; replace q203 := eq_true q203; obtain ⟨qa, qb, eo15⟩ := Kd.R_slice q1.out; subst eo15; (go_wp2_with (first | ((with_reducible refine gate_callee (f := 135) rfl ?_); refine goesL_ (some 42) rfl rfl Try.func135 (by kernel_rfl) rfl #[.slice qa x7_1.length qb, .int .i64 ((rd_T81 l0 x8_1).f0)] rfl ma ?_; (with_reducible refine (spec_l8Num.calls kj5 _ _ x7_1 ((rd_T81 l0 x8_1).f0) t204 _ ?side1 ?side2 A14.out).mono ?_); (case side1 => exact ca (Kd.R_reads' q1.out).2.2); (case side2 => exact (Kd.R_reads' q1.out).2.1); rintro e w16 ⟨v205, rfl, ho0, hb⟩; refine ⟨_, rfl, ?_⟩; have n0_ := q0_6 (Kd.R_elder' (ra q1.out) (Kd.R_base ho0) hb); have n1_ := q0_6 (Kd.R_lower (Kd.R_new' ho0 (Kd.R_lt (ra q1.out))) (below_size (q3_6))); have n2_ := q0_6 (below_step (q3_6) hb); clear q1; clear HB; have q1 := n0_; have q6 := n1_; have HB := n2_; clear n0_ n1_ n2_; (try clear hb); (try clear hb2); (try clear hk); (try clear hi); (try clear ho0)))); (go_roundg kj5)
             case measure => have := HK1.out; have := HJ5.out; omega
             case rel => exact ⟨(t204), (wrap64 (x8_1 + 1)), (by first | rfl | (simp; done) | (simp [*]; done)), H', ⟨by have := HK1.out; have := HJ5.out; omega⟩, ⟨by refine ra ?_; exact Kd.R_mono q6.out (fun _ hk => trivial)⟩, ⟨by exact (q3_6)⟩⟩
           · rw [if_neg c13] at H
             (have c13b0 : (((rd_T81 l0 x8_1).f3) == a1) = false := beq_eq_false_iff_ne.mpr c13); (have c13b1 : (((rd_T81 l0 x8_1).f3) != a1) = true := bne_iff_ne.mpr c13)
             by_cases c17 : ((rd_T81 l0 x8_1).f3) = a2
             · rw [if_pos c17] at H
               (have c17b0 : (((rd_T81 l0 x8_1).f3) == a2) = true := beq_iff_eq.mpr c17); (have c17b1 : (((rd_T81 l0 x8_1).f3) != a2) = false := bne_eq_false_iff_eq.mpr c17); clear c17; replace H := Option.bind_eq_some_iff.mp H; obtain ⟨t209, A180, H⟩ := H; replace H : (spec_OnsetsOf.l0 kj5 l0 a1 a2 t209 (wrap64 (x8_1 + 1))) = some r := H; have A18 := q0_6 A180; clear A180; (have H' := q0_6 H); clear H; (have p202 : 0 ≤ (x8_1 : Int) := of_decide_eq_true (by first | (with_reducible assumption) | assumption)); (have q202 : x8_1 < (l0.length : Int) := of_decide_eq_true (by first | (with_reducible assumption) | assumption)); obtain ⟨ad202, e202, hx202_0, hx202_1, hx202_2, hx202_3⟩ := at_T81 HR0.out x8_1 p202 q202
               cases e202
               replace hx202_0 := (HB.out.cell (World.block_lt_of_cell? w _ hx202_0)).trans hx202_0; replace hx202_1 := (HB.out.cell (World.block_lt_of_cell? w _ hx202_1)).trans hx202_1; replace hx202_2 := (HB.out.cell (World.block_lt_of_cell? w _ hx202_2)).trans hx202_2; replace hx202_3 := (HB.out.cell (World.block_lt_of_cell? w _ hx202_3)).trans hx202_3; replace p202 := eq_true p202; replace q202 := eq_true q202; (have p207 : 0 ≤ (x8_1 : Int) := of_decide_eq_true (by first | (with_reducible assumption) | assumption)); (have q207 : x8_1 < (l0.length : Int) := of_decide_eq_true (by first | (with_reducible assumption) | assumption)); obtain ⟨ad207, e207, hx207_0, hx207_1, hx207_2, hx207_3⟩ := at_T81 HR0.out x8_1 p207 q207; obtain rfl : ad202 = ad207 := (by injection e207); replace hx207_0 := (HB.out.cell (World.block_lt_of_cell? w _ hx207_0)).trans hx207_0; replace hx207_1 := (HB.out.cell (World.block_lt_of_cell? w _ hx207_1)).trans hx207_1; replace hx207_2 := (HB.out.cell (World.block_lt_of_cell? w _ hx207_2)).trans hx207_2; replace hx207_3 := (HB.out.cell (World.block_lt_of_cell? w _ hx207_3)).trans hx207_3; replace p207 := eq_true p207; replace q207 := eq_true q207; (have p208 : 0 ≤ (x8_1 : Int) := of_decide_eq_true (by first | (with_reducible assumption) | assumption)); (have q208 : x8_1 < (l0.length : Int) := of_decide_eq_true (by first | (with_reducible assumption) | assumption)); obtain ⟨ad208, e208, hx208_0, hx208_1, hx208_2, hx208_3⟩ := at_T81 HR0.out x8_1 p208 q208; obtain rfl : ad202 = ad208 := (by injection e208); replace hx208_0 := (HB.out.cell (World.block_lt_of_cell? w _ hx208_0)).trans hx208_0; replace hx208_1 := (HB.out.cell (World.block_lt_of_cell? w _ hx208_1)).trans hx208_1; replace hx208_2 := (HB.out.cell (World.block_lt_of_cell? w _ hx208_2)).trans hx208_2; replace hx208_3 := (HB.out.cell (World.block_lt_of_cell? w _ hx208_3)).trans hx208_3; replace p208 := eq_true p208; replace q208 := eq_true q208; obtain ⟨qc, qd, eo19⟩ := Kd.R_slice q1.out; subst eo19; (go_wp2_with (first | ((with_reducible refine gate_callee (f := 135) rfl ?_); refine goesL_ (some 42) rfl rfl Try.func135 (by kernel_rfl) rfl #[.slice qc x7_1.length qd, .int .i64 ((rd_T81 l0 x8_1).f0)] rfl ma ?_; (with_reducible refine (spec_l8Num.calls kj5 _ _ x7_1 ((rd_T81 l0 x8_1).f0) t209 _ ?side1 ?side2 A18.out).mono ?_); (case side1 => exact ca (Kd.R_reads' q1.out).2.2); (case side2 => exact (Kd.R_reads' q1.out).2.1); rintro e w20 ⟨v210, rfl, ho0, hb⟩; refine ⟨_, rfl, ?_⟩; have n0_ := q0_6 (Kd.R_elder' (ra q1.out) (Kd.R_base ho0) hb); have n1_ := q0_6 (Kd.R_lower (Kd.R_new' ho0 (Kd.R_lt (ra q1.out))) (below_size (q3_6))); have n2_ := q0_6 (below_step (q3_6) hb); clear q1; clear HB; have q1 := n0_; have q7 := n1_; have HB := n2_; clear n0_ n1_ n2_; (try clear hb); (try clear hb2); (try clear hk); (try clear hi); (try clear ho0)))); (go_roundg kj5)
               case measure => have := HK1.out; have := HJ5.out; omega
               case rel => exact ⟨(t209), (wrap64 (x8_1 + 1)), (by first | rfl | (simp; done) | (simp [*]; done)), H', ⟨by have := HK1.out; have := HJ5.out; omega⟩, ⟨by refine ra ?_; exact Kd.R_mono q7.out (fun _ hk => trivial)⟩, ⟨by exact (q3_6)⟩⟩
             · rw [if_neg c17] at H
               (have c17b0 : (((rd_T81 l0 x8_1).f3) == a2) = false := beq_eq_false_iff_ne.mpr c17); (have c17b1 : (((rd_T81 l0 x8_1).f3) != a2) = true := bne_iff_ne.mpr c17); (have H' := q0_6 H); clear H; (have p202 : 0 ≤ (x8_1 : Int) := of_decide_eq_true (by first | (with_reducible assumption) | assumption)); (have q202 : x8_1 < (l0.length : Int) := of_decide_eq_true (by first | (with_reducible assumption) | assumption)); obtain ⟨ad202, e202, hx202_0, hx202_1, hx202_2, hx202_3⟩ := at_T81 HR0.out x8_1 p202 q202
               cases e202
               replace hx202_0 := (HB.out.cell (World.block_lt_of_cell? w _ hx202_0)).trans hx202_0; replace hx202_1 := (HB.out.cell (World.block_lt_of_cell? w _ hx202_1)).trans hx202_1; replace hx202_2 := (HB.out.cell (World.block_lt_of_cell? w _ hx202_2)).trans hx202_2; replace hx202_3 := (HB.out.cell (World.block_lt_of_cell? w _ hx202_3)).trans hx202_3; replace p202 := eq_true p202; replace q202 := eq_true q202; (have p207 : 0 ≤ (x8_1 : Int) := of_decide_eq_true (by first | (with_reducible assumption) | assumption)); (have q207 : x8_1 < (l0.length : Int) := of_decide_eq_true (by first | (with_reducible assumption) | assumption)); obtain ⟨ad207, e207, hx207_0, hx207_1, hx207_2, hx207_3⟩ := at_T81 HR0.out x8_1 p207 q207; obtain rfl : ad202 = ad207 := (by injection e207); replace hx207_0 := (HB.out.cell (World.block_lt_of_cell? w _ hx207_0)).trans hx207_0; replace hx207_1 := (HB.out.cell (World.block_lt_of_cell? w _ hx207_1)).trans hx207_1; replace hx207_2 := (HB.out.cell (World.block_lt_of_cell? w _ hx207_2)).trans hx207_2; replace hx207_3 := (HB.out.cell (World.block_lt_of_cell? w _ hx207_3)).trans hx207_3; replace p207 := eq_true p207; replace q207 := eq_true q207; (go_wp2); (go_roundg kj5)
               case measure => have := HK1.out; have := HJ5.out; omega
               case rel => exact ⟨(x7_1), (wrap64 (x8_1 + 1)), (by first | rfl | (simp; done) | (simp [*]; done)), H', ⟨by have := HK1.out; have := HJ5.out; omega⟩, ⟨by refine ra ?_; exact q1.out⟩, ⟨by exact (q3_6)⟩⟩
         · rw [if_neg c12] at H
           exact absurd H (by simp)
       · rw [if_neg c11] at H
         exact absurd H (by simp)
     · replace c10 := Bool.eq_false_iff.mpr c10
       subst c10; (have H1 : (some x7_1) = some r := by rw [if_neg (show ¬ (false = true) by decide)] at H; exact H); clear H; have H := H1; clear H1; obtain rfl := Option.some.inj H; (go_wp2); go_ret; (exact ⟨_, by first | rfl | (simp [errW_none, errW_some] <;> rfl) | (simp [*, errW_none, errW_some] <;> rfl), by refine ra ?_; exact q1.out, by exact (q3_6)⟩)
/-! ### spec_PitchAt: function 92 -/
mutual
def spec_PitchAt.l0 : Nat → List (S81) → Int → Int → Int → Int → Option (Int)
 | 0, _, _, _, _, _ => none
 | k + 1, x0, x1, x2, x7, x8 => if x8 < (x0.length : Int) then ((spec_IsScore.f k x0).bind fun t212 => (spec_PitchAt.j1 k x0 x1 x2 x7 x8 t212)) else (spec_PitchAt.j1 k x0 x1 x2 x7 x8 false)
def spec_PitchAt.j1 : Nat → List (S81) → Int → Int → Int → Int → Bool → Option (Int)
 | 0, _, _, _, _, _, _ => none
 | k + 1, x0, x1, x2, x7, x8, x16 => if x16 = true then (if 0 ≤ x8 then (if x8 < (x0.length : Int) then (if ((rd_T81 x0 x8).f3) = x1 then (if ((rd_T81 x0 x8).f0) ≤ x2 then (if x2 < (wrap64 (((rd_T81 x0 x8).f0) + ((rd_T81 x0 x8).f1))) then (spec_PitchAt.l0 k x0 x1 x2 ((rd_T81 x0 x8).f2) (wrap64 (x8 + 1))) else (spec_PitchAt.l0 k x0 x1 x2 x7 (wrap64 (x8 + 1)))) else (spec_PitchAt.l0 k x0 x1 x2 x7 (wrap64 (x8 + 1)))) else (spec_PitchAt.l0 k x0 x1 x2 x7 (wrap64 (x8 + 1)))) else (none)) else (none)) else (some x7)
end
def spec_PitchAt.f (k : Nat) (l0 : List (S81)) (a1 : Int) (a2 : Int) : Option (Int) := spec_PitchAt.l0 k l0 a1 a2 0 0
theorem spec_PitchAt.mono_l : ∀ k, (∀ y0 y1 y2 y3 y4, LeO (spec_PitchAt.l0 k y0 y1 y2 y3 y4) (spec_PitchAt.l0 (k + 1) y0 y1 y2 y3 y4)) ∧ (∀ y0 y1 y2 y3 y4 y5, LeO (spec_PitchAt.j1 k y0 y1 y2 y3 y4 y5) (spec_PitchAt.j1 (k + 1) y0 y1 y2 y3 y4 y5))
 | 0 => ⟨fun _ _ _ _ _ r h => by simp [spec_PitchAt.l0] at h, fun _ _ _ _ _ _ r h => by simp [spec_PitchAt.j1] at h⟩
 | k + 1 => by
  obtain ⟨ih0, ih1⟩ := spec_PitchAt.mono_l k; refine ⟨?_, ?_⟩
  · intro y0 y1 y2 y3 y4
    unfold spec_PitchAt.l0
    repeat' first
    | (with_reducible exact ih0 _ _ _ _ _)
    | (with_reducible exact ih1 _ _ _ _ _ _)
    | (with_reducible exact spec_IsScore.mono _ _)
    | (with_reducible exact LeO.refl _)
    | (with_reducible exact LeO.none _)
    | (with_reducible refine LeO.ite ?_ ?_)
    | (with_reducible refine LeO.bind ?_ (fun _ => ?_))
    | exact ih0 _ _ _ _ _
    | exact ih1 _ _ _ _ _ _
    | exact spec_IsScore.mono _ _
    | exact LeO.none _
    | refine LeO.ite ?_ ?_
    | refine LeO.bind ?_ (fun _ => ?_)
  · intro y0 y1 y2 y3 y4 y5
    unfold spec_PitchAt.j1
    repeat' first
    | (with_reducible exact ih0 _ _ _ _ _)
    | (with_reducible exact ih1 _ _ _ _ _ _)
    | (with_reducible exact spec_IsScore.mono _ _)
    | (with_reducible exact LeO.refl _)
    | (with_reducible exact LeO.none _)
    | (with_reducible refine LeO.ite ?_ ?_)
    | (with_reducible refine LeO.bind ?_ (fun _ => ?_))
    | exact ih0 _ _ _ _ _
    | exact ih1 _ _ _ _ _ _
    | exact spec_IsScore.mono _ _
    | exact LeO.none _
    | refine LeO.ite ?_ ?_
    | refine LeO.bind ?_ (fun _ => ?_)
theorem spec_PitchAt.mono : ∀ a0 a1 a2 k, LeO (spec_PitchAt.f k a0 a1 a2) (spec_PitchAt.f (k + 1) a0 a1 a2) := by
 intro a0 a1 a2 k; obtain ⟨ih0, ih1⟩ := spec_PitchAt.mono_l k; unfold spec_PitchAt.f
 repeat' first
  | (with_reducible exact ih0 _ _ _ _ _)
  | (with_reducible exact ih1 _ _ _ _ _ _)
  | (with_reducible exact spec_IsScore.mono _ _)
  | (with_reducible exact LeO.refl _)
  | (with_reducible exact LeO.none _)
  | (with_reducible refine LeO.ite ?_ ?_)
  | (with_reducible refine LeO.bind ?_ (fun _ => ?_))
  | exact ih0 _ _ _ _ _
  | exact ih1 _ _ _ _ _ _
  | exact spec_IsScore.mono _ _
  | exact LeO.none _
  | refine LeO.ite ?_ ?_
  | refine LeO.bind ?_ (fun _ => ?_)
set_option maxHeartbeats 8000000 in
set_option maxRecDepth 100000 in
theorem spec_PitchAt.calls (k : Nat) (A0 : Option Addr) (c0 : Nat) (l0 : List (S81)) (a1 : Int) (a2 : Int) (r : Int) (w : World) (hr0 : Kd.C k81 w A0 l0.length l0) (hc0 : l0.length ≤ c0) (h : spec_PitchAt.f k l0 a1 a2 = some r) :
 Calls Try.prog 92 #[.slice A0 l0.length c0, .int .i64 a1, .int .i64 a2] w fun e w' => e = .returned (.int .i64 r) ∧ Below w.heap.size w w' := by
 have HR0 := q0_6 hr0; have HC0 := q0_6 hc0; clear hr0 hc0; have HB := q0_6 (Below.refl w.heap.size w); (have H : (spec_PitchAt.l0 k l0 a1 a2 0 0) = some r := h); clear h; (have H' := q0_6 H); clear H; go_enter Try.func92, Try.ntmps92; (go_wp2); (repeat (go_quiet (fail); try go_wp2)); (go_loopg [7, 8] k (fun kq v7 v8 w' => ∃ (x7_1 : Int) (x8_1 : Int), v7 = .int .i64 x7_1 ∧ v8 = .int .i64 x8_1 ∧ Aside0 (spec_PitchAt.l0 kq l0 a1 a2 x7_1 x8_1 = some r) ∧ Aside0 (kq ≤ k) ∧ Aside0 (Below w.heap.size w w')))
 case atStart => exact ⟨(0), (0), (by first | rfl | (simp; done) | (simp [*]; done)), (by first | rfl | (simp; done) | (simp [*]; done)), H', ⟨Nat.le_refl _⟩, ⟨by exact (q3_6)⟩⟩
 case round =>
  clear H'; (try clear p2); obtain ⟨x7_1, x8_1, rfl, rfl, HA, HK1, HB⟩ := hrel
  cases gk with
  | zero => exact absurd HA.out (by simp [spec_PitchAt.l0])
  | succ k1 =>
   have H := HA.out; clear HA; (simp only [spec_PitchAt.l0] at H); have HC4 := q0_6 H; clear H; (go_upto_region 3 with (fail)); (repeat (go_quiet (fail); go_upto_region 3 with (fail))); (go_cut [16] (fun v16 wc => ∃ (kq : Nat) (x16_3 : Bool), v16 = .bool x16_3 ∧ Aside0 (spec_PitchAt.j1 kq l0 a1 a2 x7_1 x8_1 x16_3 = some r) ∧ Aside0 (kq ≤ k1) ∧ Aside0 (Below w.heap.size w wc)))
   case first =>
    have H := HC4.out; clear HC4
    by_cases c5 : x8_1 < (l0.length : Int)
    · rw [if_pos c5] at H
      (have c5b0 : decide (x8_1 < (l0.length : Int)) = true := decide_eq_true c5); clear c5; ((first | rw [c5b0] | (simp only [i64_w, i32_w]; rw [c5b0]) | skip)); replace H := Option.bind_eq_some_iff.mp H; obtain ⟨t212, A60, H⟩ := H; replace H : (spec_PitchAt.j1 k1 l0 a1 a2 x7_1 x8_1 t212) = some r := H; have A6 := q0_6 A60; clear A60; (have H' := q0_6 H); clear H; (go_wp2_with (first | (go_at_call 64; (with_reducible refine (spec_IsScore.calls k1 _ _ l0 t212 _ ?side1 ?side2 A6.out).mono ?_); (case side1 => exact ca (Kd.C_below HR0.out HB.out)); (case side2 => exact HC0.out); rintro e w7 ⟨rfl, hb⟩; have n0_ := q0_6 (below_step (q3_6) hb); clear HB; have HB := n0_; clear n0_; (try clear hb); (try clear hb2); (try clear hk); (try clear hi)))); (repeat (go_quiet (first | (go_at_call 64; (with_reducible refine (spec_IsScore.calls k1 _ _ l0 t212 _ ?side1 ?side2 A6.out).mono ?_); (case side1 => exact ca (Kd.C_below HR0.out HB.out)); (case side2 => exact HC0.out); rintro e w7 ⟨rfl, hb⟩; have n0_ := q0_6 (below_step (q3_6) hb); clear HB; have HB := n0_; clear n0_; (try clear hb); (try clear hb2); (try clear hk); (try clear hi))); try go_wp2_with (first | (go_at_call 64; (with_reducible refine (spec_IsScore.calls k1 _ _ l0 t212 _ ?side1 ?side2 A6.out).mono ?_); (case side1 => exact ca (Kd.C_below HR0.out HB.out)); (case side2 => exact HC0.out); rintro e w7 ⟨rfl, hb⟩; have n0_ := q0_6 (below_step (q3_6) hb); clear HB; have HB := n0_; clear n0_; (try clear hb); (try clear hb2); (try clear hk); (try clear hi))))); (go_meet)
      case rel => exact ⟨_, (t212), (by first | rfl | (simp; done) | (simp [*]; done)), H', ⟨by have := HK1.out; first | omega | exact Nat.le_refl _⟩, ⟨by exact (q3_6)⟩⟩
    · rw [if_neg c5] at H
      (have c5b0 : decide (x8_1 < (l0.length : Int)) = false := decide_eq_false c5); clear c5; ((first | rw [c5b0] | (simp only [i64_w, i32_w]; rw [c5b0]) | skip)); (have H' := q0_6 H); clear H; (go_wp2); (repeat (go_quiet (fail); try go_wp2)); (go_meet)
      case rel => exact ⟨_, (false), (by first | rfl | (simp; done) | (simp [*]; done)), H', ⟨by have := HK1.out; first | omega | exact Nat.le_refl _⟩, ⟨by exact (q3_6)⟩⟩
   case rest =>
    clear HC4; (try clear p2); (try clear c5); (try clear c5b0); (try clear p2); obtain ⟨kq, x16_3, rfl, HA, HJ3, HB⟩ := hcut
    cases kq with
    | zero => exact absurd HA.out (by simp [spec_PitchAt.j1])
    | succ kj3 =>
     have H := HA.out; clear HA; (simp only [spec_PitchAt.j1] at H)
     by_cases c8 : x16_3 = true
     · subst c8
       have H1 : (if 0 ≤ x8_1 then (if x8_1 < (l0.length : Int) then (if ((rd_T81 l0 x8_1).f3) = a1 then (if ((rd_T81 l0 x8_1).f0) ≤ a2 then (if a2 < (wrap64 (((rd_T81 l0 x8_1).f0) + ((rd_T81 l0 x8_1).f1))) then (spec_PitchAt.l0 kj3 l0 a1 a2 ((rd_T81 l0 x8_1).f2) (wrap64 (x8_1 + 1))) else (spec_PitchAt.l0 kj3 l0 a1 a2 x7_1 (wrap64 (x8_1 + 1)))) else (spec_PitchAt.l0 kj3 l0 a1 a2 x7_1 (wrap64 (x8_1 + 1)))) else (spec_PitchAt.l0 kj3 l0 a1 a2 x7_1 (wrap64 (x8_1 + 1)))) else (none)) else (none)) = some r := by rw [if_pos rfl] at H; exact H
       clear H; have H := H1; clear H1
       by_cases c9 : 0 ≤ x8_1
       · rw [if_pos c9] at H
         (have c9b0 : decide (0 ≤ x8_1) = true := decide_eq_true c9); clear c9
         by_cases c10 : x8_1 < (l0.length : Int)
         · rw [if_pos c10] at H
           (have c10b0 : decide (x8_1 < (l0.length : Int)) = true := decide_eq_true c10); clear c10
           by_cases c11 : ((rd_T81 l0 x8_1).f3) = a1
           · rw [if_pos c11] at H
             (have c11b0 : (((rd_T81 l0 x8_1).f3) == a1) = true := beq_iff_eq.mpr c11); (have c11b1 : (((rd_T81 l0 x8_1).f3) != a1) = false := bne_eq_false_iff_eq.mpr c11); clear c11
             by_cases c12 : ((rd_T81 l0 x8_1).f0) ≤ a2
             · rw [if_pos c12] at H
               (have c12b0 : decide (((rd_T81 l0 x8_1).f0) ≤ a2) = true := decide_eq_true c12); clear c12
               by_cases c13 : a2 < (wrap64 (((rd_T81 l0 x8_1).f0) + ((rd_T81 l0 x8_1).f1)))
               · rw [if_pos c13] at H
                 (have c13b0 : decide (a2 < (wrap64 (((rd_T81 l0 x8_1).f0) + ((rd_T81 l0 x8_1).f1)))) = true := decide_eq_true c13); clear c13; (have H' := q0_6 H); clear H; (have p213 : 0 ≤ (x8_1 : Int) := of_decide_eq_true (by first | (with_reducible assumption) | assumption)); (have q213 : x8_1 < (l0.length : Int) := of_decide_eq_true (by first | (with_reducible assumption) | assumption)); obtain ⟨ad213, e213, hx213_0, hx213_1, hx213_2, hx213_3⟩ := at_T81 HR0.out x8_1 p213 q213
                 cases e213
                 replace hx213_0 := (HB.out.cell (World.block_lt_of_cell? w _ hx213_0)).trans hx213_0; replace hx213_1 := (HB.out.cell (World.block_lt_of_cell? w _ hx213_1)).trans hx213_1; replace hx213_2 := (HB.out.cell (World.block_lt_of_cell? w _ hx213_2)).trans hx213_2; replace hx213_3 := (HB.out.cell (World.block_lt_of_cell? w _ hx213_3)).trans hx213_3; replace p213 := eq_true p213; replace q213 := eq_true q213; (have p214 : 0 ≤ (x8_1 : Int) := of_decide_eq_true (by first | (with_reducible assumption) | assumption)); (have q214 : x8_1 < (l0.length : Int) := of_decide_eq_true (by first | (with_reducible assumption) | assumption)); obtain ⟨ad214, e214, hx214_0, hx214_1, hx214_2, hx214_3⟩ := at_T81 HR0.out x8_1 p214 q214; obtain rfl : ad213 = ad214 := (by injection e214); replace hx214_0 := (HB.out.cell (World.block_lt_of_cell? w _ hx214_0)).trans hx214_0; replace hx214_1 := (HB.out.cell (World.block_lt_of_cell? w _ hx214_1)).trans hx214_1; replace hx214_2 := (HB.out.cell (World.block_lt_of_cell? w _ hx214_2)).trans hx214_2; replace hx214_3 := (HB.out.cell (World.block_lt_of_cell? w _ hx214_3)).trans hx214_3; replace p214 := eq_true p214; replace q214 := eq_true q214; (have p215 : 0 ≤ (x8_1 : Int) := of_decide_eq_true (by first | (with_reducible assumption) | assumption)); (have q215 : x8_1 < (l0.length : Int) := of_decide_eq_true (by first | (with_reducible assumption) | assumption)); obtain ⟨ad215, e215, hx215_0, hx215_1, hx215_2, hx215_3⟩ := at_T81 HR0.out x8_1 p215 q215; obtain rfl : ad213 = ad215 := (by injection e215); replace hx215_0 := (HB.out.cell (World.block_lt_of_cell? w _ hx215_0)).trans hx215_0; replace hx215_1 := (HB.out.cell (World.block_lt_of_cell? w _ hx215_1)).trans hx215_1; replace hx215_2 := (HB.out.cell (World.block_lt_of_cell? w _ hx215_2)).trans hx215_2; replace hx215_3 := (HB.out.cell (World.block_lt_of_cell? w _ hx215_3)).trans hx215_3; replace p215 := eq_true p215; replace q215 := eq_true q215; (have p216 : 0 ≤ (x8_1 : Int) := of_decide_eq_true (by first | (with_reducible assumption) | assumption)); (have q216 : x8_1 < (l0.length : Int) := of_decide_eq_true (by first | (with_reducible assumption) | assumption)); obtain ⟨ad216, e216, hx216_0, hx216_1, hx216_2, hx216_3⟩ := at_T81 HR0.out x8_1 p216 q216; obtain rfl : ad213 = ad216 := (by injection e216); replace hx216_0 := (HB.out.cell (World.block_lt_of_cell? w _ hx216_0)).trans hx216_0; replace hx216_1 := (HB.out.cell (World.block_lt_of_cell? w _ hx216_1)).trans hx216_1; replace hx216_2 := (HB.out.cell (World.block_lt_of_cell? w _ hx216_2)).trans hx216_2; replace hx216_3 := (HB.out.cell (World.block_lt_of_cell? w _ hx216_3)).trans hx216_3; replace p216 := eq_true p216; replace q216 := eq_true q216; (have p217 : 0 ≤ (x8_1 : Int) := of_decide_eq_true (by first | (with_reducible assumption) | assumption)); (have q217 : x8_1 < (l0.length : Int) := of_decide_eq_true (by first | (with_reducible assumption) | assumption))
                 obtain ⟨ad217, e217, hx217_0, hx217_1, hx217_2, hx217_3⟩ := at_T81 HR0.out x8_1 p217 q217; obtain rfl : ad213 = ad217 := (by injection e217); replace hx217_0 := (HB.out.cell (World.block_lt_of_cell? w _ hx217_0)).trans hx217_0; replace hx217_1 := (HB.out.cell (World.block_lt_of_cell? w _ hx217_1)).trans hx217_1; replace hx217_2 := (HB.out.cell (World.block_lt_of_cell? w _ hx217_2)).trans hx217_2; replace hx217_3 := (HB.out.cell (World.block_lt_of_cell? w _ hx217_3)).trans hx217_3; replace p217 := eq_true p217; replace q217 := eq_true q217; (go_wp2); (repeat (go_quiet (fail); try go_wp2)); (go_roundg kj3)
                 case measure => have := HK1.out; have := HJ3.out; omega
                 case rel => exact ⟨((rd_T81 l0 x8_1).f2), (wrap64 (x8_1 + 1)), (by first | rfl | (simp; done) | (simp [*]; done)), (by first | rfl | (simp; done) | (simp [*]; done)), H', ⟨by have := HK1.out; have := HJ3.out; omega⟩, ⟨by exact (q3_6)⟩⟩
               · rw [if_neg c13] at H
                 (have c13b0 : decide (a2 < (wrap64 (((rd_T81 l0 x8_1).f0) + ((rd_T81 l0 x8_1).f1)))) = false := decide_eq_false c13); clear c13; (have H' := q0_6 H); clear H; (have p213 : 0 ≤ (x8_1 : Int) := of_decide_eq_true (by first | (with_reducible assumption) | assumption)); (have q213 : x8_1 < (l0.length : Int) := of_decide_eq_true (by first | (with_reducible assumption) | assumption)); obtain ⟨ad213, e213, hx213_0, hx213_1, hx213_2, hx213_3⟩ := at_T81 HR0.out x8_1 p213 q213
                 cases e213
                 replace hx213_0 := (HB.out.cell (World.block_lt_of_cell? w _ hx213_0)).trans hx213_0; replace hx213_1 := (HB.out.cell (World.block_lt_of_cell? w _ hx213_1)).trans hx213_1; replace hx213_2 := (HB.out.cell (World.block_lt_of_cell? w _ hx213_2)).trans hx213_2; replace hx213_3 := (HB.out.cell (World.block_lt_of_cell? w _ hx213_3)).trans hx213_3; replace p213 := eq_true p213; replace q213 := eq_true q213; (have p214 : 0 ≤ (x8_1 : Int) := of_decide_eq_true (by first | (with_reducible assumption) | assumption)); (have q214 : x8_1 < (l0.length : Int) := of_decide_eq_true (by first | (with_reducible assumption) | assumption)); obtain ⟨ad214, e214, hx214_0, hx214_1, hx214_2, hx214_3⟩ := at_T81 HR0.out x8_1 p214 q214; obtain rfl : ad213 = ad214 := (by injection e214); replace hx214_0 := (HB.out.cell (World.block_lt_of_cell? w _ hx214_0)).trans hx214_0; replace hx214_1 := (HB.out.cell (World.block_lt_of_cell? w _ hx214_1)).trans hx214_1; replace hx214_2 := (HB.out.cell (World.block_lt_of_cell? w _ hx214_2)).trans hx214_2; replace hx214_3 := (HB.out.cell (World.block_lt_of_cell? w _ hx214_3)).trans hx214_3; replace p214 := eq_true p214; replace q214 := eq_true q214; (have p215 : 0 ≤ (x8_1 : Int) := of_decide_eq_true (by first | (with_reducible assumption) | assumption)); (have q215 : x8_1 < (l0.length : Int) := of_decide_eq_true (by first | (with_reducible assumption) | assumption)); obtain ⟨ad215, e215, hx215_0, hx215_1, hx215_2, hx215_3⟩ := at_T81 HR0.out x8_1 p215 q215; obtain rfl : ad213 = ad215 := (by injection e215); replace hx215_0 := (HB.out.cell (World.block_lt_of_cell? w _ hx215_0)).trans hx215_0; replace hx215_1 := (HB.out.cell (World.block_lt_of_cell? w _ hx215_1)).trans hx215_1; replace hx215_2 := (HB.out.cell (World.block_lt_of_cell? w _ hx215_2)).trans hx215_2; replace hx215_3 := (HB.out.cell (World.block_lt_of_cell? w _ hx215_3)).trans hx215_3; replace p215 := eq_true p215; replace q215 := eq_true q215; (have p216 : 0 ≤ (x8_1 : Int) := of_decide_eq_true (by first | (with_reducible assumption) | assumption)); (have q216 : x8_1 < (l0.length : Int) := of_decide_eq_true (by first | (with_reducible assumption) | assumption)); obtain ⟨ad216, e216, hx216_0, hx216_1, hx216_2, hx216_3⟩ := at_T81 HR0.out x8_1 p216 q216; obtain rfl : ad213 = ad216 := (by injection e216); replace hx216_0 := (HB.out.cell (World.block_lt_of_cell? w _ hx216_0)).trans hx216_0; replace hx216_1 := (HB.out.cell (World.block_lt_of_cell? w _ hx216_1)).trans hx216_1; replace hx216_2 := (HB.out.cell (World.block_lt_of_cell? w _ hx216_2)).trans hx216_2; replace hx216_3 := (HB.out.cell (World.block_lt_of_cell? w _ hx216_3)).trans hx216_3; replace p216 := eq_true p216; replace q216 := eq_true q216; (go_wp2); (repeat (go_quiet (fail); try go_wp2)); (go_roundg kj3)
                 case measure => have := HK1.out; have := HJ3.out; omega
                 case rel => exact ⟨(x7_1), (wrap64 (x8_1 + 1)), (by first | rfl | (simp; done) | (simp [*]; done)), (by first | rfl | (simp; done) | (simp [*]; done)), H', ⟨by have := HK1.out; have := HJ3.out; omega⟩, ⟨by exact (q3_6)⟩⟩
             · rw [if_neg c12] at H
               (have c12b0 : decide (((rd_T81 l0 x8_1).f0) ≤ a2) = false := decide_eq_false c12); clear c12; (have H' := q0_6 H); clear H; (have p213 : 0 ≤ (x8_1 : Int) := of_decide_eq_true (by first | (with_reducible assumption) | assumption)); (have q213 : x8_1 < (l0.length : Int) := of_decide_eq_true (by first | (with_reducible assumption) | assumption)); obtain ⟨ad213, e213, hx213_0, hx213_1, hx213_2, hx213_3⟩ := at_T81 HR0.out x8_1 p213 q213
               cases e213
               replace hx213_0 := (HB.out.cell (World.block_lt_of_cell? w _ hx213_0)).trans hx213_0; replace hx213_1 := (HB.out.cell (World.block_lt_of_cell? w _ hx213_1)).trans hx213_1; replace hx213_2 := (HB.out.cell (World.block_lt_of_cell? w _ hx213_2)).trans hx213_2; replace hx213_3 := (HB.out.cell (World.block_lt_of_cell? w _ hx213_3)).trans hx213_3; replace p213 := eq_true p213; replace q213 := eq_true q213; (have p214 : 0 ≤ (x8_1 : Int) := of_decide_eq_true (by first | (with_reducible assumption) | assumption)); (have q214 : x8_1 < (l0.length : Int) := of_decide_eq_true (by first | (with_reducible assumption) | assumption)); obtain ⟨ad214, e214, hx214_0, hx214_1, hx214_2, hx214_3⟩ := at_T81 HR0.out x8_1 p214 q214; obtain rfl : ad213 = ad214 := (by injection e214); replace hx214_0 := (HB.out.cell (World.block_lt_of_cell? w _ hx214_0)).trans hx214_0; replace hx214_1 := (HB.out.cell (World.block_lt_of_cell? w _ hx214_1)).trans hx214_1; replace hx214_2 := (HB.out.cell (World.block_lt_of_cell? w _ hx214_2)).trans hx214_2; replace hx214_3 := (HB.out.cell (World.block_lt_of_cell? w _ hx214_3)).trans hx214_3; replace p214 := eq_true p214; replace q214 := eq_true q214; (go_wp2); (repeat (go_quiet (fail); try go_wp2)); (go_roundg kj3)
               case measure => have := HK1.out; have := HJ3.out; omega
               case rel => exact ⟨(x7_1), (wrap64 (x8_1 + 1)), (by first | rfl | (simp; done) | (simp [*]; done)), (by first | rfl | (simp; done) | (simp [*]; done)), H', ⟨by have := HK1.out; have := HJ3.out; omega⟩, ⟨by exact (q3_6)⟩⟩
           · rw [if_neg c11] at H
             (have c11b0 : (((rd_T81 l0 x8_1).f3) == a1) = false := beq_eq_false_iff_ne.mpr c11); (have c11b1 : (((rd_T81 l0 x8_1).f3) != a1) = true := bne_iff_ne.mpr c11); (have H' := q0_6 H); clear H; (have p213 : 0 ≤ (x8_1 : Int) := of_decide_eq_true (by first | (with_reducible assumption) | assumption)); (have q213 : x8_1 < (l0.length : Int) := of_decide_eq_true (by first | (with_reducible assumption) | assumption)); obtain ⟨ad213, e213, hx213_0, hx213_1, hx213_2, hx213_3⟩ := at_T81 HR0.out x8_1 p213 q213
             cases e213
             replace hx213_0 := (HB.out.cell (World.block_lt_of_cell? w _ hx213_0)).trans hx213_0; replace hx213_1 := (HB.out.cell (World.block_lt_of_cell? w _ hx213_1)).trans hx213_1; replace hx213_2 := (HB.out.cell (World.block_lt_of_cell? w _ hx213_2)).trans hx213_2; replace hx213_3 := (HB.out.cell (World.block_lt_of_cell? w _ hx213_3)).trans hx213_3; replace p213 := eq_true p213; replace q213 := eq_true q213; (go_wp2); (repeat (go_quiet (fail); try go_wp2)); (go_roundg kj3)
             case measure => have := HK1.out; have := HJ3.out; omega
             case rel => exact ⟨(x7_1), (wrap64 (x8_1 + 1)), (by first | rfl | (simp; done) | (simp [*]; done)), (by first | rfl | (simp; done) | (simp [*]; done)), H', ⟨by have := HK1.out; have := HJ3.out; omega⟩, ⟨by exact (q3_6)⟩⟩
         · rw [if_neg c10] at H
           exact absurd H (by simp)
       · rw [if_neg c9] at H
         exact absurd H (by simp)
     · replace c8 := Bool.eq_false_iff.mpr c8
       subst c8; (have H1 : (some x7_1) = some r := by rw [if_neg (show ¬ (false = true) by decide)] at H; exact H); clear H; have H := H1; clear H1; obtain rfl := Option.some.inj H; (go_wp2); (repeat (go_quiet (fail); try go_wp2)); go_ret; (exact ⟨by first | rfl | (simp [errW_none, errW_some] <;> rfl) | (simp [*, errW_none, errW_some] <;> rfl), by exact (q3_6)⟩)
/-! ### spec_CrossingsIn: function 41 -/
def spec_CrossingsIn.l0 : Nat → List (S81) → Int → Int → List Int → List Int → Int → Option (List Int)
 | 0, _, _, _, _, _, _ => none
 | k + 1, x0, x1, x2, x7, x8, x9 => if x9 < (x8.length : Int) then (if 0 ≤ x9 then ((spec_PitchAt.f k x0 x1 (rd x8 x9)).bind fun t225 => ((spec_PitchAt.f k x0 x2 (rd x8 x9)).bind fun t227 => (if t225 > 0 then (if t227 > 0 then (if t225 < t227 then (if x7.length < 17592186044416 then (spec_CrossingsIn.l0 k x0 x1 x2 (x7 ++ [rd x8 x9]) x8 (wrap64 (x9 + 1))) else (none)) else (spec_CrossingsIn.l0 k x0 x1 x2 x7 x8 (wrap64 (x9 + 1)))) else (spec_CrossingsIn.l0 k x0 x1 x2 x7 x8 (wrap64 (x9 + 1)))) else (spec_CrossingsIn.l0 k x0 x1 x2 x7 x8 (wrap64 (x9 + 1)))))) else (none)) else (some x7)
def spec_CrossingsIn.f (k : Nat) (l0 : List (S81)) (a1 : Int) (a2 : Int) : Option (List Int) := (spec_OnsetsOf.f k l0 a1 a2).bind fun t221 => (spec_CrossingsIn.l0 k l0 a1 a2 (([] : List Int)) t221 0)
theorem spec_CrossingsIn.mono_l : ∀ k, (∀ y0 y1 y2 y3 y4 y5, LeO (spec_CrossingsIn.l0 k y0 y1 y2 y3 y4 y5) (spec_CrossingsIn.l0 (k + 1) y0 y1 y2 y3 y4 y5))
 | 0 => fun _ _ _ _ _ _ r h => by simp [spec_CrossingsIn.l0] at h
 | k + 1 => by
  have ih0 := spec_CrossingsIn.mono_l k
  · intro y0 y1 y2 y3 y4 y5
    unfold spec_CrossingsIn.l0
    repeat' first
    | (with_reducible exact ih0 _ _ _ _ _ _)
    | (with_reducible exact spec_OnsetsOf.mono _ _ _ _)
    | (with_reducible exact spec_PitchAt.mono _ _ _ _)
    | (with_reducible exact LeO.refl _)
    | (with_reducible exact LeO.none _)
    | (with_reducible refine LeO.ite ?_ ?_)
    | (with_reducible refine LeO.bind ?_ (fun _ => ?_))
    | exact ih0 _ _ _ _ _ _
    | exact spec_OnsetsOf.mono _ _ _ _
    | exact spec_PitchAt.mono _ _ _ _
    | exact LeO.none _
    | refine LeO.ite ?_ ?_
    | refine LeO.bind ?_ (fun _ => ?_)
theorem spec_CrossingsIn.mono : ∀ a0 a1 a2 k, LeO (spec_CrossingsIn.f k a0 a1 a2) (spec_CrossingsIn.f (k + 1) a0 a1 a2) := by
 intro a0 a1 a2 k; have ih0 := spec_CrossingsIn.mono_l k; unfold spec_CrossingsIn.f
 repeat' first
  | (with_reducible exact ih0 _ _ _ _ _ _)
  | (with_reducible exact spec_OnsetsOf.mono _ _ _ _)
  | (with_reducible exact spec_PitchAt.mono _ _ _ _)
  | (with_reducible exact LeO.refl _)
  | (with_reducible exact LeO.none _)
  | (with_reducible refine LeO.ite ?_ ?_)
  | (with_reducible refine LeO.bind ?_ (fun _ => ?_))
  | exact ih0 _ _ _ _ _ _
  | exact spec_OnsetsOf.mono _ _ _ _
  | exact spec_PitchAt.mono _ _ _ _
  | exact LeO.none _
  | refine LeO.ite ?_ ?_
  | refine LeO.bind ?_ (fun _ => ?_)
set_option maxHeartbeats 8000000 in
set_option maxRecDepth 100000 in
theorem spec_CrossingsIn.calls (k : Nat) (A0 : Option Addr) (c0 : Nat) (l0 : List (S81)) (a1 : Int) (a2 : Int) (r : List Int) (w : World) (hr0 : Kd.C k81 w A0 l0.length l0) (hc0 : l0.length ≤ c0) (h : spec_CrossingsIn.f k l0 a1 a2 = some r) :
 Calls Try.prog 41 #[.slice A0 l0.length c0, .int .i64 a1, .int .i64 a2] w fun e w' => ∃ v0_ : Value, e = .returned (v0_) ∧ Kd.R (Kd.int .i64) 3 w' w.heap.size (fun _ => True) v0_ r ∧ Below w.heap.size w w' := by
 have HR0 := q0_6 hr0; have HC0 := q0_6 hc0; clear hr0 hc0; have HB := q0_6 (Below.refl w.heap.size w); (have H : ((spec_OnsetsOf.f k l0 a1 a2).bind fun t221 => (spec_CrossingsIn.l0 k l0 a1 a2 (([] : List Int)) t221 0)) = some r := h); clear h; obtain ⟨y218, hy218⟩ : ∃ y_ : List Int, y_ = (([] : List Int)) := ⟨_, rfl⟩; (replace H : ((spec_OnsetsOf.f k l0 a1 a2).bind fun t221 => (spec_CrossingsIn.l0 k l0 a1 a2 y218 t221 0)) = some r := by first | (rw [hy218]; with_reducible exact H) | (have H2_ := (Option.bind_some _ _).symm.trans H; rw [hy218]; with_reducible exact H2_) | (have H2_ := (Option.bind_some _ _).symm.trans H; with_reducible exact H2_) | with_reducible exact H | (rw [hy218]; exact H) | exact H); have Ny218 := q0_6 hy218; clear hy218; replace H := Option.bind_eq_some_iff.mp H; obtain ⟨t221, A40, H⟩ := H; replace H : (spec_CrossingsIn.l0 k l0 a1 a2 y218 t221 0) = some r := H; have A4 := q0_6 A40; clear A40; (have H' := q0_6 H); clear H; go_enter Try.func41, Try.ntmps41; (go_wp2_with (first | ((with_reducible refine gate_dst (N := 12) rfl ?_); refine Kd.R_lit (Kd.int .i64) _ 3 ?hg (N := 12) ?hd (xs := ([] : List Int)) (inner := []) (ok := fun _ => True) (okp := fun _ => True) ?hr ?hp (fun _ hk => hk) trivial (Below.refl _ _) (Nat.le_refl _) (by simp) ?_; (case hd => rfl); (case hg => rfl); (case hr => first | (go_simp; done) | (go_simp; rfl)); (case hp => exact (Reps.none _ _)); intro v219 w5 ho6 hb hg_ hnew_; clear hg_ hnew_; (first | rw [← Ny218.out] at ho6 | (simp only [Int.reduceToNat] at ho6; rw [← Ny218.out] at ho6)); have n0_ := q0_6 (Kd.R_lower ho6 (below_size (q3_6))); have n1_ := q0_6 (below_step (q3_6) hb); clear HB; have q4 := n0_; have HB := n1_; clear n0_ n1_; clear hb ho6) | ((with_reducible refine gate_callee (f := 91) rfl ?_); refine goesL_ (some 16) rfl rfl Try.func91 (by kernel_rfl) rfl #[.slice A0 l0.length c0, .int .i64 a1, .int .i64 a2] rfl ma ?_; (with_reducible refine (spec_OnsetsOf.calls k _ _ l0 a1 a2 t221 _ ?side1 ?side2 A4.out).mono ?_); (case side1 => exact ca (Kd.C_below HR0.out HB.out)); (case side2 => exact HC0.out); rintro e w7 ⟨v222, rfl, ho0, hb⟩; refine ⟨_, rfl, ?_⟩; have n0_ := q0_6 (Kd.R_elder' (ra q4.out) (Kd.R_base ho0) hb); have n1_ := q0_6 (Kd.R_lower (Kd.R_new' ho0 (Kd.R_lt (ra q4.out))) (below_size (q3_6))); have n2_ := q0_6 (below_step (q3_6) hb); clear q4; clear HB; have q4 := n0_; have q8 := n1_; have HB := n2_; clear n0_ n1_ n2_; (try clear hb); (try clear hb2); (try clear hk); (try clear hi); (try clear ho0)))); (go_loopg [7, 9] k (fun kq v7 v9 w' => ∃ (x7_1 : List Int) (x9_1 : Int), v9 = .int .i64 x9_1 ∧ Aside0 (spec_CrossingsIn.l0 kq l0 a1 a2 x7_1 t221 x9_1 = some r) ∧ Aside0 (kq ≤ k) ∧ Aside0 (Kd.R (Kd.int .i64) 3 w' w.heap.size (fun k_ => some k_ ≠ (v222 : Value).ownBlock) v7 x7_1) ∧ Aside0 (Kd.R (Kd.int .i64) 3 w' w.heap.size (fun k_ => some k_ ≠ (v7 : Value).ownBlock) v222 t221) ∧ Aside0 (Below w.heap.size w w')))
 case atStart => exact ⟨(y218), (0), (by first | rfl | (simp; done) | (simp [*]; done)), H', ⟨Nat.le_refl _⟩, ⟨by refine ra ?_; exact Kd.R_mono q4.out (fun _ hk => hk.2)⟩, ⟨by refine ra ?_; exact Kd.R_mono q8.out (fun _ hk => hk.2)⟩, ⟨by exact (q3_6)⟩⟩
 case round =>
  clear H'; (try clear p2); (try clear c4); obtain ⟨x7_1, x9_1, rfl, HA, HK1, q1, q2, HB⟩ := hrel
  cases gk with
  | zero => exact absurd HA.out (by simp [spec_CrossingsIn.l0])
  | succ k1 =>
   have H := HA.out; clear HA; (simp only [spec_CrossingsIn.l0] at H)
   by_cases c8 : x9_1 < (t221.length : Int)
   · rw [if_pos c8] at H
     (have c8b0 : decide (x9_1 < (t221.length : Int)) = true := decide_eq_true c8); clear c8
     by_cases c9 : 0 ≤ x9_1
     · rw [if_pos c9] at H
       (have c9b0 : decide (0 ≤ x9_1) = true := decide_eq_true c9); clear c9; replace H := Option.bind_eq_some_iff.mp H; obtain ⟨t225, A100, H⟩ := H; replace H : ((spec_PitchAt.f k1 l0 a2 (rd t221 x9_1)).bind fun t227 => (if t225 > 0 then (if t227 > 0 then (if t225 < t227 then (if x7_1.length < 17592186044416 then (spec_CrossingsIn.l0 k1 l0 a1 a2 (x7_1 ++ [rd t221 x9_1]) t221 (wrap64 (x9_1 + 1))) else (none)) else (spec_CrossingsIn.l0 k1 l0 a1 a2 x7_1 t221 (wrap64 (x9_1 + 1)))) else (spec_CrossingsIn.l0 k1 l0 a1 a2 x7_1 t221 (wrap64 (x9_1 + 1)))) else (spec_CrossingsIn.l0 k1 l0 a1 a2 x7_1 t221 (wrap64 (x9_1 + 1))))) = some r := H; have A10 := q0_6 A100; clear A100; replace H := Option.bind_eq_some_iff.mp H; obtain ⟨t227, A110, H⟩ := H; replace H : (if t225 > 0 then (if t227 > 0 then (if t225 < t227 then (if x7_1.length < 17592186044416 then (spec_CrossingsIn.l0 k1 l0 a1 a2 (x7_1 ++ [rd t221 x9_1]) t221 (wrap64 (x9_1 + 1))) else (none)) else (spec_CrossingsIn.l0 k1 l0 a1 a2 x7_1 t221 (wrap64 (x9_1 + 1)))) else (spec_CrossingsIn.l0 k1 l0 a1 a2 x7_1 t221 (wrap64 (x9_1 + 1)))) else (spec_CrossingsIn.l0 k1 l0 a1 a2 x7_1 t221 (wrap64 (x9_1 + 1)))) = some r := H; have A11 := q0_6 A110; clear A110
       by_cases c12 : t225 > 0
       · rw [if_pos c12] at H
         (have c12b0 : decide (0 < t225) = true := decide_eq_true c12); clear c12
         by_cases c13 : t227 > 0
         · rw [if_pos c13] at H
           (have c13b0 : decide (0 < t227) = true := decide_eq_true c13); clear c13
           by_cases c14 : t225 < t227
           · rw [if_pos c14] at H
             (have c14b0 : decide (t225 < t227) = true := decide_eq_true c14); clear c14
             by_cases c15 : x7_1.length < 17592186044416
             · rw [if_pos c15] at H
               have LMc15 := q0_6 c15; clear c15; obtain ⟨y229, hy229⟩ : ∃ y_ : List Int, y_ = (x7_1 ++ [rd t221 x9_1]) := ⟨_, rfl⟩; (replace H : (spec_CrossingsIn.l0 k1 l0 a1 a2 y229 t221 (wrap64 (x9_1 + 1))) = some r := by first | (rw [hy229]; with_reducible exact H) | (have H2_ := (Option.bind_some _ _).symm.trans H; rw [hy229]; with_reducible exact H2_) | (have H2_ := (Option.bind_some _ _).symm.trans H; with_reducible exact H2_) | with_reducible exact H | (rw [hy229]; exact H) | exact H); have Ny229 := q0_6 hy229; clear hy229; (have H' := q0_6 H); clear H; obtain ⟨qf, qe, eo16⟩ := Kd.R_slice q2.out; subst eo16; (have p224 : 0 ≤ (x9_1 : Int) := of_decide_eq_true (by first | (with_reducible assumption) | assumption)); (have q224 : x9_1 < (t221.length : Int) := of_decide_eq_true (by first | (with_reducible assumption) | assumption)); obtain ⟨ad224, e224, hx224_0⟩ := Kd.at_int (Kd.R_reads' q2.out).2.2 x9_1 p224 q224
               cases e224
               replace p224 := eq_true p224; replace q224 := eq_true q224
               (go_wp2_with (first | ((with_reducible refine gate_callee (f := 92) rfl ?_); refine goesL_ (some 29) rfl rfl Try.func92 (by kernel_rfl) rfl #[.slice A0 l0.length c0, .int .i64 a1, .int .i64 (rd t221 x9_1)] rfl ma ?_; (with_reducible refine (spec_PitchAt.calls k1 _ _ l0 a1 (rd t221 x9_1) t225 _ ?side1 ?side2 A10.out).mono ?_); (case side1 => exact ca (Kd.C_below HR0.out HB.out)); (case side2 => exact HC0.out); rintro e w17 ⟨rfl, hb⟩; refine ⟨_, rfl, ?_⟩; have n0_ := q0_6 (Kd.R_below (ra q1.out) hb); have n1_ := q0_6 (Kd.R_below (ra q2.out) hb); have n2_ := q0_6 (below_step (q3_6) hb); clear q1; clear q2; clear HB; have q1 := n0_; have q2 := n1_; have HB := n2_; clear n0_ n1_ n2_; (try clear hb); (try clear hb2); (try clear hk); (try clear hi); have p226 : 0 ≤ (x9_1 : Int) := of_decide_eq_true (by first | (with_reducible assumption) | assumption); have q226 : x9_1 < (t221.length : Int) := of_decide_eq_true (by first | (with_reducible assumption) | assumption); obtain ⟨ad226, e226, hx226_0⟩ := Kd.at_int (Kd.R_reads' q2.out).2.2 x9_1 p226 q226; obtain rfl : ad224 = ad226 := (by injection e226); replace p226 := eq_true p226; replace q226 := eq_true q226) | ((with_reducible refine gate_callee (f := 92) rfl ?_); refine goesL_ (some 36) rfl rfl Try.func92 (by kernel_rfl) rfl #[.slice A0 l0.length c0, .int .i64 a2, .int .i64 (rd t221 x9_1)] rfl ma ?_; (with_reducible refine (spec_PitchAt.calls k1 _ _ l0 a2 (rd t221 x9_1) t227 _ ?side1 ?side2 A11.out).mono ?_); (case side1 => exact ca (Kd.C_below HR0.out HB.out)); (case side2 => exact HC0.out); rintro e w18 ⟨rfl, hb⟩; refine ⟨_, rfl, ?_⟩; have n0_ := q0_6 (Kd.R_below (ra q1.out) hb); have n1_ := q0_6 (Kd.R_below (ra q2.out) hb); have n2_ := q0_6 (below_step (q3_6) hb); clear q1; clear q2; clear HB; have q1 := n0_; have q2 := n1_; have HB := n2_; clear n0_ n1_ n2_; (try clear hb); (try clear hb2); (try clear hk); (try clear hi); have p228 : 0 ≤ (x9_1 : Int) := of_decide_eq_true (by first | (with_reducible assumption) | assumption); have q228 : x9_1 < (t221.length : Int) := of_decide_eq_true (by first | (with_reducible assumption) | assumption); obtain ⟨ad228, e228, hx228_0⟩ := Kd.at_int (Kd.R_reads' q2.out).2.2 x9_1 p228 q228; obtain rfl : ad224 = ad228 := (by injection e228); replace p228 := eq_true p228; replace q228 := eq_true q228) | ((with_reducible refine gate_builtin (b := .append) (xs := #[.tmp 48, .tmp 53]) rfl ?_); at_builtin; refine Kd.R_append (Kd.int .i64) (w0 := w) w.heap.size rfl (.tmp 48) (.tmp 53) 24 3 (.int .i64 0) 8 rfl Try.underlying24 info3 rfl (by decide) (by omega) u7 x7_1 (rd t221 x9_1) [.int .i64 (rd t221 x9_1)] (fun k_ => some k_ ≠ (.slice (some ad224) t221.length qe : Value).ownBlock) (fun _ => False) rfl rfl ?aP (fun _ hk => hk.elim) ?aF ?aO ?aB ?aS ?aL ?_; (case aP => exact rfl); (case aB => exact (q3_6)); (case aF => exact (fun k_ hk => Kd.fresh' (Kd.R_lt (ra q2.out)) k_ hk)); (case aO => exact (ra q1.out)); (case aS => exact (below_size (q3_6))); (case aL => have := LMc15.out; omega); intro v230 w19 ho hb hg hat; rw [← Ny229.out] at ho; have n0_ := q0_6 (Kd.R_after (ok := (fun _ => True)) (by refine ra ?_; exact Kd.R_mono q2.out (fun _ hk => ⟨trivial, hk⟩)) hg hat); have n1_ := q0_6 (hb); have n2_ := q0_6 (ho); clear q2; clear HB; clear q1; have q2 := n0_; have HB := n1_; have q9 := n2_; clear n0_ n1_ n2_; clear ho hb hg hat)))
               (go_roundg k1)
               case measure => have := HK1.out; omega
               case rel => exact ⟨(y229), (wrap64 (x9_1 + 1)), (by first | rfl | (simp; done) | (simp [*]; done)), H', ⟨by have := HK1.out; omega⟩, ⟨by refine ra ?_; exact q9.out⟩, ⟨by refine ra ?_; exact Kd.R_mono q2.out (fun _ hk => hk.2)⟩, ⟨by exact (q3_6)⟩⟩
             · rw [if_neg c15] at H
               exact absurd H (by simp)
           · rw [if_neg c14] at H
             (have c14b0 : decide (t225 < t227) = false := decide_eq_false c14); clear c14; (have H' := q0_6 H); clear H; obtain ⟨qg, qh, eo20⟩ := Kd.R_slice q2.out; subst eo20; (have p224 : 0 ≤ (x9_1 : Int) := of_decide_eq_true (by first | (with_reducible assumption) | assumption)); (have q224 : x9_1 < (t221.length : Int) := of_decide_eq_true (by first | (with_reducible assumption) | assumption)); obtain ⟨ad224, e224, hx224_0⟩ := Kd.at_int (Kd.R_reads' q2.out).2.2 x9_1 p224 q224
             cases e224
             replace p224 := eq_true p224; replace q224 := eq_true q224; (go_wp2_with (first | ((with_reducible refine gate_callee (f := 92) rfl ?_); refine goesL_ (some 29) rfl rfl Try.func92 (by kernel_rfl) rfl #[.slice A0 l0.length c0, .int .i64 a1, .int .i64 (rd t221 x9_1)] rfl ma ?_; (with_reducible refine (spec_PitchAt.calls k1 _ _ l0 a1 (rd t221 x9_1) t225 _ ?side1 ?side2 A10.out).mono ?_); (case side1 => exact ca (Kd.C_below HR0.out HB.out)); (case side2 => exact HC0.out); rintro e w21 ⟨rfl, hb⟩; refine ⟨_, rfl, ?_⟩; have n0_ := q0_6 (Kd.R_below (ra q1.out) hb); have n1_ := q0_6 (Kd.R_below (ra q2.out) hb); have n2_ := q0_6 (below_step (q3_6) hb); clear q1; clear q2; clear HB; have q1 := n0_; have q2 := n1_; have HB := n2_; clear n0_ n1_ n2_; (try clear hb); (try clear hb2); (try clear hk); (try clear hi); have p226 : 0 ≤ (x9_1 : Int) := of_decide_eq_true (by first | (with_reducible assumption) | assumption); have q226 : x9_1 < (t221.length : Int) := of_decide_eq_true (by first | (with_reducible assumption) | assumption); obtain ⟨ad226, e226, hx226_0⟩ := Kd.at_int (Kd.R_reads' q2.out).2.2 x9_1 p226 q226; obtain rfl : ad224 = ad226 := (by injection e226); replace p226 := eq_true p226; replace q226 := eq_true q226) | ((with_reducible refine gate_callee (f := 92) rfl ?_); refine goesL_ (some 36) rfl rfl Try.func92 (by kernel_rfl) rfl #[.slice A0 l0.length c0, .int .i64 a2, .int .i64 (rd t221 x9_1)] rfl ma ?_; (with_reducible refine (spec_PitchAt.calls k1 _ _ l0 a2 (rd t221 x9_1) t227 _ ?side1 ?side2 A11.out).mono ?_); (case side1 => exact ca (Kd.C_below HR0.out HB.out)); (case side2 => exact HC0.out); rintro e w22 ⟨rfl, hb⟩; refine ⟨_, rfl, ?_⟩; have n0_ := q0_6 (Kd.R_below (ra q1.out) hb); have n1_ := q0_6 (Kd.R_below (ra q2.out) hb); have n2_ := q0_6 (below_step (q3_6) hb); clear q1; clear q2; clear HB; have q1 := n0_; have q2 := n1_; have HB := n2_; clear n0_ n1_ n2_; (try clear hb); (try clear hb2); (try clear hk); (try clear hi)))); (go_roundg k1)
             case measure => have := HK1.out; omega
             case rel => exact ⟨(x7_1), (wrap64 (x9_1 + 1)), (by first | rfl | (simp; done) | (simp [*]; done)), H', ⟨by have := HK1.out; omega⟩, ⟨by refine ra ?_; exact q1.out⟩, ⟨by refine ra ?_; exact q2.out⟩, ⟨by exact (q3_6)⟩⟩
         · rw [if_neg c13] at H
           (have c13b0 : decide (0 < t227) = false := decide_eq_false c13); clear c13; (have H' := q0_6 H); clear H; obtain ⟨qi, qj, eo23⟩ := Kd.R_slice q2.out; subst eo23; (have p224 : 0 ≤ (x9_1 : Int) := of_decide_eq_true (by first | (with_reducible assumption) | assumption)); (have q224 : x9_1 < (t221.length : Int) := of_decide_eq_true (by first | (with_reducible assumption) | assumption)); obtain ⟨ad224, e224, hx224_0⟩ := Kd.at_int (Kd.R_reads' q2.out).2.2 x9_1 p224 q224
           cases e224
           replace p224 := eq_true p224; replace q224 := eq_true q224; (go_wp2_with (first | ((with_reducible refine gate_callee (f := 92) rfl ?_); refine goesL_ (some 29) rfl rfl Try.func92 (by kernel_rfl) rfl #[.slice A0 l0.length c0, .int .i64 a1, .int .i64 (rd t221 x9_1)] rfl ma ?_; (with_reducible refine (spec_PitchAt.calls k1 _ _ l0 a1 (rd t221 x9_1) t225 _ ?side1 ?side2 A10.out).mono ?_); (case side1 => exact ca (Kd.C_below HR0.out HB.out)); (case side2 => exact HC0.out); rintro e w24 ⟨rfl, hb⟩; refine ⟨_, rfl, ?_⟩; have n0_ := q0_6 (Kd.R_below (ra q1.out) hb); have n1_ := q0_6 (Kd.R_below (ra q2.out) hb); have n2_ := q0_6 (below_step (q3_6) hb); clear q1; clear q2; clear HB; have q1 := n0_; have q2 := n1_; have HB := n2_; clear n0_ n1_ n2_; (try clear hb); (try clear hb2); (try clear hk); (try clear hi); have p226 : 0 ≤ (x9_1 : Int) := of_decide_eq_true (by first | (with_reducible assumption) | assumption); have q226 : x9_1 < (t221.length : Int) := of_decide_eq_true (by first | (with_reducible assumption) | assumption); obtain ⟨ad226, e226, hx226_0⟩ := Kd.at_int (Kd.R_reads' q2.out).2.2 x9_1 p226 q226; obtain rfl : ad224 = ad226 := (by injection e226); replace p226 := eq_true p226; replace q226 := eq_true q226) | ((with_reducible refine gate_callee (f := 92) rfl ?_); refine goesL_ (some 36) rfl rfl Try.func92 (by kernel_rfl) rfl #[.slice A0 l0.length c0, .int .i64 a2, .int .i64 (rd t221 x9_1)] rfl ma ?_; (with_reducible refine (spec_PitchAt.calls k1 _ _ l0 a2 (rd t221 x9_1) t227 _ ?side1 ?side2 A11.out).mono ?_); (case side1 => exact ca (Kd.C_below HR0.out HB.out)); (case side2 => exact HC0.out); rintro e w25 ⟨rfl, hb⟩; refine ⟨_, rfl, ?_⟩; have n0_ := q0_6 (Kd.R_below (ra q1.out) hb); have n1_ := q0_6 (Kd.R_below (ra q2.out) hb); have n2_ := q0_6 (below_step (q3_6) hb); clear q1; clear q2; clear HB; have q1 := n0_; have q2 := n1_; have HB := n2_; clear n0_ n1_ n2_; (try clear hb); (try clear hb2); (try clear hk); (try clear hi)))); (go_roundg k1)
           case measure => have := HK1.out; omega
           case rel => exact ⟨(x7_1), (wrap64 (x9_1 + 1)), (by first | rfl | (simp; done) | (simp [*]; done)), H', ⟨by have := HK1.out; omega⟩, ⟨by refine ra ?_; exact q1.out⟩, ⟨by refine ra ?_; exact q2.out⟩, ⟨by exact (q3_6)⟩⟩
       · rw [if_neg c12] at H
         (have c12b0 : decide (0 < t225) = false := decide_eq_false c12); clear c12; (have H' := q0_6 H); clear H; obtain ⟨qk, ql, eo26⟩ := Kd.R_slice q2.out; subst eo26; (have p224 : 0 ≤ (x9_1 : Int) := of_decide_eq_true (by first | (with_reducible assumption) | assumption)); (have q224 : x9_1 < (t221.length : Int) := of_decide_eq_true (by first | (with_reducible assumption) | assumption)); obtain ⟨ad224, e224, hx224_0⟩ := Kd.at_int (Kd.R_reads' q2.out).2.2 x9_1 p224 q224
         cases e224
         replace p224 := eq_true p224; replace q224 := eq_true q224; (go_wp2_with (first | ((with_reducible refine gate_callee (f := 92) rfl ?_); refine goesL_ (some 29) rfl rfl Try.func92 (by kernel_rfl) rfl #[.slice A0 l0.length c0, .int .i64 a1, .int .i64 (rd t221 x9_1)] rfl ma ?_; (with_reducible refine (spec_PitchAt.calls k1 _ _ l0 a1 (rd t221 x9_1) t225 _ ?side1 ?side2 A10.out).mono ?_); (case side1 => exact ca (Kd.C_below HR0.out HB.out)); (case side2 => exact HC0.out); rintro e w27 ⟨rfl, hb⟩; refine ⟨_, rfl, ?_⟩; have n0_ := q0_6 (Kd.R_below (ra q1.out) hb); have n1_ := q0_6 (Kd.R_below (ra q2.out) hb); have n2_ := q0_6 (below_step (q3_6) hb); clear q1; clear q2; clear HB; have q1 := n0_; have q2 := n1_; have HB := n2_; clear n0_ n1_ n2_; (try clear hb); (try clear hb2); (try clear hk); (try clear hi); have p226 : 0 ≤ (x9_1 : Int) := of_decide_eq_true (by first | (with_reducible assumption) | assumption); have q226 : x9_1 < (t221.length : Int) := of_decide_eq_true (by first | (with_reducible assumption) | assumption); obtain ⟨ad226, e226, hx226_0⟩ := Kd.at_int (Kd.R_reads' q2.out).2.2 x9_1 p226 q226; obtain rfl : ad224 = ad226 := (by injection e226); replace p226 := eq_true p226; replace q226 := eq_true q226) | ((with_reducible refine gate_callee (f := 92) rfl ?_); refine goesL_ (some 36) rfl rfl Try.func92 (by kernel_rfl) rfl #[.slice A0 l0.length c0, .int .i64 a2, .int .i64 (rd t221 x9_1)] rfl ma ?_; (with_reducible refine (spec_PitchAt.calls k1 _ _ l0 a2 (rd t221 x9_1) t227 _ ?side1 ?side2 A11.out).mono ?_); (case side1 => exact ca (Kd.C_below HR0.out HB.out)); (case side2 => exact HC0.out); rintro e w28 ⟨rfl, hb⟩; refine ⟨_, rfl, ?_⟩; have n0_ := q0_6 (Kd.R_below (ra q1.out) hb); have n1_ := q0_6 (Kd.R_below (ra q2.out) hb); have n2_ := q0_6 (below_step (q3_6) hb); clear q1; clear q2; clear HB; have q1 := n0_; have q2 := n1_; have HB := n2_; clear n0_ n1_ n2_; (try clear hb); (try clear hb2); (try clear hk); (try clear hi)))); (go_roundg k1)
         case measure => have := HK1.out; omega
         case rel => exact ⟨(x7_1), (wrap64 (x9_1 + 1)), (by first | rfl | (simp; done) | (simp [*]; done)), H', ⟨by have := HK1.out; omega⟩, ⟨by refine ra ?_; exact q1.out⟩, ⟨by refine ra ?_; exact q2.out⟩, ⟨by exact (q3_6)⟩⟩
     · rw [if_neg c9] at H
       exact absurd H (by simp)
   · rw [if_neg c8] at H
     (have c8b0 : decide (x9_1 < (t221.length : Int)) = false := decide_eq_false c8); clear c8; obtain rfl := Option.some.inj H; obtain ⟨qm, qn, eo29⟩ := Kd.R_slice q2.out; subst eo29; (go_wp2); go_ret; (exact ⟨_, by first | rfl | (simp [errW_none, errW_some] <;> rfl) | (simp [*, errW_none, errW_some] <;> rfl), by refine ra ?_; exact Kd.R_mono q1.out (fun _ hk => trivial), by exact (q3_6)⟩)
end Go.Proofs.Ytlkcbmcbmanmiaa.PFnExactFaultsIn
