-- Written for this claim by a program of this repository (wip/tools/print2.py), out of the translation; Lean checks it.
import Derived.Test.YtlkcbmcbmanmiaaPFnExactPlayAlongx0
import Derived.Test.YtlkcbmcbmanmiaaPFnExactPlayAlongx3
import Derived.Test.YtlkcbmcbmanmiaaPFnExactPlayAlongx4
import Derived.Test.YtlkcbmcbmanmiaaPFnExactPlayAlongx6
import Derived.Test.YtlkcbmcbmanmiaaPFnExactPlayAlongx7
namespace Go.Proofs.Ytlkcbmcbmanmiaa.PFnExactPlayAlong
open Go.RowKit Go.Proofs.YtlkcbmcbmanmiaaW.PrintWords Go.Proofs.YtlkcbmcbmanmiaaW.PrintLast Go.Proofs.YtlkcbmcbmanmiaaW.PrintMore
attribute [local go_sem] max2_int min2_int max_two min_two max_three min_three max_four min_four   -- for this text's walks alone
set_option linter.unusedVariables false
set_option linter.unusedSimpArgs false
-- SHORT
theorem qp_8 {p : Prop} (f : p := by repeat (first | (with_reducible first | exact HB.out | apply below_alloc | apply pw_below_drewN | apply below_drew1) | exact HB.out)) : p := f
theorem qm_8 {p : Prop} (f : p := by repeat (first | (with_reducible first | exact HB.out | apply below_alloc | apply pw_below_drewN | apply below_drew1 | refine below_set ?_ qw.out) | exact HB.out)) : p := f
theorem q7_8 {p : Prop} (f : p := by repeat (first | (with_reducible first | exact HB.out | apply below_alloc | apply pw_below_drewN | apply below_drew1 | refine below_set ?_ qw.out | refine below_set ?_ qx.out) | exact HB.out)) : p := f
theorem q0_8 {p : Prop} (h : p) : Aside0 p := ⟨h⟩
/-! ### spec_DueEvents: function 112 -/
mutual
def spec_DueEvents.l0 : Nat → List (S81) → Int → Int → Int → List (S81) → Int → Option ((List (S81)))
 | 0, _, _, _, _, _, _ => none
 | k + 1, x0, x1, x2, x3, x9, x10 => if x10 < (x0.length : Int) then ((spec_IsScore.f k x0).bind fun t223 => (spec_DueEvents.j1 k x0 x1 x2 x3 x9 x10 t223)) else (spec_DueEvents.j1 k x0 x1 x2 x3 x9 x10 false)
def spec_DueEvents.j1 : Nat → List (S81) → Int → Int → Int → List (S81) → Int → Bool → Option ((List (S81)))
 | 0, _, _, _, _, _, _, _ => none
 | k + 1, x0, x1, x2, x3, x9, x10, x19 => if x19 = true then (if 0 ≤ x10 then (if x10 < (x0.length : Int) then (if ((rd_T81 x0 x10).f3) = x1 then (spec_DueEvents.l0 k x0 x1 x2 x3 x9 (wrap64 (x10 + 1))) else (if ((rd_T81 x0 x10).f0) > x2 then (if ((rd_T81 x0 x10).f0) ≤ x3 then (if x9.length < 4398046511104 then (spec_DueEvents.l0 k x0 x1 x2 x3 (x9 ++ [(⟨(rd_T81 x0 x10).f0, (rd_T81 x0 x10).f1, (rd_T81 x0 x10).f2, (rd_T81 x0 x10).f3⟩ : S81)]) (wrap64 (x10 + 1))) else (none)) else (spec_DueEvents.l0 k x0 x1 x2 x3 x9 (wrap64 (x10 + 1)))) else (spec_DueEvents.l0 k x0 x1 x2 x3 x9 (wrap64 (x10 + 1))))) else (none)) else (none)) else (some x9)
end
def spec_DueEvents.f (k : Nat) (l0 : List (S81)) (a1 : Int) (a2 : Int) (a3 : Int) : Option ((List (S81))) := spec_DueEvents.l0 k l0 a1 a2 a3 (([] : List (S81))) 0
theorem spec_DueEvents.mono_l : ∀ k, (∀ y0 y1 y2 y3 y4 y5, LeO (spec_DueEvents.l0 k y0 y1 y2 y3 y4 y5) (spec_DueEvents.l0 (k + 1) y0 y1 y2 y3 y4 y5)) ∧ (∀ y0 y1 y2 y3 y4 y5 y6, LeO (spec_DueEvents.j1 k y0 y1 y2 y3 y4 y5 y6) (spec_DueEvents.j1 (k + 1) y0 y1 y2 y3 y4 y5 y6))
 | 0 => ⟨fun _ _ _ _ _ _ r h => by simp [spec_DueEvents.l0] at h, fun _ _ _ _ _ _ _ r h => by simp [spec_DueEvents.j1] at h⟩
 | k + 1 => by
  obtain ⟨ih0, ih1⟩ := spec_DueEvents.mono_l k; refine ⟨?_, ?_⟩
  · intro y0 y1 y2 y3 y4 y5
    unfold spec_DueEvents.l0
    repeat' first
    | (with_reducible exact ih0 _ _ _ _ _ _)
    | (with_reducible exact ih1 _ _ _ _ _ _ _)
    | (with_reducible exact spec_IsScore.mono _ _)
    | (with_reducible exact LeO.refl _)
    | (with_reducible exact LeO.none _)
    | (with_reducible refine LeO.ite ?_ ?_)
    | (with_reducible refine LeO.bind ?_ (fun _ => ?_))
    | exact ih0 _ _ _ _ _ _
    | exact ih1 _ _ _ _ _ _ _
    | exact spec_IsScore.mono _ _
    | exact LeO.none _
    | refine LeO.ite ?_ ?_
    | refine LeO.bind ?_ (fun _ => ?_)
  · intro y0 y1 y2 y3 y4 y5 y6
    unfold spec_DueEvents.j1
    repeat' first
    | (with_reducible exact ih0 _ _ _ _ _ _)
    | (with_reducible exact ih1 _ _ _ _ _ _ _)
    | (with_reducible exact spec_IsScore.mono _ _)
    | (with_reducible exact LeO.refl _)
    | (with_reducible exact LeO.none _)
    | (with_reducible refine LeO.ite ?_ ?_)
    | (with_reducible refine LeO.bind ?_ (fun _ => ?_))
    | exact ih0 _ _ _ _ _ _
    | exact ih1 _ _ _ _ _ _ _
    | exact spec_IsScore.mono _ _
    | exact LeO.none _
    | refine LeO.ite ?_ ?_
    | refine LeO.bind ?_ (fun _ => ?_)
theorem spec_DueEvents.mono : ∀ a0 a1 a2 a3 k, LeO (spec_DueEvents.f k a0 a1 a2 a3) (spec_DueEvents.f (k + 1) a0 a1 a2 a3) := by
 intro a0 a1 a2 a3 k; obtain ⟨ih0, ih1⟩ := spec_DueEvents.mono_l k; unfold spec_DueEvents.f
 repeat' first
  | (with_reducible exact ih0 _ _ _ _ _ _)
  | (with_reducible exact ih1 _ _ _ _ _ _ _)
  | (with_reducible exact spec_IsScore.mono _ _)
  | (with_reducible exact LeO.refl _)
  | (with_reducible exact LeO.none _)
  | (with_reducible refine LeO.ite ?_ ?_)
  | (with_reducible refine LeO.bind ?_ (fun _ => ?_))
  | exact ih0 _ _ _ _ _ _
  | exact ih1 _ _ _ _ _ _ _
  | exact spec_IsScore.mono _ _
  | exact LeO.none _
  | refine LeO.ite ?_ ?_
  | refine LeO.bind ?_ (fun _ => ?_)
set_option maxHeartbeats 8000000 in
set_option maxRecDepth 100000 in
theorem spec_DueEvents.calls (k : Nat) (A0 : Option Addr) (c0 : Nat) (l0 : List (S81)) (a1 : Int) (a2 : Int) (a3 : Int) (r : List (S81)) (w : World) (hr0 : Kd.C k81 w A0 l0.length l0) (hc0 : l0.length ≤ c0) (h : spec_DueEvents.f k l0 a1 a2 a3 = some r) :
 Calls Try.prog 112 #[.slice A0 l0.length c0, .int .i64 a1, .int .i64 a2, .int .i64 a3] w fun e w' => ∃ v0_ : Value, e = .returned (v0_) ∧ Kd.R k81 81 w' w.heap.size (fun _ => True) v0_ r ∧ Below w.heap.size w w' := by
 have hu81 := Try.underlying81; have HR0 := q0_8 hr0; have HC0 := q0_8 hc0; clear hr0 hc0; have HB := q0_8 (Below.refl w.heap.size w); (have H : (spec_DueEvents.l0 k l0 a1 a2 a3 (([] : List (S81))) 0) = some r := h); clear h; obtain ⟨y220, hy220⟩ : ∃ y_ : List (S81), y_ = (([] : List (S81))) := ⟨_, rfl⟩; (replace H : (spec_DueEvents.l0 k l0 a1 a2 a3 y220 0) = some r := by first | (rw [hy220]; with_reducible exact H) | (have H2_ := (Option.bind_some _ _).symm.trans H; rw [hy220]; with_reducible exact H2_) | (have H2_ := (Option.bind_some _ _).symm.trans H; with_reducible exact H2_) | with_reducible exact H | (rw [hy220]; exact H) | exact H); have Ny220 := q0_8 hy220; clear hy220; (have H' := q0_8 H); clear H; go_enter Try.func112, Try.ntmps112; (go_wp2_with (first | ((with_reducible refine gate_dst (N := 11) rfl ?_); refine Kd.R_lit k81 _ 81 ?hg (N := 11) ?hd (xs := ([] : List (S81))) (inner := []) (ok := fun _ => True) (okp := fun _ => True) ?hr ?hp (fun _ hk => hk) trivial (Below.refl _ _) (Nat.le_refl _) (by simp) ?_; (case hd => rfl); (case hg => rfl); (case hr => first | (go_simp; done) | (go_simp; rfl)); (case hp => exact (Reps.none _ _)); intro v221 w5 ho6 hb hg_ hnew_; clear hg_ hnew_; (first | rw [← Ny220.out] at ho6 | (simp only [Int.reduceToNat] at ho6; rw [← Ny220.out] at ho6)); have n0_ := q0_8 (Kd.R_lower ho6 (below_size (qp_8))); have n1_ := q0_8 (below_step (qp_8) hb); clear HB; have qs := n0_; have HB := n1_; clear n0_ n1_; clear hb ho6))); (go_loopg [9, 10] k (fun kq v9 v10 w' => ∃ (x9_1 : List (S81)) (x10_1 : Int), v10 = .int .i64 x10_1 ∧ Aside0 (spec_DueEvents.l0 kq l0 a1 a2 a3 x9_1 x10_1 = some r) ∧ Aside0 (kq ≤ k) ∧ Aside0 (Kd.R k81 81 w' w.heap.size (fun _ => True) v9 x9_1) ∧ Aside0 (Below w.heap.size w w')))
 case atStart => exact ⟨(y220), (0), (by first | rfl | (simp; done) | (simp [*]; done)), H', ⟨Nat.le_refl _⟩, ⟨by refine ra ?_; exact qs.out⟩, ⟨by exact (qp_8)⟩⟩
 case round =>
  clear H'; (try clear c1); (try clear p2); obtain ⟨x9_1, x10_1, rfl, HA, HK1, ql, HB⟩ := hrel
  cases gk with
  | zero => exact absurd HA.out (by simp [spec_DueEvents.l0])
  | succ k1 =>
   have H := HA.out; clear HA; (simp only [spec_DueEvents.l0] at H); have HC7 := q0_8 H; clear H; (go_upto_region 3 with (fail)); (go_cut [19] (fun v19 wc => ∃ (kq : Nat) (x19_6 : Bool), v19 = .bool x19_6 ∧ Aside0 (spec_DueEvents.j1 kq l0 a1 a2 a3 x9_1 x10_1 x19_6 = some r) ∧ Aside0 (kq ≤ k1) ∧ Aside0 (Kd.R k81 81 wc w.heap.size (fun _ => True) u9 x9_1) ∧ Aside0 (Below w.heap.size w wc)))
   case first =>
    have H := HC7.out; clear HC7
    by_cases c8 : x10_1 < (l0.length : Int)
    · rw [if_pos c8] at H
      (have c8b0 : decide (x10_1 < (l0.length : Int)) = true := decide_eq_true c8); clear c8; ((first | rw [c8b0] | (simp only [i64_w, i32_w]; rw [c8b0]) | skip)); replace H := Option.bind_eq_some_iff.mp H; obtain ⟨t223, A90, H⟩ := H; replace H : (spec_DueEvents.j1 k1 l0 a1 a2 a3 x9_1 x10_1 t223) = some r := H; have A9 := q0_8 A90; clear A90; (have H' := q0_8 H); clear H; (go_wp2_with (first | (go_at_call 64; (with_reducible refine (spec_IsScore.calls k1 _ _ l0 t223 _ ?side1 ?side2 A9.out).mono ?_); (case side1 => exact ca (Kd.C_below HR0.out HB.out)); (case side2 => exact HC0.out); rintro e w10 ⟨rfl, hb⟩; have n0_ := q0_8 (Kd.R_below (ra ql.out) hb); have n1_ := q0_8 (below_step (qp_8) hb); clear ql; clear HB; have ql := n0_; have HB := n1_; clear n0_ n1_; (try clear hb); (try clear hb2); (try clear hk); (try clear hi)))); (go_meet)
      case rel => exact ⟨_, (t223), (by first | rfl | (simp; done) | (simp [*]; done)), H', ⟨by have := HK1.out; first | omega | exact Nat.le_refl _⟩, ⟨by refine ra ?_; exact ql.out⟩, ⟨by exact (qp_8)⟩⟩
    · rw [if_neg c8] at H
      (have c8b0 : decide (x10_1 < (l0.length : Int)) = false := decide_eq_false c8); clear c8; ((first | rw [c8b0] | (simp only [i64_w, i32_w]; rw [c8b0]) | skip)); (have H' := q0_8 H); clear H; (go_wp2); (go_meet)
      case rel => exact ⟨_, (false), (by first | rfl | (simp; done) | (simp [*]; done)), H', ⟨by have := HK1.out; first | omega | exact Nat.le_refl _⟩, ⟨by refine ra ?_; exact ql.out⟩, ⟨by exact (qp_8)⟩⟩
   case rest =>
    clear HC7; (try clear c1); (try clear p2); (try clear c8); (try clear c8b0); (try clear p2); obtain ⟨kq, x19_6, rfl, HA, HJ6, ql, HB⟩ := hcut
    cases kq with
    | zero => exact absurd HA.out (by simp [spec_DueEvents.j1])
    | succ kj6 =>
     have H := HA.out; clear HA; (simp only [spec_DueEvents.j1] at H)
     by_cases c11 : x19_6 = true
     · subst c11
       have H1 : (if 0 ≤ x10_1 then (if x10_1 < (l0.length : Int) then (if ((rd_T81 l0 x10_1).f3) = a1 then (spec_DueEvents.l0 kj6 l0 a1 a2 a3 x9_1 (wrap64 (x10_1 + 1))) else (if ((rd_T81 l0 x10_1).f0) > a2 then (if ((rd_T81 l0 x10_1).f0) ≤ a3 then (if x9_1.length < 4398046511104 then (spec_DueEvents.l0 kj6 l0 a1 a2 a3 (x9_1 ++ [(⟨(rd_T81 l0 x10_1).f0, (rd_T81 l0 x10_1).f1, (rd_T81 l0 x10_1).f2, (rd_T81 l0 x10_1).f3⟩ : S81)]) (wrap64 (x10_1 + 1))) else (none)) else (spec_DueEvents.l0 kj6 l0 a1 a2 a3 x9_1 (wrap64 (x10_1 + 1)))) else (spec_DueEvents.l0 kj6 l0 a1 a2 a3 x9_1 (wrap64 (x10_1 + 1))))) else (none)) else (none)) = some r := by rw [if_pos rfl] at H; exact H
       clear H; have H := H1; clear H1
       by_cases c12 : 0 ≤ x10_1
       · rw [if_pos c12] at H
         (have c12b0 : decide (0 ≤ x10_1) = true := decide_eq_true c12); clear c12
         by_cases c13 : x10_1 < (l0.length : Int)
         · rw [if_pos c13] at H
           (have c13b0 : decide (x10_1 < (l0.length : Int)) = true := decide_eq_true c13); clear c13
           by_cases c14 : ((rd_T81 l0 x10_1).f3) = a1
           · rw [if_pos c14] at H
             (have c14b0 : (((rd_T81 l0 x10_1).f3) == a1) = true := beq_iff_eq.mpr c14); (have c14b1 : (((rd_T81 l0 x10_1).f3) != a1) = false := bne_eq_false_iff_eq.mpr c14); clear c14; (have H' := q0_8 H); clear H; (have p224 : 0 ≤ (x10_1 : Int) := of_decide_eq_true (by first | (with_reducible assumption) | assumption)); (have q224 : x10_1 < (l0.length : Int) := of_decide_eq_true (by first | (with_reducible assumption) | assumption)); obtain ⟨ad224, e224, hx224_0, hx224_1, hx224_2, hx224_3⟩ := at_T81 HR0.out x10_1 p224 q224
             cases e224
             replace hx224_0 := (HB.out.cell (World.block_lt_of_cell? w _ hx224_0)).trans hx224_0; replace hx224_1 := (HB.out.cell (World.block_lt_of_cell? w _ hx224_1)).trans hx224_1; replace hx224_2 := (HB.out.cell (World.block_lt_of_cell? w _ hx224_2)).trans hx224_2; replace hx224_3 := (HB.out.cell (World.block_lt_of_cell? w _ hx224_3)).trans hx224_3; replace p224 := eq_true p224; replace q224 := eq_true q224; (go_wp2); (go_roundg kj6)
             case measure => have := HK1.out; have := HJ6.out; omega
             case rel => exact ⟨(x9_1), (wrap64 (x10_1 + 1)), (by first | rfl | (simp; done) | (simp [*]; done)), H', ⟨by have := HK1.out; have := HJ6.out; omega⟩, ⟨by refine ra ?_; exact ql.out⟩, ⟨by exact (qp_8)⟩⟩
           · rw [if_neg c14] at H
             (have c14b0 : (((rd_T81 l0 x10_1).f3) == a1) = false := beq_eq_false_iff_ne.mpr c14); (have c14b1 : (((rd_T81 l0 x10_1).f3) != a1) = true := bne_iff_ne.mpr c14)
             by_cases c15 : ((rd_T81 l0 x10_1).f0) > a2
             · rw [if_pos c15] at H
               (have c15b0 : decide (a2 < ((rd_T81 l0 x10_1).f0)) = true := decide_eq_true c15); clear c15
               by_cases c16 : ((rd_T81 l0 x10_1).f0) ≤ a3
               · rw [if_pos c16] at H
                 (have c16b0 : decide (((rd_T81 l0 x10_1).f0) ≤ a3) = true := decide_eq_true c16); clear c16
                 by_cases c17 : x9_1.length < 4398046511104
                 · rw [if_pos c17] at H
                   have LMc17 := q0_8 c17; clear c17; obtain ⟨y228, hy228⟩ : ∃ y_ : List (S81), y_ = (x9_1 ++ [(⟨(rd_T81 l0 x10_1).f0, (rd_T81 l0 x10_1).f1, (rd_T81 l0 x10_1).f2, (rd_T81 l0 x10_1).f3⟩ : S81)]) := ⟨_, rfl⟩; (replace H : (spec_DueEvents.l0 kj6 l0 a1 a2 a3 y228 (wrap64 (x10_1 + 1))) = some r := by first | (rw [hy228]; with_reducible exact H) | (have H2_ := (Option.bind_some _ _).symm.trans H; rw [hy228]; with_reducible exact H2_) | (have H2_ := (Option.bind_some _ _).symm.trans H; with_reducible exact H2_) | with_reducible exact H | (rw [hy228]; exact H) | exact H); have Ny228 := q0_8 hy228; clear hy228; (have H' := q0_8 H); clear H; (have p224 : 0 ≤ (x10_1 : Int) := of_decide_eq_true (by first | (with_reducible assumption) | assumption)); (have q224 : x10_1 < (l0.length : Int) := of_decide_eq_true (by first | (with_reducible assumption) | assumption)); obtain ⟨ad224, e224, hx224_0, hx224_1, hx224_2, hx224_3⟩ := at_T81 HR0.out x10_1 p224 q224
                   cases e224
                   replace hx224_0 := (HB.out.cell (World.block_lt_of_cell? w _ hx224_0)).trans hx224_0; replace hx224_1 := (HB.out.cell (World.block_lt_of_cell? w _ hx224_1)).trans hx224_1; replace hx224_2 := (HB.out.cell (World.block_lt_of_cell? w _ hx224_2)).trans hx224_2; replace hx224_3 := (HB.out.cell (World.block_lt_of_cell? w _ hx224_3)).trans hx224_3; replace p224 := eq_true p224; replace q224 := eq_true q224; (have p225 : 0 ≤ (x10_1 : Int) := of_decide_eq_true (by first | (with_reducible assumption) | assumption)); (have q225 : x10_1 < (l0.length : Int) := of_decide_eq_true (by first | (with_reducible assumption) | assumption)); obtain ⟨ad225, e225, hx225_0, hx225_1, hx225_2, hx225_3⟩ := at_T81 HR0.out x10_1 p225 q225; obtain rfl : ad224 = ad225 := (by injection e225); replace hx225_0 := (HB.out.cell (World.block_lt_of_cell? w _ hx225_0)).trans hx225_0; replace hx225_1 := (HB.out.cell (World.block_lt_of_cell? w _ hx225_1)).trans hx225_1; replace hx225_2 := (HB.out.cell (World.block_lt_of_cell? w _ hx225_2)).trans hx225_2; replace hx225_3 := (HB.out.cell (World.block_lt_of_cell? w _ hx225_3)).trans hx225_3; replace p225 := eq_true p225; replace q225 := eq_true q225; (have p226 : 0 ≤ (x10_1 : Int) := of_decide_eq_true (by first | (with_reducible assumption) | assumption)); (have q226 : x10_1 < (l0.length : Int) := of_decide_eq_true (by first | (with_reducible assumption) | assumption)); obtain ⟨ad226, e226, hx226_0, hx226_1, hx226_2, hx226_3⟩ := at_T81 HR0.out x10_1 p226 q226; obtain rfl : ad224 = ad226 := (by injection e226); replace hx226_0 := (HB.out.cell (World.block_lt_of_cell? w _ hx226_0)).trans hx226_0; replace hx226_1 := (HB.out.cell (World.block_lt_of_cell? w _ hx226_1)).trans hx226_1; replace hx226_2 := (HB.out.cell (World.block_lt_of_cell? w _ hx226_2)).trans hx226_2; replace hx226_3 := (HB.out.cell (World.block_lt_of_cell? w _ hx226_3)).trans hx226_3; replace p226 := eq_true p226; replace q226 := eq_true q226; (have p227 : 0 ≤ (x10_1 : Int) := of_decide_eq_true (by first | (with_reducible assumption) | assumption)); (have q227 : x10_1 < (l0.length : Int) := of_decide_eq_true (by first | (with_reducible assumption) | assumption)); obtain ⟨ad227, e227, hx227_0, hx227_1, hx227_2, hx227_3⟩ := at_T81 HR0.out x10_1 p227 q227; obtain rfl : ad224 = ad227 := (by injection e227); replace hx227_0 := (HB.out.cell (World.block_lt_of_cell? w _ hx227_0)).trans hx227_0; replace hx227_1 := (HB.out.cell (World.block_lt_of_cell? w _ hx227_1)).trans hx227_1; replace hx227_2 := (HB.out.cell (World.block_lt_of_cell? w _ hx227_2)).trans hx227_2; replace hx227_3 := (HB.out.cell (World.block_lt_of_cell? w _ hx227_3)).trans hx227_3; replace p227 := eq_true p227; replace q227 := eq_true q227
                   (go_wp2_with (first | ((with_reducible refine gate_builtin (b := .append) (xs := #[.tmp 47, .tmp 52]) rfl ?_); at_builtin; refine Kd.R_append k81 (w0 := w) w.heap.size rfl (.tmp 47) (.tmp 52) 26 81 (.agg #[(.int .i64 0), (.int .i64 0), (.int .i64 0), (.int .i64 0)]) 32 rfl Try.underlying26 info81 rfl (by decide) (by omega) u9 x9_1 (⟨(rd_T81 l0 x10_1).f0, (rd_T81 l0 x10_1).f1, (rd_T81 l0 x10_1).f2, (rd_T81 l0 x10_1).f3⟩ : S81) [.int .i64 ((rd_T81 l0 x10_1).f0), .int .i64 ((rd_T81 l0 x10_1).f1), .int .i64 ((rd_T81 l0 x10_1).f2), .int .i64 ((rd_T81 l0 x10_1).f3)] (fun _ => True) (fun _ => False) rfl rfl ?aP (fun _ hk => hk.elim) ?aF ?aO ?aB ?aS ?aL ?_; (case aP => exact k81_mkM _ _ _ (⟨(rd_T81 l0 x10_1).f0, (rd_T81 l0 x10_1).f1, (rd_T81 l0 x10_1).f2, (rd_T81 l0 x10_1).f3⟩ : S81)); (case aB => exact (qp_8)); (case aF => exact (fun _ _ => trivial)); (case aO => exact (ra ql.out)); (case aS => exact (below_size (qp_8))); (case aL => have := LMc17.out; omega); intro v229 w18 ho hb hg hat; rw [← Ny228.out] at ho; have n0_ := q0_8 (hb); have n1_ := q0_8 (ho); clear HB; clear ql; have HB := n0_; have qt := n1_; clear n0_ n1_; clear ho hb hg hat))); (go_roundg kj6)
                   case measure => have := HK1.out; have := HJ6.out; omega
                   case rel => exact ⟨(y228), (wrap64 (x10_1 + 1)), (by first | rfl | (simp; done) | (simp [*]; done)), H', ⟨by have := HK1.out; have := HJ6.out; omega⟩, ⟨by refine ra ?_; exact qt.out⟩, ⟨by exact (qp_8)⟩⟩
                 · rw [if_neg c17] at H
                   exact absurd H (by simp)
               · rw [if_neg c16] at H
                 (have c16b0 : decide (((rd_T81 l0 x10_1).f0) ≤ a3) = false := decide_eq_false c16); clear c16; (have H' := q0_8 H); clear H; (have p224 : 0 ≤ (x10_1 : Int) := of_decide_eq_true (by first | (with_reducible assumption) | assumption)); (have q224 : x10_1 < (l0.length : Int) := of_decide_eq_true (by first | (with_reducible assumption) | assumption)); obtain ⟨ad224, e224, hx224_0, hx224_1, hx224_2, hx224_3⟩ := at_T81 HR0.out x10_1 p224 q224
                 cases e224
                 replace hx224_0 := (HB.out.cell (World.block_lt_of_cell? w _ hx224_0)).trans hx224_0; replace hx224_1 := (HB.out.cell (World.block_lt_of_cell? w _ hx224_1)).trans hx224_1; replace hx224_2 := (HB.out.cell (World.block_lt_of_cell? w _ hx224_2)).trans hx224_2; replace hx224_3 := (HB.out.cell (World.block_lt_of_cell? w _ hx224_3)).trans hx224_3; replace p224 := eq_true p224; replace q224 := eq_true q224; (have p225 : 0 ≤ (x10_1 : Int) := of_decide_eq_true (by first | (with_reducible assumption) | assumption)); (have q225 : x10_1 < (l0.length : Int) := of_decide_eq_true (by first | (with_reducible assumption) | assumption)); obtain ⟨ad225, e225, hx225_0, hx225_1, hx225_2, hx225_3⟩ := at_T81 HR0.out x10_1 p225 q225; obtain rfl : ad224 = ad225 := (by injection e225); replace hx225_0 := (HB.out.cell (World.block_lt_of_cell? w _ hx225_0)).trans hx225_0; replace hx225_1 := (HB.out.cell (World.block_lt_of_cell? w _ hx225_1)).trans hx225_1; replace hx225_2 := (HB.out.cell (World.block_lt_of_cell? w _ hx225_2)).trans hx225_2; replace hx225_3 := (HB.out.cell (World.block_lt_of_cell? w _ hx225_3)).trans hx225_3; replace p225 := eq_true p225; replace q225 := eq_true q225; (have p226 : 0 ≤ (x10_1 : Int) := of_decide_eq_true (by first | (with_reducible assumption) | assumption)); (have q226 : x10_1 < (l0.length : Int) := of_decide_eq_true (by first | (with_reducible assumption) | assumption)); obtain ⟨ad226, e226, hx226_0, hx226_1, hx226_2, hx226_3⟩ := at_T81 HR0.out x10_1 p226 q226; obtain rfl : ad224 = ad226 := (by injection e226); replace hx226_0 := (HB.out.cell (World.block_lt_of_cell? w _ hx226_0)).trans hx226_0; replace hx226_1 := (HB.out.cell (World.block_lt_of_cell? w _ hx226_1)).trans hx226_1; replace hx226_2 := (HB.out.cell (World.block_lt_of_cell? w _ hx226_2)).trans hx226_2; replace hx226_3 := (HB.out.cell (World.block_lt_of_cell? w _ hx226_3)).trans hx226_3; replace p226 := eq_true p226; replace q226 := eq_true q226; (go_wp2); (go_roundg kj6)
                 case measure => have := HK1.out; have := HJ6.out; omega
                 case rel => exact ⟨(x9_1), (wrap64 (x10_1 + 1)), (by first | rfl | (simp; done) | (simp [*]; done)), H', ⟨by have := HK1.out; have := HJ6.out; omega⟩, ⟨by refine ra ?_; exact ql.out⟩, ⟨by exact (qp_8)⟩⟩
             · rw [if_neg c15] at H
               (have c15b0 : decide (a2 < ((rd_T81 l0 x10_1).f0)) = false := decide_eq_false c15); clear c15; (have H' := q0_8 H); clear H; (have p224 : 0 ≤ (x10_1 : Int) := of_decide_eq_true (by first | (with_reducible assumption) | assumption)); (have q224 : x10_1 < (l0.length : Int) := of_decide_eq_true (by first | (with_reducible assumption) | assumption)); obtain ⟨ad224, e224, hx224_0, hx224_1, hx224_2, hx224_3⟩ := at_T81 HR0.out x10_1 p224 q224
               cases e224
               replace hx224_0 := (HB.out.cell (World.block_lt_of_cell? w _ hx224_0)).trans hx224_0; replace hx224_1 := (HB.out.cell (World.block_lt_of_cell? w _ hx224_1)).trans hx224_1; replace hx224_2 := (HB.out.cell (World.block_lt_of_cell? w _ hx224_2)).trans hx224_2; replace hx224_3 := (HB.out.cell (World.block_lt_of_cell? w _ hx224_3)).trans hx224_3; replace p224 := eq_true p224; replace q224 := eq_true q224; (have p225 : 0 ≤ (x10_1 : Int) := of_decide_eq_true (by first | (with_reducible assumption) | assumption)); (have q225 : x10_1 < (l0.length : Int) := of_decide_eq_true (by first | (with_reducible assumption) | assumption)); obtain ⟨ad225, e225, hx225_0, hx225_1, hx225_2, hx225_3⟩ := at_T81 HR0.out x10_1 p225 q225; obtain rfl : ad224 = ad225 := (by injection e225); replace hx225_0 := (HB.out.cell (World.block_lt_of_cell? w _ hx225_0)).trans hx225_0; replace hx225_1 := (HB.out.cell (World.block_lt_of_cell? w _ hx225_1)).trans hx225_1; replace hx225_2 := (HB.out.cell (World.block_lt_of_cell? w _ hx225_2)).trans hx225_2; replace hx225_3 := (HB.out.cell (World.block_lt_of_cell? w _ hx225_3)).trans hx225_3; replace p225 := eq_true p225; replace q225 := eq_true q225; (go_wp2); (go_roundg kj6)
               case measure => have := HK1.out; have := HJ6.out; omega
               case rel => exact ⟨(x9_1), (wrap64 (x10_1 + 1)), (by first | rfl | (simp; done) | (simp [*]; done)), H', ⟨by have := HK1.out; have := HJ6.out; omega⟩, ⟨by refine ra ?_; exact ql.out⟩, ⟨by exact (qp_8)⟩⟩
         · rw [if_neg c13] at H
           exact absurd H (by simp)
       · rw [if_neg c12] at H
         exact absurd H (by simp)
     · replace c11 := Bool.eq_false_iff.mpr c11
       subst c11; (have H1 : (some x9_1) = some r := by rw [if_neg (show ¬ (false = true) by decide)] at H; exact H); clear H; have H := H1; clear H1; obtain rfl := Option.some.inj H; (go_wp2); go_ret; (exact ⟨_, by first | rfl | (simp [errW_none, errW_some] <;> rfl) | (simp [*, errW_none, errW_some] <;> rfl), by refine ra ?_; exact ql.out, by exact (qp_8)⟩)
/-! ### spec_PlayAlong: function 60 -/
mutual
def spec_PlayAlong.j0 : Nat → List (S81) → Int → List Int → Int → Bool → List Int → List Int → List Int → Int → Option ((List (S81)) × Bool)
 | 0, _, _, _, _, _, _, _, _, _ => none
 | k + 1, x0, x1, x2, x3, x33, x239000, x239001, x245000, x245001 => if x33 = true then (some ((([] : List (S81))), false)) else (spec_PlayAlong.l0 k x0 x1 x2 x3 (-1) 0 x239000 x239001 x245000 x245001)
def spec_PlayAlong.l0 : Nat → List (S81) → Int → List Int → Int → Int → Int → List Int → List Int → List Int → Int → Option ((List (S81)) × Bool)
 | 0, _, _, _, _, _, _, _, _, _, _ => none
 | k + 1, x0, x1, x2, x3, x14, x15, x239000, x239001, x245000, x245001 => if x15 < (x2.length : Int) then (if 0 ≤ x15 then ((spec_StepFollower.f k x239000 x245000 x245001 (rd x2 x15)).bind fun bt249 => ((spec_SureTick.f k x239000 x239001 bt249.1 bt249.2 x3).bind fun t253 => ((spec_Max.f x14 t253).bind fun t254 => (spec_PlayAlong.l0 k x0 x1 x2 x3 t254 (wrap64 (x15 + 1)) x239000 x239001 bt249.1 bt249.2)))) else (none)) else ((spec_DueEvents.f k x0 x1 (-1) x14).bind fun t255 => (some (t255, true)))
end
def spec_PlayAlong.f (k : Nat) (l0 : List (S81)) (a1 : Int) (l2 : List Int) (a3 : Int) : Option ((List (S81)) × Bool) := (spec_CueFrom.f k l0 a1).bind fun bt231 => ((spec_StartFollower.f k bt231.1).bind fun bt239 => (if bt231.2.2 = true then (spec_PlayAlong.j0 k l0 a1 l2 a3 (!bt239.2.2) bt231.1 bt231.2.1 bt239.1 bt239.2.1) else (spec_PlayAlong.j0 k l0 a1 l2 a3 true bt231.1 bt231.2.1 bt239.1 bt239.2.1)))
theorem spec_PlayAlong.mono_l : ∀ k, (∀ y0 y1 y2 y3 y4 y5 y6 y7 y8, LeO (spec_PlayAlong.j0 k y0 y1 y2 y3 y4 y5 y6 y7 y8) (spec_PlayAlong.j0 (k + 1) y0 y1 y2 y3 y4 y5 y6 y7 y8)) ∧ (∀ y0 y1 y2 y3 y4 y5 y6 y7 y8 y9, LeO (spec_PlayAlong.l0 k y0 y1 y2 y3 y4 y5 y6 y7 y8 y9) (spec_PlayAlong.l0 (k + 1) y0 y1 y2 y3 y4 y5 y6 y7 y8 y9))
 | 0 => ⟨fun _ _ _ _ _ _ _ _ _ r h => by simp [spec_PlayAlong.j0] at h, fun _ _ _ _ _ _ _ _ _ _ r h => by simp [spec_PlayAlong.l0] at h⟩
 | k + 1 => by
  obtain ⟨ih0, ih1⟩ := spec_PlayAlong.mono_l k; refine ⟨?_, ?_⟩
  · intro y0 y1 y2 y3 y4 y5 y6 y7 y8
    unfold spec_PlayAlong.j0
    repeat' first
    | (with_reducible exact ih0 _ _ _ _ _ _ _ _ _)
    | (with_reducible exact ih1 _ _ _ _ _ _ _ _ _ _)
    | (with_reducible exact spec_CueFrom.mono _ _ _)
    | (with_reducible exact spec_DueEvents.mono _ _ _ _ _)
    | (with_reducible exact spec_StartFollower.mono _ _)
    | (with_reducible exact spec_StepFollower.mono _ _ _ _ _)
    | (with_reducible exact spec_SureTick.mono _ _ _ _ _ _)
    | (with_reducible exact LeO.refl _)
    | (with_reducible exact LeO.none _)
    | (with_reducible refine LeO.ite ?_ ?_)
    | (with_reducible refine LeO.bind ?_ (fun _ => ?_))
    | exact ih0 _ _ _ _ _ _ _ _ _
    | exact ih1 _ _ _ _ _ _ _ _ _ _
    | exact spec_CueFrom.mono _ _ _
    | exact spec_DueEvents.mono _ _ _ _ _
    | exact spec_StartFollower.mono _ _
    | exact spec_StepFollower.mono _ _ _ _ _
    | exact spec_SureTick.mono _ _ _ _ _ _
    | exact LeO.none _
    | refine LeO.ite ?_ ?_
    | refine LeO.bind ?_ (fun _ => ?_)
  · intro y0 y1 y2 y3 y4 y5 y6 y7 y8 y9
    unfold spec_PlayAlong.l0
    repeat' first
    | (with_reducible exact ih0 _ _ _ _ _ _ _ _ _)
    | (with_reducible exact ih1 _ _ _ _ _ _ _ _ _ _)
    | (with_reducible exact spec_CueFrom.mono _ _ _)
    | (with_reducible exact spec_DueEvents.mono _ _ _ _ _)
    | (with_reducible exact spec_StartFollower.mono _ _)
    | (with_reducible exact spec_StepFollower.mono _ _ _ _ _)
    | (with_reducible exact spec_SureTick.mono _ _ _ _ _ _)
    | (with_reducible exact LeO.refl _)
    | (with_reducible exact LeO.none _)
    | (with_reducible refine LeO.ite ?_ ?_)
    | (with_reducible refine LeO.bind ?_ (fun _ => ?_))
    | exact ih0 _ _ _ _ _ _ _ _ _
    | exact ih1 _ _ _ _ _ _ _ _ _ _
    | exact spec_CueFrom.mono _ _ _
    | exact spec_DueEvents.mono _ _ _ _ _
    | exact spec_StartFollower.mono _ _
    | exact spec_StepFollower.mono _ _ _ _ _
    | exact spec_SureTick.mono _ _ _ _ _ _
    | exact LeO.none _
    | refine LeO.ite ?_ ?_
    | refine LeO.bind ?_ (fun _ => ?_)
theorem spec_PlayAlong.mono : ∀ a0 a1 a2 a3 k, LeO (spec_PlayAlong.f k a0 a1 a2 a3) (spec_PlayAlong.f (k + 1) a0 a1 a2 a3) := by
 intro a0 a1 a2 a3 k; obtain ⟨ih0, ih1⟩ := spec_PlayAlong.mono_l k; unfold spec_PlayAlong.f
 repeat' first
  | (with_reducible exact ih0 _ _ _ _ _ _ _ _ _)
  | (with_reducible exact ih1 _ _ _ _ _ _ _ _ _ _)
  | (with_reducible exact spec_CueFrom.mono _ _ _)
  | (with_reducible exact spec_DueEvents.mono _ _ _ _ _)
  | (with_reducible exact spec_StartFollower.mono _ _)
  | (with_reducible exact spec_StepFollower.mono _ _ _ _ _)
  | (with_reducible exact spec_SureTick.mono _ _ _ _ _ _)
  | (with_reducible exact LeO.refl _)
  | (with_reducible exact LeO.none _)
  | (with_reducible refine LeO.ite ?_ ?_)
  | (with_reducible refine LeO.bind ?_ (fun _ => ?_))
  | exact ih0 _ _ _ _ _ _ _ _ _
  | exact ih1 _ _ _ _ _ _ _ _ _ _
  | exact spec_CueFrom.mono _ _ _
  | exact spec_DueEvents.mono _ _ _ _ _
  | exact spec_StartFollower.mono _ _
  | exact spec_StepFollower.mono _ _ _ _ _
  | exact spec_SureTick.mono _ _ _ _ _ _
  | exact LeO.none _
  | refine LeO.ite ?_ ?_
  | refine LeO.bind ?_ (fun _ => ?_)
def spec_PlayAlong.T9 : Bool × List (List Nat × List Nat) := (true, [([], []), ([0], [0]), ([], []), ([], []), ([], []), ([3, 4], [3, 4]), ([5], [5]), ([1, 2, 6], [1, 2, 6]), ([7, 7, 0, 1, 2, 3, 4, 5, 6, 7], [7])])
def spec_PlayAlong.B9 : List Nat := [0, 1, 0, 0, 0, 24, 56, 127, 255]
theorem spec_PlayAlong.tab9 : rtab .any (opsOf Try.f60 9) = spec_PlayAlong.T9 := by kernel_rfl
theorem spec_PlayAlong.bits9 : waitsOk spec_PlayAlong.T9.2 spec_PlayAlong.B9 = true := by kernel_rfl
set_option maxHeartbeats 8000000 in
set_option maxRecDepth 100000 in
theorem spec_PlayAlong.calls (k : Nat) (A0 : Option Addr) (c0 : Nat) (l0 : List (S81)) (a1 : Int) (A2 : Option Addr) (c2 : Nat) (l2 : List Int) (a3 : Int) (r1 : List (S81)) (r2 : Bool) (w : World) (hr0 : Kd.C k81 w A0 l0.length l0) (hc0 : l0.length ≤ c0) (hr2 : Kd.C (Kd.int .i64) w A2 l2.length l2) (hc2 : l2.length ≤ c2) (h : spec_PlayAlong.f k l0 a1 l2 a3 = some (r1, r2)) :
 Calls Try.prog 60 #[.slice A0 l0.length c0, .int .i64 a1, .slice A2 l2.length c2, .int .i64 a3] w fun e w' => ∃ v0_ : Value, e = .returned (.tuple #[v0_, .bool r2]) ∧ Kd.R k81 81 w' w.heap.size (fun _ => True) v0_ r1 ∧ Below w.heap.size w w' := by
 have hu42 := Try.underlying42; have hu51 := Try.underlying51; have HR0 := q0_8 hr0; have HC0 := q0_8 hc0; clear hr0 hc0; have HR2 := q0_8 hr2; have HC2 := q0_8 hc2; clear hr2 hc2; have HB := q0_8 (Below.refl w.heap.size w); (have H : ((spec_CueFrom.f k l0 a1).bind fun bt231 => ((spec_StartFollower.f k bt231.1).bind fun bt239 => (if bt231.2.2 = true then (spec_PlayAlong.j0 k l0 a1 l2 a3 (!bt239.2.2) bt231.1 bt231.2.1 bt239.1 bt239.2.1) else (spec_PlayAlong.j0 k l0 a1 l2 a3 true bt231.1 bt231.2.1 bt239.1 bt239.2.1)))) = some (r1, r2) := h); clear h; replace H := Option.bind_eq_some_iff.mp H; obtain ⟨⟨t231, t234, t237⟩, A50, H⟩ := H; replace H : ((spec_StartFollower.f k t231).bind fun bt239 => (if t237 = true then (spec_PlayAlong.j0 k l0 a1 l2 a3 (!bt239.2.2) t231 t234 bt239.1 bt239.2.1) else (spec_PlayAlong.j0 k l0 a1 l2 a3 true t231 t234 bt239.1 bt239.2.1))) = some (r1, r2) := H; have A5 := q0_8 A50; clear A50; replace H := Option.bind_eq_some_iff.mp H; obtain ⟨⟨t239, t242, t243⟩, A60, H⟩ := H; replace H : (if t237 = true then (spec_PlayAlong.j0 k l0 a1 l2 a3 (!t243) t231 t234 t239 t242) else (spec_PlayAlong.j0 k l0 a1 l2 a3 true t231 t234 t239 t242)) = some (r1, r2) := H; have A6 := q0_8 A60; clear A60; have HC7 := q0_8 H; clear H; go_enter Try.func60, Try.ntmps60
 (go_upto_region 3 with (first | ((with_reducible refine gate_callee (f := 28) rfl ?_); refine goesL_ (some 19) rfl rfl Try.func28 (by kernel_rfl) rfl #[.slice A0 l0.length c0, .int .i64 a1] rfl ma ?_; (with_reducible refine (spec_CueFrom.calls k _ _ l0 a1 t231 t234 t237 _ ?side1 ?side2 A5.out).mono ?_); (case side1 => repeat (first | exact HR0.out | (with_reducible refine Kd.C_alloc ?_ _) | (with_reducible refine Kd.C_drewN ?_ _) | (with_reducible refine Kd.C_drew ?_))); (case side2 => exact HC0.out); rintro e w8 ⟨v232, v235, rfl, ho0, ho1, hb⟩; refine ⟨_, rfl, ?_⟩; have n0_ := q0_8 (Kd.R_lower ho0 (below_size (qp_8))); have n1_ := q0_8 (Kd.R_lower ho1 (below_size (qp_8))); have n2_ := q0_8 (below_step (qp_8) hb); clear HB; have qb := n0_; have qf := n1_; have HB := n2_; clear n0_ n1_ n2_; (try clear hb); (try clear hb2); (try clear hk); (try clear hi); (try clear ho0); (try clear ho1)) | ((with_reducible refine gate_dst (N := 10) rfl ?_); refine box_event ?hg (N := 10) ?hd (cs := #[.slice none 0 0, .slice none 0 0]) (t := 42) ?hr ?_; (case hd => rfl); (case hg => rfl); (case hr => first | (go_simp; done) | (go_simp; rfl)); intro q9 hg w9 hbox hb; have n0_ := q0_8 (Kd.R_below (ra qb.out) hb); have n1_ := q0_8 (Kd.R_below (ra qf.out) hb); have n2_ := q0_8 (below_step (qp_8) hb); have n3_ := q0_8 (hbox); have n4_ := q0_8 ((by rw [hg]; exact (below_size (qp_8)) : w.heap.size ≤ q9)); have n5_ := q0_8 ((by rw [hg]; exact (below_size (qp_8)) : w.heap.size ≤ q9)); clear qb; clear qf; clear HB; have qb := n0_; have qf := n1_; have HB := n2_; have q5 := n3_; have GW238 := n4_; have qw := n5_; clear n0_ n1_ n2_ n3_ n4_ n5_; clear hb hbox hg; obtain ⟨qc, qa, eo10⟩ := Kd.R_slice qb.out; subst eo10; have hcz11_0 : w9.cell? ⟨q9, 0, none⟩ = some (.slice none 0 0) := (blk_cell q5.out 0).trans rfl; have hcz11_1 : w9.cell? ⟨q9, 1, none⟩ = some (.slice none 0 0) := (blk_cell q5.out 1).trans rfl; have hfz11_0 := blk_frozen q5.out 0; have hfz11_1 := blk_frozen q5.out 1; obtain ⟨qe, qd, eo12⟩ := Kd.R_slice qf.out; subst eo12) | ((with_reducible refine gate_callee (f := 102) rfl ?_); refine goesL_ (some 25) rfl rfl Try.func102 (by kernel_rfl) rfl #[.slice qc t231.length qa] rfl ma ?_; (with_reducible refine (spec_StartFollower.calls k _ _ t231 t239 t242 t243 _ ?side1 ?side2 A6.out).mono ?_); (case side1 => refine (Kd.R_reads' (e := 3) (base := w.heap.size) (ok := fun k_ => some k_ ≠ (.slice qe t234.length qd : Value).ownBlock) (n := t231.length) (c := qa) ?_).2.2; exact (by refine ra ?_; exact (Kd.R_mono (Kd.R_far (p := ⟨q9, 1, none⟩) (Kd.R_far (p := ⟨q9, 0, none⟩) (Kd.R_types qb.out q5.out (by decide)) (fun _ hk => hk.2) (.slice qc t231.length qa)) (fun _ hk => hk.2) (.slice qe t234.length qd)) (fun _ h_ => h_.1)))); (case side2 => exact (Kd.R_reads' qb.out).2.1); rintro e w13 ⟨v240, rfl, ho0, hb⟩; refine ⟨_, rfl, ?_⟩; have n0_ := q0_8 (Kd.R_elder' (by refine ra ?_; exact (Kd.R_mono (Kd.R_far (p := ⟨q9, 1, none⟩) (Kd.R_far (p := ⟨q9, 0, none⟩) (Kd.R_types qb.out q5.out (by decide)) (fun _ hk => hk.2) (.slice qc t231.length qa)) (fun _ hk => hk.2) (.slice qe t234.length qd)) (fun _ h_ => h_.1))) (Kd.R_base ho0) hb); have n1_ := q0_8 (Kd.R_elder' (by refine ra ?_; exact (Kd.R_mono (Kd.R_far (p := ⟨q9, 1, none⟩) (Kd.R_far (p := ⟨q9, 0, none⟩) (Kd.R_types qf.out q5.out (by decide)) (fun _ hk => hk.2) (.slice qc t231.length qa)) (fun _ hk => hk.2) (.slice qe t234.length qd)) (fun _ h_ => h_.1))) (Kd.R_base ho0) hb); have n2_ := q0_8 (Kd.R_lower (Kd.R_new' (Kd.R_new' ho0 (Kd.R_lt (by refine ra ?_; exact (Kd.R_mono (Kd.R_far (p := ⟨q9, 1, none⟩) (Kd.R_far (p := ⟨q9, 0, none⟩) (Kd.R_types qb.out q5.out (by decide)) (fun _ hk => hk.2) (.slice qc t231.length qa)) (fun _ hk => hk.2) (.slice qe t234.length qd)) (fun _ h_ => h_.1))))) (Kd.R_lt (by refine ra ?_; exact (Kd.R_mono (Kd.R_far (p := ⟨q9, 1, none⟩) (Kd.R_far (p := ⟨q9, 0, none⟩) (Kd.R_types qf.out q5.out (by decide)) (fun _ hk => hk.2) (.slice qc t231.length qa)) (fun _ hk => hk.2) (.slice qe t234.length qd)) (fun _ h_ => h_.1))))) (below_size (qm_8))); have n3_ := q0_8 (blk_below (g := q9) (o := .cells #[.slice qc t231.length qa, .slice qe t234.length qd] 42 (0, 0)) (by refine ba ?_; refine blk_put (cs := #[.slice qc t231.length qa, .slice none 0 0]) ?_ 1 _ rfl; refine ba ?_; refine blk_put (cs := #[.slice none 0 0, .slice none 0 0]) ?_ 0 _ rfl; refine ba ?_; exact q5.out) hb); have n4_ := q0_8 (below_step (qm_8) hb); clear qb; clear qf; clear q5; clear HB; have qb := n0_; have qf := n1_; have qo := n2_; have q5 := n3_; have HB := n4_; clear n0_ n1_ n2_ n3_ n4_; (try clear hb); (try clear hb2); (try clear hk); (try clear hi); (try clear ho0)) | ((with_reducible refine gate_dst (N := 12) rfl ?_); refine box_event ?hg (N := 12) ?hd (cs := #[.slice none 0 0, .int .i64 0]) (t := 51) ?hr ?_; (case hd => rfl); (case hg => rfl); (case hr => first | (go_simp; done) | (go_simp; rfl)); intro q6 hg w14 hbox hb; have n0_ := q0_8 (Kd.R_below (ra qb.out) hb); have n1_ := q0_8 (Kd.R_below (ra qf.out) hb); have n2_ := q0_8 (Kd.R_below (ra qo.out) hb); have n3_ := q0_8 (bb q5.out hb); have n4_ := q0_8 (below_step (qm_8) hb); have n5_ := q0_8 (hbox); have n6_ := q0_8 ((by rw [hg]; exact (below_size (qm_8)) : w.heap.size ≤ q6)); have n7_ := q0_8 ((by rw [hg]; exact (below_size (qm_8)) : w.heap.size ≤ q6)); have n8_ := q0_8 ((by rw [hg]; exact Nat.ne_of_lt (bl q5.out) : q9 ≠ q6)); have n9_ := q0_8 ((by rw [hg]; exact Nat.ne_of_gt (bl q5.out) : q6 ≠ q9)); clear qb; clear qf; clear qo; clear q5; clear HB; have qb := n0_; have qf := n1_; have qo := n2_; have q5 := n3_; have HB := n4_; have q4 := n5_; have GW244 := n6_; have qx := n7_; have q8 := n8_; have qg := n9_; clear n0_ n1_ n2_ n3_ n4_ n5_ n6_ n7_ n8_ n9_; clear hb hbox hg; obtain ⟨qi, qj, eo15⟩ := Kd.R_slice qo.out; subst eo15; have hnb16 := qg.out; have hnc16 := q8.out; have hcz17_0 : w14.cell? ⟨q6, 0, none⟩ = some (.slice none 0 0) := (blk_cell q4.out 0).trans rfl; have hcz17_1 : w14.cell? ⟨q6, 1, none⟩ = some (.int .i64 0) := (blk_cell q4.out 1).trans rfl; have hfz17_0 := blk_frozen q4.out 0; have hfz17_1 := blk_frozen q4.out 1)))
 ((try simp only [Act.put, List.setIfInBounds_toArray, List.set_cons_zero, List.set_cons_succ])); (go_cut [33] (fun v33 wc => ∃ (kq : Nat) (x33_6 : Bool), v33 = .bool x33_6 ∧ Aside0 (spec_PlayAlong.j0 kq l0 a1 l2 a3 x33_6 t231 t234 t239 t242 = some (r1, r2)) ∧ Aside0 (kq ≤ k) ∧ Aside0 (Kd.R (Kd.int .i64) 3 wc w.heap.size (fun k_ => some k_ ≠ ((.slice qe t234.length qd) : Value).ownBlock ∧ some k_ ≠ ((.slice qi t239.length qj) : Value).ownBlock) (.slice qc t231.length qa) t231) ∧ Aside0 (Kd.R (Kd.int .i64) 3 wc w.heap.size (fun k_ => some k_ ≠ ((.slice qc t231.length qa) : Value).ownBlock ∧ some k_ ≠ ((.slice qi t239.length qj) : Value).ownBlock) (.slice qe t234.length qd) t234) ∧ Aside0 (Kd.R (Kd.int .i64) 3 wc w.heap.size (fun k_ => some k_ ≠ ((.slice qc t231.length qa) : Value).ownBlock ∧ some k_ ≠ ((.slice qe t234.length qd) : Value).ownBlock) (.slice qi t239.length qj) t239) ∧ Aside0 (wc.heap[q9]? = some (.cells #[(.slice qc t231.length qa), (.slice qe t234.length qd)] 42 (0, 0))) ∧ Aside0 (wc.heap[q6]? = some (.cells #[(.slice qi t239.length qj), .int .i64 t242] 51 (0, 0))) ∧ Aside0 (Below w.heap.size w wc)))
 case first =>
  have H := HC7.out; clear HC7
  by_cases c18 : t237 = true
  · subst c18
    have H1 : (spec_PlayAlong.j0 k l0 a1 l2 a3 (!t243) t231 t234 t239 t242) = some (r1, r2) := by rw [if_pos rfl] at H; exact H
    clear H; have H := H1; clear H1; (have H' := q0_8 H); clear H; (go_wp2); (go_meet)
    case rel => exact ⟨_, (!t243), (by first | rfl | (simp; done) | (simp [*]; done)), H', ⟨by first | omega | exact Nat.le_refl _⟩, ⟨by refine ra ?_; exact Kd.R_mono (Kd.R_far (p := ⟨q6, 1, none⟩) (Kd.R_far (p := ⟨q6, 0, none⟩) (Kd.R_types qb.out q4.out (by decide)) (fun _ hk => hk.2) (.slice qi t239.length qj)) (fun _ hk => hk.2) (.int .i64 t242)) (fun _ hk => ⟨hk.1.1, hk.1.2⟩)⟩, ⟨by refine ra ?_; exact Kd.R_mono (Kd.R_far (p := ⟨q6, 1, none⟩) (Kd.R_far (p := ⟨q6, 0, none⟩) (Kd.R_types qf.out q4.out (by decide)) (fun _ hk => hk.2) (.slice qi t239.length qj)) (fun _ hk => hk.2) (.int .i64 t242)) (fun _ hk => ⟨hk.1.1, hk.1.2⟩)⟩, ⟨by refine ra ?_; exact Kd.R_mono (Kd.R_far (p := ⟨q6, 1, none⟩) (Kd.R_far (p := ⟨q6, 0, none⟩) (Kd.R_types qo.out q4.out (by decide)) (fun _ hk => hk.2) (.slice qi t239.length qj)) (fun _ hk => hk.2) (.int .i64 t242)) (fun _ hk => ⟨hk.1.1.2, hk.1.2⟩)⟩, ⟨by refine ba ?_; refine blk_far ?_ q8.out _; refine ba ?_; refine blk_far ?_ q8.out _; refine ba ?_; exact q5.out⟩, ⟨by refine ba ?_; refine blk_put (cs := #[.slice qi t239.length qj, .int .i64 0]) ?_ 1 _ rfl; refine ba ?_; refine blk_put (cs := #[.slice none 0 0, .int .i64 0]) ?_ 0 _ rfl; refine ba ?_; exact q4.out⟩, ⟨by exact (q7_8)⟩⟩
  · replace c18 := Bool.eq_false_iff.mpr c18
    subst c18; (have H1 : (spec_PlayAlong.j0 k l0 a1 l2 a3 true t231 t234 t239 t242) = some (r1, r2) := by rw [if_neg (show ¬ (false = true) by decide)] at H; exact H); clear H; have H := H1; clear H1; (have H' := q0_8 H); clear H; (go_wp2); (go_meet)
    case rel => exact ⟨_, (true), (by first | rfl | (simp; done) | (simp [*]; done)), H', ⟨by first | omega | exact Nat.le_refl _⟩, ⟨by refine ra ?_; exact Kd.R_mono (Kd.R_far (p := ⟨q6, 1, none⟩) (Kd.R_far (p := ⟨q6, 0, none⟩) (Kd.R_types qb.out q4.out (by decide)) (fun _ hk => hk.2) (.slice qi t239.length qj)) (fun _ hk => hk.2) (.int .i64 t242)) (fun _ hk => ⟨hk.1.1, hk.1.2⟩)⟩, ⟨by refine ra ?_; exact Kd.R_mono (Kd.R_far (p := ⟨q6, 1, none⟩) (Kd.R_far (p := ⟨q6, 0, none⟩) (Kd.R_types qf.out q4.out (by decide)) (fun _ hk => hk.2) (.slice qi t239.length qj)) (fun _ hk => hk.2) (.int .i64 t242)) (fun _ hk => ⟨hk.1.1, hk.1.2⟩)⟩, ⟨by refine ra ?_; exact Kd.R_mono (Kd.R_far (p := ⟨q6, 1, none⟩) (Kd.R_far (p := ⟨q6, 0, none⟩) (Kd.R_types qo.out q4.out (by decide)) (fun _ hk => hk.2) (.slice qi t239.length qj)) (fun _ hk => hk.2) (.int .i64 t242)) (fun _ hk => ⟨hk.1.1.2, hk.1.2⟩)⟩, ⟨by refine ba ?_; refine blk_far ?_ q8.out _; refine ba ?_; refine blk_far ?_ q8.out _; refine ba ?_; exact q5.out⟩, ⟨by refine ba ?_; refine blk_put (cs := #[.slice qi t239.length qj, .int .i64 0]) ?_ 1 _ rfl; refine ba ?_; refine blk_put (cs := #[.slice none 0 0, .int .i64 0]) ?_ 0 _ rfl; refine ba ?_; exact q4.out⟩, ⟨by exact (q7_8)⟩⟩
 case rest =>
  clear HC7; (try clear c1); (try clear c2); (try clear p2); (try clear c6); (try clear c10); (try clear c16); (try clear c18); (try clear hcz11_0); (try clear hcz11_1); (try clear hcz17_0); (try clear hcz17_1); (try clear hfz11_0); (try clear hfz11_1); (try clear hfz17_0); (try clear hfz17_1); obtain ⟨kq, x33_6, rfl, HA, HJ6, q1, q2, q3, q5, q4, HB⟩ := hcut
  cases kq with
  | zero => exact absurd HA.out (by simp [spec_PlayAlong.j0])
  | succ kj6 =>
   have H := HA.out; clear HA; (simp only [spec_PlayAlong.j0] at H)
   by_cases c19 : x33_6 = true
   · subst c19
     have H1 : (some ((([] : List (S81))), false)) = some (r1, r2) := by rw [if_pos rfl] at H; exact H
     clear H; have H := H1; clear H1; obtain ⟨y245, hy245⟩ : ∃ y_ : List (S81), y_ = (([] : List (S81))) := ⟨_, rfl⟩; (replace H : (some (y245, false)) = some (r1, r2) := by first | (rw [hy245]; with_reducible exact H) | (have H2_ := (Option.bind_some _ _).symm.trans H; rw [hy245]; with_reducible exact H2_) | (have H2_ := (Option.bind_some _ _).symm.trans H; with_reducible exact H2_) | with_reducible exact H | (rw [hy245]; exact H) | exact H); have Ny245 := q0_8 hy245; clear hy245; (simp only [Option.some.injEq, Prod.mk.injEq] at H); obtain ⟨rfl, rfl⟩ := H; (go_wp2_with (first | ((with_reducible refine gate_dst (N := 34) rfl ?_); refine Kd.R_lit k81 _ 81 ?hg (N := 34) ?hd (xs := ([] : List (S81))) (inner := []) (ok := fun _ => True) (okp := fun _ => True) ?hr ?hp (fun _ hk => hk) trivial (Below.refl _ _) (Nat.le_refl _) (by simp) ?_; (case hd => rfl); (case hg => rfl); (case hr => first | (go_simp; done) | (go_simp; rfl)); (case hp => exact (Reps.none _ _)); intro v246 w20 ho21 hb hg_ hnew_; clear hg_ hnew_; (first | rw [← Ny245.out] at ho21 | (simp only [Int.reduceToNat] at ho21; rw [← Ny245.out] at ho21)); have n0_ := q0_8 (Kd.R_below (ra q1.out) hb); have n1_ := q0_8 (Kd.R_below (ra q2.out) hb); have n2_ := q0_8 (Kd.R_below (ra q3.out) hb); have n3_ := q0_8 (Kd.R_lower ho21 (below_size (q7_8))); have n4_ := q0_8 (bb q5.out hb); have n5_ := q0_8 (bb q4.out hb); have n6_ := q0_8 (below_step (q7_8) hb); clear q1; clear q2; clear q3; clear q5; clear q4; clear HB; have q1 := n0_; have q2 := n1_; have q3 := n2_; have qu := n3_; have q5 := n4_; have q4 := n5_; have HB := n6_; clear n0_ n1_ n2_ n3_ n4_ n5_ n6_; clear hb ho21))); (go_ret2); (exact ⟨_, by first | rfl | (simp [errW_none, errW_some] <;> rfl) | (simp [*, errW_none, errW_some] <;> rfl), by refine ra ?_; exact qu.out, by exact (q7_8)⟩)
   · replace c19 := Bool.eq_false_iff.mpr c19
     subst c19; (have H1 : (spec_PlayAlong.l0 kj6 l0 a1 l2 a3 (-1) 0 t231 t234 t239 t242) = some (r1, r2) := by rw [if_neg (show ¬ (false = true) by decide)] at H; exact H); clear H; have H := H1; clear H1; (have H' := q0_8 H); clear H; (go_wp2); (go_loopg [14, 15] kj6 (fun kq v14 v15 w' => ∃ (x14_2 : Int) (x15_2 : Int) (x245000_2 : List Int) (x245001_2 : Int) (u245000 : Value), v14 = .int .i64 x14_2 ∧ v15 = .int .i64 x15_2 ∧ Aside0 (spec_PlayAlong.l0 kq l0 a1 l2 a3 x14_2 x15_2 t231 t234 x245000_2 x245001_2 = some (r1, r2)) ∧ Aside0 (kq ≤ kj6) ∧ Aside0 (Kd.R (Kd.int .i64) 3 w' w.heap.size (fun k_ => some k_ ≠ ((.slice qe t234.length qd) : Value).ownBlock ∧ some k_ ≠ (u245000 : Value).ownBlock) (.slice qc t231.length qa) t231) ∧ Aside0 (Kd.R (Kd.int .i64) 3 w' w.heap.size (fun k_ => some k_ ≠ ((.slice qc t231.length qa) : Value).ownBlock ∧ some k_ ≠ (u245000 : Value).ownBlock) (.slice qe t234.length qd) t234) ∧ Aside0 (Kd.R (Kd.int .i64) 3 w' w.heap.size (fun k_ => some k_ ≠ ((.slice qc t231.length qa) : Value).ownBlock ∧ some k_ ≠ ((.slice qe t234.length qd) : Value).ownBlock) u245000 x245000_2) ∧ Aside0 (w'.heap[q9]? = some (.cells #[(.slice qc t231.length qa), (.slice qe t234.length qd)] 42 (0, 0))) ∧ Aside0 (w'.heap[q6]? = some (.cells #[u245000, .int .i64 x245001_2] 51 (0, 0))) ∧ Aside0 (Below w.heap.size w w')))
     case atStart => exact ⟨((-1)), (0), (t239), (t242), (.slice qi t239.length qj), (by first | rfl | (simp; done) | (simp [*]; done)), (by first | rfl | (simp; done) | (simp [*]; done)), H', ⟨Nat.le_refl _⟩, ⟨by refine ra ?_; exact q1.out⟩, ⟨by refine ra ?_; exact q2.out⟩, ⟨by refine ra ?_; exact q3.out⟩, ⟨by refine ba ?_; exact q5.out⟩, ⟨by refine ba ?_; exact q4.out⟩, ⟨by exact (q7_8)⟩⟩
     case round =>
      clear H'; (try clear c1); (try clear c2); (try clear p2); (try clear c6); (try clear c10); (try clear c16); (try clear c18); (try clear c19); (try clear hcz11_0); (try clear hcz11_1); (try clear hcz17_0); (try clear hcz17_1); (try clear hfz11_0); (try clear hfz11_1); (try clear hfz17_0); (try clear hfz17_1); (try clear p2); obtain ⟨x14_2, x15_2, x245000_2, x245001_2, u245000, rfl, rfl, HA, HK2, q1, q2, q3, q5, q4, HB⟩ := hrel
      cases gk with
      | zero => exact absurd HA.out (by simp [spec_PlayAlong.l0])
      | succ k2 =>
       have H := HA.out; clear HA; (simp only [spec_PlayAlong.l0] at H)
       by_cases c22 : x15_2 < (l2.length : Int)
       · rw [if_pos c22] at H
         (have c22b0 : decide (x15_2 < (l2.length : Int)) = true := decide_eq_true c22); clear c22
         by_cases c23 : 0 ≤ x15_2
         · rw [if_pos c23] at H
           (have c23b0 : decide (0 ≤ x15_2) = true := decide_eq_true c23); clear c23; replace H := Option.bind_eq_some_iff.mp H; obtain ⟨⟨t249, t252⟩, A240, H⟩ := H; replace H : ((spec_SureTick.f k2 t231 t234 t249 t252 a3).bind fun t253 => ((spec_Max.f x14_2 t253).bind fun t254 => (spec_PlayAlong.l0 k2 l0 a1 l2 a3 t254 (wrap64 (x15_2 + 1)) t231 t234 t249 t252))) = some (r1, r2) := H; have A24 := q0_8 A240; clear A240; replace H := Option.bind_eq_some_iff.mp H; obtain ⟨t253, A250, H⟩ := H; replace H : ((spec_Max.f x14_2 t253).bind fun t254 => (spec_PlayAlong.l0 k2 l0 a1 l2 a3 t254 (wrap64 (x15_2 + 1)) t231 t234 t249 t252)) = some (r1, r2) := H; have A25 := q0_8 A250; clear A250; replace H := Option.bind_eq_some_iff.mp H; obtain ⟨t254, A260, H⟩ := H; replace H : (spec_PlayAlong.l0 k2 l0 a1 l2 a3 t254 (wrap64 (x15_2 + 1)) t231 t234 t249 t252) = some (r1, r2) := H; have A26 := q0_8 A260; clear A260; (have H' := q0_8 H); clear H; (try go_wp2); have n0_ := q0_8 (Kd.R_drew q1.out); have n1_ := q0_8 (Kd.R_drew q2.out); have n2_ := q0_8 (Kd.R_drew q3.out); have n3_ := q0_8 (blk_drew q5.out); have n4_ := q0_8 (blk_drew q4.out); have n5_ := q0_8 (below_drew1 HB.out); clear q1 q2 q3 q5 q4 HB; have q1 := n0_; have q2 := n1_; have q3 := n2_; have q5 := n3_; have q4 := n4_; have HB := n5_; clear n0_ n1_ n2_ n3_ n4_ n5_; (have p248 : 0 ≤ (x15_2 : Int) := of_decide_eq_true (by first | (with_reducible assumption) | assumption)); (have q248 : x15_2 < (l2.length : Int) := of_decide_eq_true (by first | (with_reducible assumption) | assumption)); obtain ⟨ad248, e248, hx248_0⟩ := Kd.at_int HR2.out x15_2 p248 q248; have hw248_0 := hx248_0
           cases e248
           replace hx248_0 := (HB.out.cell (World.block_lt_of_cell? w _ hx248_0)).trans hx248_0; replace p248 := eq_true p248; replace q248 := eq_true q248; obtain ⟨qq, qr, eo28⟩ := Kd.R_slice q3.out; ((first | subst eo28 | (injection eo28 with f1_ f2_ f3_; have f4_ := f1_.symm; have f5_ := f3_.symm; clear f1_ f2_ f3_; subst f4_; subst f5_))); refine start_ (n := 9) (S := fun w' => w'.cell? ⟨q9, 0, none⟩ = some (.slice qc t231.length qa) ∧ w'.cell? ⟨q9, 1, none⟩ = some (.slice qe t234.length qd) ∧ w'.cell? ⟨q6, 0, none⟩ = some (.slice qq x245000_2.length qr) ∧ w'.cell? ⟨q6, 1, none⟩ = some (.int .i64 x245001_2) ∧ w'.cell? (ad248.add (x15_2).toNat) = some (.int .i64 (rd l2 x15_2))) (ds := [8]) (bq 0 9) (by kernel_rfl) rfl rfl ⟨(blk_cell q5.out 0).trans rfl, (blk_cell q5.out 1).trans rfl, (blk_cell q4.out 0).trans rfl, (blk_cell q4.out 1).trans rfl, ((HB.out.cell (World.block_lt_of_cell? w _ hw248_0)).trans hw248_0)⟩ (fun hHeld => ?_); refine with_tabW spec_PlayAlong.tab9 spec_PlayAlong.bits9 (fun HT_ HW_ => ?_); generalize wr.drew = w27 at q1 q2 q3 q5 q4 HB hx248_0 hHeld ⊢; refine pure_ (i := 0) (N := some 41) (v := ?_) (a' := ?_) (bq 1 9) rfl rfl (any_of HT_.out (by kernel_rfl)) (fun _ _ _ h => h) (Or.inl ⟨by rfl, ?_⟩) ?_ ?_; rotate_left; (intro w'; go_simp; with_reducible rfl); rotate_left; (exact pb); refine pure_ (i := 3) (N := some 44) (v := ?_) (a' := ?_) (bq 9 9) rfl rfl (any_of HT_.out (by kernel_rfl)) (fun _ _ _ h => h) (Or.inl ⟨by rfl, ?_⟩) ?_ ?_; rotate_left; (intro w'; go_simp; with_reducible rfl); rotate_left; (exact pb); refine pure_ (i := 4) (N := some 45) (v := ?_) (a' := ?_) (bq 25 9) rfl rfl (any_of HT_.out (by kernel_rfl)) (fun _ _ _ h => h) (Or.inl ⟨by rfl, ?_⟩) ?_ ?_; rotate_left; (intro w'; go_simp; with_reducible rfl); rotate_left; (exact pb); refine pure_ (i := 5) (N := some 46) (v := ?_) (a' := ?_) (bq 57 9) rfl rfl (any_of HT_.out (by kernel_rfl)) (fun _ _ _ h => h) (Or.inl ⟨by rfl, ?_⟩) ?_ ?_; rotate_left; (intro w'; go_simp; with_reducible rfl); rotate_left; (exact pb); refine take_ (i := 1) (N := some 42) (v := ?_) (a' := ?_) (bq 59 9) rfl rfl (take_ofW HT_.out HW_.out (by kernel_rfl)) (fun _ _ _ h => h) (Or.inl ⟨by rfl, ?_⟩) hHeld ?_ ?_; rotate_left; (rintro w' ⟨s0, s1, s2, s3, s4⟩; go_simp; with_reducible rfl); rotate_left; (exact pb); refine take_ (i := 2) (N := some 43) (v := ?_) (a' := ?_) (bq 63 9) rfl rfl (take_ofW HT_.out HW_.out (by kernel_rfl)) (fun _ _ _ h => h) (Or.inl ⟨by rfl, ?_⟩) hHeld ?_ ?_; rotate_left; (rintro w' ⟨s0, s1, s2, s3, s4⟩; go_simp; with_reducible rfl); rotate_left; (exact pb); refine take_ (i := 6) (N := some 47) (v := ?_) (a' := ?_) (bq 127 9) rfl rfl (take_ofW HT_.out HW_.out (by kernel_rfl)) (fun _ _ _ h => h) (Or.inl ⟨by rfl, ?_⟩) hHeld ?_ ?_; rotate_left; (rintro w' ⟨s0, s1, s2, s3, s4⟩; go_simp; with_reducible rfl); rotate_left; (exact pb)
           refine one_ (i := 7) (N := some 48) (bq 255 9) rfl rfl (one_of HT_.out (by kernel_rfl)) (by decide) (fun K hK => ?_); refine goes_ Try.func109 (by kernel_rfl) rfl #[.slice qc t231.length qa, .agg #[.slice qq x245000_2.length qr, .int .i64 x245001_2], .int .i64 (rd l2 x15_2)] (by rfl) rfl rfl ma ?_; (with_reducible refine (spec_StepFollower.calls k2 _ _ t231 _ _ x245000_2 x245001_2 (rd l2 x15_2) t249 t252 _ ?side1 ?side2 ?side3 ?side4 A24.out).mono ?_); ((case side1 => exact ca (Kd.R_reads' q1.out).2.2)); ((case side2 => exact (Kd.R_reads' q1.out).2.1)); ((case side3 => exact ca (Kd.R_reads' q3.out).2.2)); ((case side4 => exact (Kd.R_reads' q3.out).2.1)); rintro e w29 ⟨v250, rfl, ho0, hb⟩; refine ⟨_, rfl, ?_⟩; have n0_ := q0_8 (Kd.R_elder' (ra q1.out) (Kd.R_base ho0) hb); have n1_ := q0_8 (Kd.R_elder' (ra q2.out) (Kd.R_base ho0) hb); have n2_ := q0_8 (Kd.R_elder' (ra q3.out) (Kd.R_base ho0) hb); have n3_ := q0_8 (Kd.R_lower (Kd.R_new' (Kd.R_new' (Kd.R_new' ho0 (Kd.R_lt (ra q1.out))) (Kd.R_lt (ra q2.out))) (Kd.R_lt (ra q3.out))) (below_size (q7_8))); have n4_ := q0_8 (bb q5.out hb); have n5_ := q0_8 (bb q4.out hb); have n6_ := q0_8 (below_step (q7_8) hb); clear q1 q2 q3 q5 q4 HB; have q1 := n0_; have q2 := n1_; have q3 := n2_; have qn := n3_; have q5 := n4_; have q4 := n5_; have HB := n6_; clear n0_ n1_ n2_ n3_ n4_ n5_ n6_; ((try clear hb)); ((try clear hb2)); ((try clear hk)); ((try clear hi)); ((try clear ho0)); obtain ⟨qk, qh, eo30⟩ := Kd.R_slice qn.out; ((first | subst eo30 | (injection eo30 with f1_ f2_ f3_; have f4_ := f1_.symm; have f5_ := f3_.symm; clear f1_ f2_ f3_; subst f4_; subst f5_))); refine hK.out _ _ ⟨(blk_cell q5.out 0).trans rfl, (blk_cell q5.out 1).trans rfl, (blk_cell q4.out 0).trans rfl, (blk_cell q4.out 1).trans rfl, ((HB.out.cell (World.block_lt_of_cell? w _ hw248_0)).trans hw248_0)⟩ (fun hHeld => ?_); clear hK K; refine norm_ (a' := ?_) ?_ ?_; rotate_left; ((show Act.put _ (some 48) _ = _); simp only [Act.put, List.setIfInBounds_toArray, List.set_cons_zero, List.set_cons_succ, i64_w, i32_w]; rfl); refine last_ (i := 8) (N := none) (bq 511 9) rfl rfl (one_of HT_.out (by kernel_rfl)) (by decide) (fun K hK => ?_); (have hs31 : w29.cell? ⟨q6, 0, none⟩ = some (.slice qq x245000_2.length qr) := (blk_cell q4.out 0).trans rfl); have hfs31 := blk_frozen q4.out 0; have hns31_0 := q8.out; have hms31_0 := qg.out; (have hs32 : w29.cell? ⟨q6, 1, none⟩ = some (.int .i64 x245001_2) := (blk_cell q4.out 1).trans rfl); have hfs32 := blk_frozen q4.out 1; have hns32_0 := q8.out; have hms32_0 := qg.out; refine skip_ (w1 := ?_) (by rfl) rfl ?_ ?_; rotate_left; (go_simp; rfl); refine hK.out _ _ ?_; clear hK K; refine done_ (done_of HT_.out (by kernel_rfl)) ?_; have hnb33 := q8.out
           have hnc33 := qg.out; (have hcz34_0 : w29.cell? ⟨q9, 0, none⟩ = some (.slice qc t231.length qa) := (blk_cell q5.out 0).trans rfl); (have hcz34_1 : w29.cell? ⟨q9, 1, none⟩ = some (.slice qe t234.length qd) := (blk_cell q5.out 1).trans rfl); have hfz34_0 := blk_frozen q5.out 0; have hfz34_1 := blk_frozen q5.out 1; (have hcz35_0 : w29.cell? ⟨q6, 0, none⟩ = some (.slice qq x245000_2.length qr) := (blk_cell q4.out 0).trans rfl); (have hcz35_1 : w29.cell? ⟨q6, 1, none⟩ = some (.int .i64 x245001_2) := (blk_cell q4.out 1).trans rfl); have hfz35_0 := blk_frozen q4.out 0; have hfz35_1 := blk_frozen q4.out 1
           (try go_wp2_with (first | ((with_reducible refine gate_callee (f := 111) rfl ?_); refine goesL_ (some 53) rfl rfl Try.func111 (by kernel_rfl) rfl #[.agg #[.slice qc t231.length qa, .slice qe t234.length qd], .agg #[.slice qk t249.length qh, .int .i64 t252], .int .i64 a3] rfl ma ?_; (with_reducible refine (spec_SureTick.calls k2 _ _ t231 _ _ t234 _ _ t249 t252 a3 t253 _ ?side1 ?side2 ?side3 ?side4 ?side5 ?side6 A25.out).mono ?_); (case side1 => refine (Kd.R_reads' (e := 3) (base := w.heap.size) (ok := fun k_ => ((some k_ ≠ (.slice qe t234.length qd : Value).ownBlock ∧ some k_ ≠ (.slice qq x245000_2.length qr : Value).ownBlock) ∧ some k_ ≠ (.slice qk t249.length qh : Value).ownBlock)) (n := t231.length) (c := qa) ?_).2.2; exact (by refine ra ?_; exact (Kd.R_mono (Kd.R_far (p := ⟨q6, 1, none⟩) (Kd.R_far (p := ⟨q6, 0, none⟩) (Kd.R_types q1.out q4.out (by decide)) (fun _ hk => hk.2) (.slice qk t249.length qh)) (fun _ hk => hk.2) (.int .i64 t252)) (fun _ h_ => h_.1)))); (case side2 => exact (Kd.R_reads' q1.out).2.1); (case side3 => refine (Kd.R_reads' (e := 3) (base := w.heap.size) (ok := fun k_ => ((some k_ ≠ (.slice qc t231.length qa : Value).ownBlock ∧ some k_ ≠ (.slice qq x245000_2.length qr : Value).ownBlock) ∧ some k_ ≠ (.slice qk t249.length qh : Value).ownBlock)) (n := t234.length) (c := qd) ?_).2.2; exact (by refine ra ?_; exact (Kd.R_mono (Kd.R_far (p := ⟨q6, 1, none⟩) (Kd.R_far (p := ⟨q6, 0, none⟩) (Kd.R_types q2.out q4.out (by decide)) (fun _ hk => hk.2) (.slice qk t249.length qh)) (fun _ hk => hk.2) (.int .i64 t252)) (fun _ h_ => h_.1)))); (case side4 => exact (Kd.R_reads' q2.out).2.1); (case side5 => refine (Kd.R_reads' (e := 3) (base := w.heap.size) (ok := fun k_ => (((True ∧ some k_ ≠ (.slice qc t231.length qa : Value).ownBlock) ∧ some k_ ≠ (.slice qe t234.length qd : Value).ownBlock) ∧ some k_ ≠ (.slice qq x245000_2.length qr : Value).ownBlock)) (n := t249.length) (c := qh) ?_).2.2; exact (by refine ra ?_; exact (Kd.R_mono (Kd.R_far (p := ⟨q6, 1, none⟩) (Kd.R_far (p := ⟨q6, 0, none⟩) (Kd.R_types qn.out q4.out (by decide)) (fun _ hk => hk.2) (.slice qk t249.length qh)) (fun _ hk => hk.2) (.int .i64 t252)) (fun _ h_ => h_.1)))); (case side6 => exact (Kd.R_reads' qn.out).2.1); rintro e w36 ⟨rfl, hb⟩; refine ⟨_, rfl, ?_⟩; have n0_ := q0_8 (Kd.R_below (by refine ra ?_; exact (Kd.R_mono (Kd.R_far (p := ⟨q6, 1, none⟩) (Kd.R_far (p := ⟨q6, 0, none⟩) (Kd.R_types q1.out q4.out (by decide)) (fun _ hk => hk.2) (.slice qk t249.length qh)) (fun _ hk => hk.2) (.int .i64 t252)) (fun _ h_ => h_.1))) hb); have n1_ := q0_8 (Kd.R_below (by refine ra ?_; exact (Kd.R_mono (Kd.R_far (p := ⟨q6, 1, none⟩) (Kd.R_far (p := ⟨q6, 0, none⟩) (Kd.R_types q2.out q4.out (by decide)) (fun _ hk => hk.2) (.slice qk t249.length qh)) (fun _ hk => hk.2) (.int .i64 t252)) (fun _ h_ => h_.1))) hb); have n2_ := q0_8 (Kd.R_below (by refine ra ?_; exact (Kd.R_mono (Kd.R_far (p := ⟨q6, 1, none⟩) (Kd.R_far (p := ⟨q6, 0, none⟩) (Kd.R_types q3.out q4.out (by decide)) (fun _ hk => hk.2) (.slice qk t249.length qh)) (fun _ hk => hk.2) (.int .i64 t252)) (fun _ h_ => h_.1))) hb); have n3_ := q0_8 (Kd.R_below (by refine ra ?_; exact (Kd.R_mono (Kd.R_far (p := ⟨q6, 1, none⟩) (Kd.R_far (p := ⟨q6, 0, none⟩) (Kd.R_types qn.out q4.out (by decide)) (fun _ hk => hk.2) (.slice qk t249.length qh)) (fun _ hk => hk.2) (.int .i64 t252)) (fun _ h_ => h_.1))) hb); have n4_ := q0_8 (blk_below (g := q9) (o := .cells #[.slice qc t231.length qa, .slice qe t234.length qd] 42 (0, 0)) (by refine ba ?_; refine blk_far ?_ q8.out _; refine ba ?_; refine blk_far ?_ q8.out _; refine ba ?_; exact q5.out) hb); have n5_ := q0_8 (blk_below (g := q6) (o := .cells #[.slice qk t249.length qh, .int .i64 t252] 51 (0, 0)) (by refine ba ?_; refine blk_put (cs := #[.slice qk t249.length qh, .int .i64 x245001_2]) ?_ 1 _ rfl; refine ba ?_; refine blk_put (cs := #[.slice qq x245000_2.length qr, .int .i64 x245001_2]) ?_ 0 _ rfl; refine ba ?_; exact q4.out) hb); have n6_ := q0_8 (below_step (q7_8) hb); clear q1; clear q2; clear q3; clear qn; clear q5; clear q4; clear HB; have q1 := n0_; have q2 := n1_; have q3 := n2_; have qn := n3_; have q5 := n4_; have q4 := n5_; have HB := n6_; clear n0_ n1_ n2_ n3_ n4_ n5_ n6_; (try clear hb); (try clear hb2); (try clear hk); (try clear hi)) | ((with_reducible refine gate_callee (f := 110) rfl ?_); refine goesL_ (some 54) rfl rfl Try.func110 (by kernel_rfl) rfl #[.int .i64 x14_2, .int .i64 t253] rfl ma ?_; (with_reducible refine (spec_Max.calls x14_2 t253 t254 _ A26.out).mono ?_); rintro e w' ⟨rfl, ⟨nd, rfl⟩⟩; refine ⟨_, rfl, ?_⟩)))
           (go_roundg k2)
           case measure => have := HJ6.out; have := HK2.out; omega
           case rel => exact ⟨(t254), (wrap64 (x15_2 + 1)), (t249), (t252), (.slice qk t249.length qh), (by first | rfl | (simp; done) | (simp [*]; done)), (by first | rfl | (simp; done) | (simp [*]; done)), H', ⟨by have := HJ6.out; have := HK2.out; omega⟩, ⟨by refine ra ?_; exact Kd.R_mono q1.out (fun _ hk => ⟨hk.1.1, hk.2⟩)⟩, ⟨by refine ra ?_; exact Kd.R_mono q2.out (fun _ hk => ⟨hk.1.1, hk.2⟩)⟩, ⟨by refine ra ?_; exact Kd.R_mono qn.out (fun _ hk => ⟨hk.1.1.2, hk.1.2⟩)⟩, ⟨by refine ba ?_; exact q5.out⟩, ⟨by refine ba ?_; exact q4.out⟩, ⟨by exact (q7_8)⟩⟩
         · rw [if_neg c23] at H
           exact absurd H (by simp)
       · rw [if_neg c22] at H
         (have c22b0 : decide (x15_2 < (l2.length : Int)) = false := decide_eq_false c22); clear c22; replace H := Option.bind_eq_some_iff.mp H; obtain ⟨t255, A370, H⟩ := H; replace H : (some (t255, true)) = some (r1, r2) := H; have A37 := q0_8 A370; clear A370; (simp only [Option.some.injEq, Prod.mk.injEq] at H); obtain ⟨rfl, rfl⟩ := H; (go_wp2_with (first | ((with_reducible refine gate_callee (f := 112) rfl ?_); refine goesL_ (some 58) rfl rfl Try.func112 (by kernel_rfl) rfl #[.slice A0 l0.length c0, .int .i64 a1, .int .i64 (-1), .int .i64 x14_2] rfl ma ?_; (with_reducible refine (spec_DueEvents.calls k2 _ _ l0 a1 (-1) x14_2 t255 _ ?side1 ?side2 A37.out).mono ?_); (case side1 => exact ca (Kd.C_below HR0.out HB.out)); (case side2 => exact HC0.out); rintro e w38 ⟨v256, rfl, ho0, hb⟩; refine ⟨_, rfl, ?_⟩; have n0_ := q0_8 (Kd.R_below (ra q1.out) hb); have n1_ := q0_8 (Kd.R_below (ra q2.out) hb); have n2_ := q0_8 (Kd.R_below (ra q3.out) hb); have n3_ := q0_8 (Kd.R_lower ho0 (below_size (q7_8))); have n4_ := q0_8 (bb q5.out hb); have n5_ := q0_8 (bb q4.out hb); have n6_ := q0_8 (below_step (q7_8) hb); clear q1; clear q2; clear q3; clear q5; clear q4; clear HB; have q1 := n0_; have q2 := n1_; have q3 := n2_; have qv := n3_; have q5 := n4_; have q4 := n5_; have HB := n6_; clear n0_ n1_ n2_ n3_ n4_ n5_ n6_; (try clear hb); (try clear hb2); (try clear hk); (try clear hi); (try clear ho0)))); (go_ret2); (exact ⟨_, by first | rfl | (simp [errW_none, errW_some] <;> rfl) | (simp [*, errW_none, errW_some] <;> rfl), by refine ra ?_; exact qv.out, by exact (q7_8)⟩)
/-! ### impl_InRange: function 77 -/
def impl_InRange.f (a0 : Int) (a1 : Int) (a2 : Int) : Option (Bool) := if a1 ≤ a0 then (some (decide (a0 ≤ a2))) else (some false)
set_option maxHeartbeats 8000000 in
set_option maxRecDepth 100000 in
theorem impl_InRange.calls (a0 : Int) (a1 : Int) (a2 : Int) (r : Bool) (w : World) (h : impl_InRange.f a0 a1 a2 = some r) :
 Calls Try.prog 77 #[.int .i64 a0, .int .i64 a1, .int .i64 a2] w fun e w' => e = .returned (.bool r) ∧ Drawn0 w w' := by
 (have H : (if a1 ≤ a0 then (some (decide (a0 ≤ a2))) else (some false)) = some r := h); clear h
 by_cases c4 : a1 ≤ a0
 · rw [if_pos c4] at H
   (have c4b0 : decide (a1 ≤ a0) = true := decide_eq_true c4); clear c4; obtain rfl := Option.some.inj H; go_enter Try.func77, Try.ntmps77; (go_wp2); go_ret; exact ⟨by first | rfl | (simp; done) | (simp [*]; done), by repeat (first | exact Drawn0.refl _ | apply Drawn0.step)⟩
 · rw [if_neg c4] at H
   (have c4b0 : decide (a1 ≤ a0) = false := decide_eq_false c4); clear c4; obtain rfl := Option.some.inj H; go_enter Try.func77, Try.ntmps77; (go_wp2); go_ret; exact ⟨by first | rfl | (simp; done) | (simp [*]; done), by repeat (first | exact Drawn0.refl _ | apply Drawn0.step)⟩
/-! ### cmp_Or_int: function 148 -/
def cmp_Or_int.l0 : Nat → Int → List Int → Int → Int → Option (Int)
 | 0, _, _, _, _ => none
 | k + 1, x3, x6, x7, x8 => if x8 < x7 then (if 0 ≤ x8 then (if x8 < (x6.length : Int) then (if (rd x6 x8) = x3 then (cmp_Or_int.l0 k x3 x6 x7 (wrap64 (x8 + 1))) else (some (rd x6 x8))) else (none)) else (none)) else (some x3)
def cmp_Or_int.f (k : Nat) (l0 : List Int) : Option (Int) := cmp_Or_int.l0 k 0 l0 (l0.length : Int) 0
theorem cmp_Or_int.mono_l : ∀ k, (∀ y0 y1 y2 y3, LeO (cmp_Or_int.l0 k y0 y1 y2 y3) (cmp_Or_int.l0 (k + 1) y0 y1 y2 y3))
 | 0 => fun _ _ _ _ r h => by simp [cmp_Or_int.l0] at h
 | k + 1 => by
  have ih0 := cmp_Or_int.mono_l k
  · intro y0 y1 y2 y3
    unfold cmp_Or_int.l0
    repeat' first
    | (with_reducible exact ih0 _ _ _ _)
    | (with_reducible exact LeO.refl _)
    | (with_reducible exact LeO.none _)
    | (with_reducible refine LeO.ite ?_ ?_)
    | (with_reducible refine LeO.bind ?_ (fun _ => ?_))
    | exact ih0 _ _ _ _
    | exact LeO.none _
    | refine LeO.ite ?_ ?_
    | refine LeO.bind ?_ (fun _ => ?_)
theorem cmp_Or_int.mono : ∀ a0 k, LeO (cmp_Or_int.f k a0) (cmp_Or_int.f (k + 1) a0) := by
 intro a0 k; have ih0 := cmp_Or_int.mono_l k; unfold cmp_Or_int.f
 repeat' first
  | (with_reducible exact ih0 _ _ _ _)
  | (with_reducible exact LeO.refl _)
  | (with_reducible exact LeO.none _)
  | (with_reducible refine LeO.ite ?_ ?_)
  | (with_reducible refine LeO.bind ?_ (fun _ => ?_))
  | exact ih0 _ _ _ _
  | exact LeO.none _
  | refine LeO.ite ?_ ?_
  | refine LeO.bind ?_ (fun _ => ?_)
set_option maxHeartbeats 8000000 in
set_option maxRecDepth 100000 in
theorem cmp_Or_int.calls (k : Nat) (A0 : Option Addr) (c0 : Nat) (l0 : List Int) (r : Int) (w : World) (hr0 : Kd.C (Kd.int .i64) w A0 l0.length l0) (hc0 : l0.length ≤ c0) (h : cmp_Or_int.f k l0 = some r) :
 Calls Try.prog 148 #[.slice A0 l0.length c0] w fun e w' => e = .returned (.int .i64 r) ∧ Drawn0 w w' := by
 have HR0 := q0_8 hr0; have HC0 := q0_8 hc0; clear hr0 hc0; (have H : (cmp_Or_int.l0 k 0 l0 (l0.length : Int) 0) = some r := h); clear h; (have H' := q0_8 H); clear H; go_enter Try.func148, Try.ntmps148; (go_wp2); (go_loopg [8] k (fun kq v8 w' => ∃ (x8_1 : Int), v8 = .int .i64 x8_1 ∧ Aside0 (cmp_Or_int.l0 kq 0 l0 (l0.length : Int) x8_1 = some r) ∧ Aside0 (kq ≤ k) ∧ Drawn0 w w'))
 case atStart => exact ⟨(0), (by first | rfl | (simp; done) | (simp [*]; done)), H', ⟨Nat.le_refl _⟩, by repeat (first | exact Drawn0.refl _ | apply Drawn0.step)⟩
 case round =>
  clear H'; (try clear c1); obtain ⟨x8_1, rfl, HA, HK1, ⟨m1, rfl⟩⟩ := hrel
  cases gk with
  | zero => exact absurd HA.out (by simp [cmp_Or_int.l0])
  | succ k1 =>
   have H := HA.out; clear HA; (simp only [cmp_Or_int.l0] at H)
   by_cases c2 : x8_1 < (l0.length : Int)
   · rw [if_pos c2] at H
     (have c2b0 : decide (x8_1 < (l0.length : Int)) = true := decide_eq_true c2); clear c2
     by_cases c3 : 0 ≤ x8_1
     · rw [if_pos c3] at H
       (have c3b0 : decide (0 ≤ x8_1) = true := decide_eq_true c3); clear c3
       by_cases c4 : x8_1 < (l0.length : Int)
       · rw [if_pos c4] at H
         (have c4b0 : decide (x8_1 < (l0.length : Int)) = true := decide_eq_true c4); clear c4
         by_cases c5 : (rd l0 x8_1) = 0
         · rw [if_pos c5] at H
           (have c5b0 : ((rd l0 x8_1) == 0) = true := beq_iff_eq.mpr c5); (have c5b1 : ((rd l0 x8_1) != 0) = false := bne_eq_false_iff_eq.mpr c5); clear c5; (have H' := q0_8 H); clear H; (have p258 : 0 ≤ (x8_1 : Int) := of_decide_eq_true (by first | (with_reducible assumption) | assumption)); (have q258 : x8_1 < (l0.length : Int) := of_decide_eq_true (by first | (with_reducible assumption) | assumption)); obtain ⟨ad258, e258, hx258_0⟩ := Kd.at_int HR0.out x8_1 p258 q258
           cases e258
           replace p258 := eq_true p258; replace q258 := eq_true q258; (go_wp2); (go_roundg k1)
           case measure => have := HK1.out; omega
           case rel => exact ⟨(wrap64 (x8_1 + 1)), (by first | rfl | (simp; done) | (simp [*]; done)), H', ⟨by have := HK1.out; omega⟩, by repeat (first | exact Drawn0.refl _ | apply Drawn0.step)⟩
         · rw [if_neg c5] at H
           (have c5b0 : ((rd l0 x8_1) == 0) = false := beq_eq_false_iff_ne.mpr c5); (have c5b1 : ((rd l0 x8_1) != 0) = true := bne_iff_ne.mpr c5); obtain rfl := Option.some.inj H; (have p258 : 0 ≤ (x8_1 : Int) := of_decide_eq_true (by first | (with_reducible assumption) | assumption)); (have q258 : x8_1 < (l0.length : Int) := of_decide_eq_true (by first | (with_reducible assumption) | assumption)); obtain ⟨ad258, e258, hx258_0⟩ := Kd.at_int HR0.out x8_1 p258 q258
           cases e258
           replace p258 := eq_true p258; replace q258 := eq_true q258; (go_wp2); go_ret; exact ⟨by first | rfl | (simp; done) | (simp [*]; done), by repeat (first | exact Drawn0.refl _ | apply Drawn0.step)⟩
       · rw [if_neg c4] at H
         exact absurd H (by simp)
     · rw [if_neg c3] at H
       exact absurd H (by simp)
   · rw [if_neg c2] at H
     (have c2b0 : decide (x8_1 < (l0.length : Int)) = false := decide_eq_false c2); clear c2; obtain rfl := Option.some.inj H; (go_wp2); go_ret; exact ⟨by first | rfl | (simp; done) | (simp [*]; done), by repeat (first | exact Drawn0.refl _ | apply Drawn0.step)⟩
end Go.Proofs.Ytlkcbmcbmanmiaa.PFnExactPlayAlong
