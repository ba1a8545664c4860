-- Written for this claim by a program of this repository (wip/tools/print2.py), out of the translation; Lean checks it.
import Derived.Test.YtlkfhddckgjlnaaPFnVoicesx0
import Derived.Test.YtlkfhddckgjlnaaPFnVoicesx2
import Derived.Test.YtlkfhddckgjlnaaPFnVoicesx6
import Derived.Test.YtlkfhddckgjlnaaPFnVoicesx8
namespace Go.Proofs.Ytlkfhddckgjlnaa.PFnVoices
open Go.RowKit Go.Proofs.YtlkfhddckgjlnaaW.PrintWords Go.Proofs.YtlkfhddckgjlnaaW.PrintLast Go.Proofs.YtlkfhddckgjlnaaW.PrintMore
attribute [local go_sem] max2_int min2_int max_two min_two max_three min_three max_four min_four   -- for this text's walks alone
set_option linter.unusedVariables false
set_option linter.unusedSimpArgs false
-- SHORT
theorem q4_9 {p : Prop} (f : p := by repeat (first | (with_reducible first | exact HB.out | apply below_alloc | apply pw_below_drewN | apply below_drew1) | exact HB.out)) : p := f
theorem q7_9 {p : Prop} (f : p := by repeat (first | (with_reducible first | exact HB.out | apply below_alloc | apply pw_below_drewN | apply below_drew1 | refine below_set ?_ q9.out) | exact HB.out)) : p := f
theorem q8_9 {p : Prop} (f : p := by repeat (first | (with_reducible first | exact HB.out | apply below_alloc | apply pw_below_drewN | apply below_drew1 | refine below_set ?_ qd.out) | exact HB.out)) : p := f
theorem q0_9 {p : Prop} (h : p) : Aside0 p := ⟨h⟩
/-! ### spec_OnsetsOf: function 23 -/
mutual
def spec_OnsetsOf.l0 : Nat → List (S85) → Int → Int → List Int → Int → Option (List Int)
 | 0, _, _, _, _, _ => none
 | k + 1, x0, x1, x2, x7, x8 => if x8 < (x0.length : Int) then ((spec_IsScore.f k x0).bind fun t466 => (spec_OnsetsOf.j1 k x0 x1 x2 x7 x8 t466)) else (spec_OnsetsOf.j1 k x0 x1 x2 x7 x8 false)
def spec_OnsetsOf.j1 : Nat → List (S85) → Int → Int → List Int → Int → Bool → Option (List Int)
 | 0, _, _, _, _, _, _ => none
 | k + 1, x0, x1, x2, x7, x8, x17 => if x17 = true then (if 0 ≤ x8 then (if x8 < (x0.length : Int) then (if ((rd_T85 x0 x8).f3) = x1 then ((spec_l8Num.f k x7 ((rd_T85 x0 x8).f0)).bind fun t469 => (spec_OnsetsOf.l0 k x0 x1 x2 t469 (wrap64 (x8 + 1)))) else (if ((rd_T85 x0 x8).f3) = x2 then ((spec_l8Num.f k x7 ((rd_T85 x0 x8).f0)).bind fun t474 => (spec_OnsetsOf.l0 k x0 x1 x2 t474 (wrap64 (x8 + 1)))) else (spec_OnsetsOf.l0 k x0 x1 x2 x7 (wrap64 (x8 + 1))))) else (none)) else (none)) else (some x7)
end
def spec_OnsetsOf.f (k : Nat) (l0 : List (S85)) (a1 : Int) (a2 : Int) : Option (List Int) := spec_OnsetsOf.l0 k l0 a1 a2 (([] : List Int)) 0
theorem spec_OnsetsOf.mono_l : ∀ k, (∀ y0 y1 y2 y3 y4, LeO (spec_OnsetsOf.l0 k y0 y1 y2 y3 y4) (spec_OnsetsOf.l0 (k + 1) y0 y1 y2 y3 y4)) ∧ (∀ y0 y1 y2 y3 y4 y5, LeO (spec_OnsetsOf.j1 k y0 y1 y2 y3 y4 y5) (spec_OnsetsOf.j1 (k + 1) y0 y1 y2 y3 y4 y5))
 | 0 => ⟨fun _ _ _ _ _ r h => by simp [spec_OnsetsOf.l0] at h, fun _ _ _ _ _ _ r h => by simp [spec_OnsetsOf.j1] at h⟩
 | k + 1 => by
  obtain ⟨ih0, ih1⟩ := spec_OnsetsOf.mono_l k; refine ⟨?_, ?_⟩
  · intro y0 y1 y2 y3 y4
    unfold spec_OnsetsOf.l0
    repeat' first
    | (with_reducible exact ih0 _ _ _ _ _)
    | (with_reducible exact ih1 _ _ _ _ _ _)
    | (with_reducible exact spec_IsScore.mono _ _)
    | (with_reducible exact spec_l8Num.mono _ _ _)
    | (with_reducible exact LeO.refl _)
    | (with_reducible exact LeO.none _)
    | (with_reducible refine LeO.ite ?_ ?_)
    | (with_reducible refine LeO.bind ?_ (fun _ => ?_))
    | exact ih0 _ _ _ _ _
    | exact ih1 _ _ _ _ _ _
    | exact spec_IsScore.mono _ _
    | exact spec_l8Num.mono _ _ _
    | exact LeO.none _
    | refine LeO.ite ?_ ?_
    | refine LeO.bind ?_ (fun _ => ?_)
  · intro y0 y1 y2 y3 y4 y5
    unfold spec_OnsetsOf.j1
    repeat' first
    | (with_reducible exact ih0 _ _ _ _ _)
    | (with_reducible exact ih1 _ _ _ _ _ _)
    | (with_reducible exact spec_IsScore.mono _ _)
    | (with_reducible exact spec_l8Num.mono _ _ _)
    | (with_reducible exact LeO.refl _)
    | (with_reducible exact LeO.none _)
    | (with_reducible refine LeO.ite ?_ ?_)
    | (with_reducible refine LeO.bind ?_ (fun _ => ?_))
    | exact ih0 _ _ _ _ _
    | exact ih1 _ _ _ _ _ _
    | exact spec_IsScore.mono _ _
    | exact spec_l8Num.mono _ _ _
    | exact LeO.none _
    | refine LeO.ite ?_ ?_
    | refine LeO.bind ?_ (fun _ => ?_)
theorem spec_OnsetsOf.mono : ∀ a0 a1 a2 k, LeO (spec_OnsetsOf.f k a0 a1 a2) (spec_OnsetsOf.f (k + 1) a0 a1 a2) := by
 intro a0 a1 a2 k; obtain ⟨ih0, ih1⟩ := spec_OnsetsOf.mono_l k; unfold spec_OnsetsOf.f
 repeat' first
  | (with_reducible exact ih0 _ _ _ _ _)
  | (with_reducible exact ih1 _ _ _ _ _ _)
  | (with_reducible exact spec_IsScore.mono _ _)
  | (with_reducible exact spec_l8Num.mono _ _ _)
  | (with_reducible exact LeO.refl _)
  | (with_reducible exact LeO.none _)
  | (with_reducible refine LeO.ite ?_ ?_)
  | (with_reducible refine LeO.bind ?_ (fun _ => ?_))
  | exact ih0 _ _ _ _ _
  | exact ih1 _ _ _ _ _ _
  | exact spec_IsScore.mono _ _
  | exact spec_l8Num.mono _ _ _
  | exact LeO.none _
  | refine LeO.ite ?_ ?_
  | refine LeO.bind ?_ (fun _ => ?_)
set_option maxHeartbeats 8000000 in
set_option maxRecDepth 100000 in
theorem spec_OnsetsOf.calls (k : Nat) (A0 : Option Addr) (c0 : Nat) (l0 : List (S85)) (a1 : Int) (a2 : Int) (r : List Int) (w : World) (hr0 : Kd.C k85 w A0 l0.length l0) (hc0 : l0.length ≤ c0) (h : spec_OnsetsOf.f k l0 a1 a2 = some r) :
 Calls Try.prog 23 #[.slice A0 l0.length c0, .int .i64 a1, .int .i64 a2] w fun e w' => ∃ v0_ : Value, e = .returned (v0_) ∧ Kd.R (Kd.int .i64) 3 w' w.heap.size (fun _ => True) v0_ r ∧ Below w.heap.size w w' := by
 have HR0 := q0_9 hr0; have HC0 := q0_9 hc0; clear hr0 hc0; have HB := q0_9 (Below.refl w.heap.size w); (have H : (spec_OnsetsOf.l0 k l0 a1 a2 (([] : List Int)) 0) = some r := h); clear h; obtain ⟨y463, hy463⟩ : ∃ y_ : List Int, y_ = (([] : List Int)) := ⟨_, rfl⟩; (replace H : (spec_OnsetsOf.l0 k l0 a1 a2 y463 0) = some r := by first | (rw [hy463]; with_reducible exact H) | (have H2_ := (Option.bind_some _ _).symm.trans H; rw [hy463]; with_reducible exact H2_) | (have H2_ := (Option.bind_some _ _).symm.trans H; with_reducible exact H2_) | with_reducible exact H | (rw [hy463]; exact H) | exact H); have Ny463 := q0_9 hy463; clear hy463; (have H' := q0_9 H); clear H; go_enter Try.func23, Try.ntmps23; (go_wp2_with (first | ((with_reducible refine gate_dst (N := 9) rfl ?_); refine Kd.R_lit (Kd.int .i64) _ 3 ?hg (N := 9) ?hd (xs := ([] : List Int)) (inner := []) (ok := fun _ => True) (okp := fun _ => True) ?hr ?hp (fun _ hk => hk) trivial (Below.refl _ _) (Nat.le_refl _) (by simp) ?_; (case hd => rfl); (case hg => rfl); (case hr => first | (go_simp; done) | (go_simp; rfl)); (case hp => exact (Reps.none _ _)); intro v464 w4 ho5 hb hg_ hnew_; clear hg_ hnew_; (first | rw [← Ny463.out] at ho5 | (simp only [Int.reduceToNat] at ho5; rw [← Ny463.out] at ho5)); have n0_ := q0_9 (Kd.R_lower ho5 (below_size (q4_9))); have n1_ := q0_9 (below_step (q4_9) hb); clear HB; have qa := n0_; have HB := n1_; clear n0_ n1_; clear hb ho5))); (go_loopg [7, 8] k (fun kq v7 v8 w' => ∃ (x7_1 : List Int) (x8_1 : Int), v8 = .int .i64 x8_1 ∧ Aside0 (spec_OnsetsOf.l0 kq l0 a1 a2 x7_1 x8_1 = some r) ∧ Aside0 (kq ≤ k) ∧ Aside0 (Kd.R (Kd.int .i64) 3 w' w.heap.size (fun _ => True) v7 x7_1) ∧ Aside0 (Below w.heap.size w w')))
 case atStart => exact ⟨(y463), (0), (by first | rfl | (simp; done) | (simp [*]; done)), H', ⟨Nat.le_refl _⟩, ⟨by refine ra ?_; exact qa.out⟩, ⟨by exact (q4_9)⟩⟩
 case round =>
  clear H'; (try clear c2); (try clear p2); obtain ⟨x7_1, x8_1, rfl, HA, HK1, q5, HB⟩ := hrel
  cases gk with
  | zero => exact absurd HA.out (by simp [spec_OnsetsOf.l0])
  | succ k1 =>
   have H := HA.out; clear HA; (simp only [spec_OnsetsOf.l0] at H); have HC6 := q0_9 H; clear H; (go_upto_region 3 with (fail)); (go_cut [17] (fun v17 wc => ∃ (kq : Nat) (x17_5 : Bool), v17 = .bool x17_5 ∧ Aside0 (spec_OnsetsOf.j1 kq l0 a1 a2 x7_1 x8_1 x17_5 = some r) ∧ Aside0 (kq ≤ k1) ∧ Aside0 (Kd.R (Kd.int .i64) 3 wc w.heap.size (fun _ => True) u7 x7_1) ∧ Aside0 (Below w.heap.size w wc)))
   case first =>
    have H := HC6.out; clear HC6
    by_cases c7 : x8_1 < (l0.length : Int)
    · rw [if_pos c7] at H
      (have c7b0 : decide (x8_1 < (l0.length : Int)) = true := decide_eq_true c7); clear c7; ((first | rw [c7b0] | (simp only [i64_w, i32_w]; rw [c7b0]) | skip)); replace H := Option.bind_eq_some_iff.mp H; obtain ⟨t466, A80, H⟩ := H; replace H : (spec_OnsetsOf.j1 k1 l0 a1 a2 x7_1 x8_1 t466) = some r := H; have A8 := q0_9 A80; clear A80; (have H' := q0_9 H); clear H; (go_wp2_with (first | (go_at_call 62; (with_reducible refine (spec_IsScore.calls k1 _ _ l0 t466 _ ?side1 ?side2 A8.out).mono ?_); (case side1 => exact ca (Kd.C_below HR0.out HB.out)); (case side2 => exact HC0.out); rintro e w9 ⟨rfl, hb⟩; have n0_ := q0_9 (Kd.R_below (ra q5.out) hb); have n1_ := q0_9 (below_step (q4_9) hb); clear q5; clear HB; have q5 := n0_; have HB := n1_; clear n0_ n1_; (try clear hb); (try clear hb2); (try clear hk); (try clear hi)))); (go_meet)
      case rel => exact ⟨_, (t466), (by first | rfl | (simp; done) | (simp [*]; done)), H', ⟨by have := HK1.out; first | omega | exact Nat.le_refl _⟩, ⟨by refine ra ?_; exact q5.out⟩, ⟨by exact (q4_9)⟩⟩
    · rw [if_neg c7] at H
      (have c7b0 : decide (x8_1 < (l0.length : Int)) = false := decide_eq_false c7); clear c7; ((first | rw [c7b0] | (simp only [i64_w, i32_w]; rw [c7b0]) | skip)); (have H' := q0_9 H); clear H; (go_wp2); (go_meet)
      case rel => exact ⟨_, (false), (by first | rfl | (simp; done) | (simp [*]; done)), H', ⟨by have := HK1.out; first | omega | exact Nat.le_refl _⟩, ⟨by refine ra ?_; exact q5.out⟩, ⟨by exact (q4_9)⟩⟩
   case rest =>
    clear HC6; (try clear c2); (try clear p2); (try clear c7); (try clear c7b0); (try clear p2); obtain ⟨kq, x17_5, rfl, HA, HJ5, q5, HB⟩ := hcut
    cases kq with
    | zero => exact absurd HA.out (by simp [spec_OnsetsOf.j1])
    | succ kj5 =>
     have H := HA.out; clear HA; (simp only [spec_OnsetsOf.j1] at H)
     by_cases c10 : x17_5 = true
     · subst c10
       have H1 : (if 0 ≤ x8_1 then (if x8_1 < (l0.length : Int) then (if ((rd_T85 l0 x8_1).f3) = a1 then ((spec_l8Num.f kj5 x7_1 ((rd_T85 l0 x8_1).f0)).bind fun t469 => (spec_OnsetsOf.l0 kj5 l0 a1 a2 t469 (wrap64 (x8_1 + 1)))) else (if ((rd_T85 l0 x8_1).f3) = a2 then ((spec_l8Num.f kj5 x7_1 ((rd_T85 l0 x8_1).f0)).bind fun t474 => (spec_OnsetsOf.l0 kj5 l0 a1 a2 t474 (wrap64 (x8_1 + 1)))) else (spec_OnsetsOf.l0 kj5 l0 a1 a2 x7_1 (wrap64 (x8_1 + 1))))) else (none)) else (none)) = some r := by rw [if_pos rfl] at H; exact H
       clear H; have H := H1; clear H1
       by_cases c11 : 0 ≤ x8_1
       · rw [if_pos c11] at H
         (have c11b0 : decide (0 ≤ x8_1) = true := decide_eq_true c11); clear c11
         by_cases c12 : x8_1 < (l0.length : Int)
         · rw [if_pos c12] at H
           (have c12b0 : decide (x8_1 < (l0.length : Int)) = true := decide_eq_true c12); clear c12
           by_cases c13 : ((rd_T85 l0 x8_1).f3) = a1
           · rw [if_pos c13] at H
             (have c13b0 : (((rd_T85 l0 x8_1).f3) == a1) = true := beq_iff_eq.mpr c13); (have c13b1 : (((rd_T85 l0 x8_1).f3) != a1) = false := bne_eq_false_iff_eq.mpr c13); clear c13; replace H := Option.bind_eq_some_iff.mp H; obtain ⟨t469, A140, H⟩ := H; replace H : (spec_OnsetsOf.l0 kj5 l0 a1 a2 t469 (wrap64 (x8_1 + 1))) = some r := H; have A14 := q0_9 A140; clear A140; (have H' := q0_9 H); clear H; (have p467 : 0 ≤ (x8_1 : Int) := of_decide_eq_true (by first | (with_reducible assumption) | assumption)); (have q467 : x8_1 < (l0.length : Int) := of_decide_eq_true (by first | (with_reducible assumption) | assumption)); obtain ⟨ad467, e467, hx467_0, hx467_1, hx467_2, hx467_3⟩ := at_T85 HR0.out x8_1 p467 q467
             cases e467
             replace hx467_0 := (HB.out.cell (World.block_lt_of_cell? w _ hx467_0)).trans hx467_0; replace hx467_1 := (HB.out.cell (World.block_lt_of_cell? w _ hx467_1)).trans hx467_1; replace hx467_2 := (HB.out.cell (World.block_lt_of_cell? w _ hx467_2)).trans hx467_2; replace hx467_3 := (HB.out.cell (World.block_lt_of_cell? w _ hx467_3)).trans hx467_3; replace p467 := eq_true p467; replace q467 := eq_true q467; (have p468 : 0 ≤ (x8_1 : Int) := of_decide_eq_true (by first | (with_reducible assumption) | assumption)); (have q468 : x8_1 < (l0.length : Int) := of_decide_eq_true (by first | (with_reducible assumption) | assumption)); obtain ⟨ad468, e468, hx468_0, hx468_1, hx468_2, hx468_3⟩ := at_T85 HR0.out x8_1 p468 q468; obtain rfl : ad467 = ad468 := (by injection e468); replace hx468_0 := (HB.out.cell (World.block_lt_of_cell? w _ hx468_0)).trans hx468_0; replace hx468_1 := (HB.out.cell (World.block_lt_of_cell? w _ hx468_1)).trans hx468_1; replace hx468_2 := (HB.out.cell (World.block_lt_of_cell? w _ hx468_2)).trans hx468_2; replace hx468_3 := (HB.out.cell (World.block_lt_of_cell? w _ hx468_3)).trans hx468_3; replace p468 := eq_true p468; replace q468 := eq_true q468; obtain ⟨qe, qf, eo15⟩ := Kd.R_slice q5.out; subst eo15; (go_wp2_with (first | ((with_reducible refine gate_callee (f := 63) rfl ?_); refine goesL_ (some 42) rfl rfl Try.func63 (by kernel_rfl) rfl #[.slice qe x7_1.length qf, .int .i64 ((rd_T85 l0 x8_1).f0)] rfl ma ?_; (with_reducible refine (spec_l8Num.calls kj5 _ _ x7_1 ((rd_T85 l0 x8_1).f0) t469 _ ?side1 ?side2 A14.out).mono ?_); (case side1 => exact ca (Kd.R_reads' q5.out).2.2); (case side2 => exact (Kd.R_reads' q5.out).2.1); rintro e w16 ⟨v470, rfl, ho0, hb⟩; refine ⟨_, rfl, ?_⟩; have n0_ := q0_9 (Kd.R_elder' (ra q5.out) (Kd.R_base ho0) hb); have n1_ := q0_9 (Kd.R_lower (Kd.R_new' ho0 (Kd.R_lt (ra q5.out))) (below_size (q4_9))); have n2_ := q0_9 (below_step (q4_9) hb); clear q5; clear HB; have q5 := n0_; have qb := n1_; have HB := n2_; clear n0_ n1_ n2_; (try clear hb); (try clear hb2); (try clear hk); (try clear hi); (try clear ho0)))); (go_roundg kj5)
             case measure => have := HK1.out; have := HJ5.out; omega
             case rel => exact ⟨(t469), (wrap64 (x8_1 + 1)), (by first | rfl | (simp; done) | (simp [*]; done)), H', ⟨by have := HK1.out; have := HJ5.out; omega⟩, ⟨by refine ra ?_; exact Kd.R_mono qb.out (fun _ hk => trivial)⟩, ⟨by exact (q4_9)⟩⟩
           · rw [if_neg c13] at H
             (have c13b0 : (((rd_T85 l0 x8_1).f3) == a1) = false := beq_eq_false_iff_ne.mpr c13); (have c13b1 : (((rd_T85 l0 x8_1).f3) != a1) = true := bne_iff_ne.mpr c13)
             by_cases c17 : ((rd_T85 l0 x8_1).f3) = a2
             · rw [if_pos c17] at H
               (have c17b0 : (((rd_T85 l0 x8_1).f3) == a2) = true := beq_iff_eq.mpr c17); (have c17b1 : (((rd_T85 l0 x8_1).f3) != a2) = false := bne_eq_false_iff_eq.mpr c17); clear c17; replace H := Option.bind_eq_some_iff.mp H; obtain ⟨t474, A180, H⟩ := H; replace H : (spec_OnsetsOf.l0 kj5 l0 a1 a2 t474 (wrap64 (x8_1 + 1))) = some r := H; have A18 := q0_9 A180; clear A180; (have H' := q0_9 H); clear H; (have p467 : 0 ≤ (x8_1 : Int) := of_decide_eq_true (by first | (with_reducible assumption) | assumption)); (have q467 : x8_1 < (l0.length : Int) := of_decide_eq_true (by first | (with_reducible assumption) | assumption)); obtain ⟨ad467, e467, hx467_0, hx467_1, hx467_2, hx467_3⟩ := at_T85 HR0.out x8_1 p467 q467
               cases e467
               replace hx467_0 := (HB.out.cell (World.block_lt_of_cell? w _ hx467_0)).trans hx467_0; replace hx467_1 := (HB.out.cell (World.block_lt_of_cell? w _ hx467_1)).trans hx467_1; replace hx467_2 := (HB.out.cell (World.block_lt_of_cell? w _ hx467_2)).trans hx467_2; replace hx467_3 := (HB.out.cell (World.block_lt_of_cell? w _ hx467_3)).trans hx467_3; replace p467 := eq_true p467; replace q467 := eq_true q467; (have p472 : 0 ≤ (x8_1 : Int) := of_decide_eq_true (by first | (with_reducible assumption) | assumption)); (have q472 : x8_1 < (l0.length : Int) := of_decide_eq_true (by first | (with_reducible assumption) | assumption)); obtain ⟨ad472, e472, hx472_0, hx472_1, hx472_2, hx472_3⟩ := at_T85 HR0.out x8_1 p472 q472; obtain rfl : ad467 = ad472 := (by injection e472); replace hx472_0 := (HB.out.cell (World.block_lt_of_cell? w _ hx472_0)).trans hx472_0; replace hx472_1 := (HB.out.cell (World.block_lt_of_cell? w _ hx472_1)).trans hx472_1; replace hx472_2 := (HB.out.cell (World.block_lt_of_cell? w _ hx472_2)).trans hx472_2; replace hx472_3 := (HB.out.cell (World.block_lt_of_cell? w _ hx472_3)).trans hx472_3; replace p472 := eq_true p472; replace q472 := eq_true q472; (have p473 : 0 ≤ (x8_1 : Int) := of_decide_eq_true (by first | (with_reducible assumption) | assumption)); (have q473 : x8_1 < (l0.length : Int) := of_decide_eq_true (by first | (with_reducible assumption) | assumption)); obtain ⟨ad473, e473, hx473_0, hx473_1, hx473_2, hx473_3⟩ := at_T85 HR0.out x8_1 p473 q473; obtain rfl : ad467 = ad473 := (by injection e473); replace hx473_0 := (HB.out.cell (World.block_lt_of_cell? w _ hx473_0)).trans hx473_0; replace hx473_1 := (HB.out.cell (World.block_lt_of_cell? w _ hx473_1)).trans hx473_1; replace hx473_2 := (HB.out.cell (World.block_lt_of_cell? w _ hx473_2)).trans hx473_2; replace hx473_3 := (HB.out.cell (World.block_lt_of_cell? w _ hx473_3)).trans hx473_3; replace p473 := eq_true p473; replace q473 := eq_true q473; obtain ⟨qg, qh, eo19⟩ := Kd.R_slice q5.out; subst eo19; (go_wp2_with (first | ((with_reducible refine gate_callee (f := 63) rfl ?_); refine goesL_ (some 42) rfl rfl Try.func63 (by kernel_rfl) rfl #[.slice qg x7_1.length qh, .int .i64 ((rd_T85 l0 x8_1).f0)] rfl ma ?_; (with_reducible refine (spec_l8Num.calls kj5 _ _ x7_1 ((rd_T85 l0 x8_1).f0) t474 _ ?side1 ?side2 A18.out).mono ?_); (case side1 => exact ca (Kd.R_reads' q5.out).2.2); (case side2 => exact (Kd.R_reads' q5.out).2.1); rintro e w20 ⟨v475, rfl, ho0, hb⟩; refine ⟨_, rfl, ?_⟩; have n0_ := q0_9 (Kd.R_elder' (ra q5.out) (Kd.R_base ho0) hb); have n1_ := q0_9 (Kd.R_lower (Kd.R_new' ho0 (Kd.R_lt (ra q5.out))) (below_size (q4_9))); have n2_ := q0_9 (below_step (q4_9) hb); clear q5; clear HB; have q5 := n0_; have qc := n1_; have HB := n2_; clear n0_ n1_ n2_; (try clear hb); (try clear hb2); (try clear hk); (try clear hi); (try clear ho0)))); (go_roundg kj5)
               case measure => have := HK1.out; have := HJ5.out; omega
               case rel => exact ⟨(t474), (wrap64 (x8_1 + 1)), (by first | rfl | (simp; done) | (simp [*]; done)), H', ⟨by have := HK1.out; have := HJ5.out; omega⟩, ⟨by refine ra ?_; exact Kd.R_mono qc.out (fun _ hk => trivial)⟩, ⟨by exact (q4_9)⟩⟩
             · rw [if_neg c17] at H
               (have c17b0 : (((rd_T85 l0 x8_1).f3) == a2) = false := beq_eq_false_iff_ne.mpr c17); (have c17b1 : (((rd_T85 l0 x8_1).f3) != a2) = true := bne_iff_ne.mpr c17); (have H' := q0_9 H); clear H; (have p467 : 0 ≤ (x8_1 : Int) := of_decide_eq_true (by first | (with_reducible assumption) | assumption)); (have q467 : x8_1 < (l0.length : Int) := of_decide_eq_true (by first | (with_reducible assumption) | assumption)); obtain ⟨ad467, e467, hx467_0, hx467_1, hx467_2, hx467_3⟩ := at_T85 HR0.out x8_1 p467 q467
               cases e467
               replace hx467_0 := (HB.out.cell (World.block_lt_of_cell? w _ hx467_0)).trans hx467_0; replace hx467_1 := (HB.out.cell (World.block_lt_of_cell? w _ hx467_1)).trans hx467_1; replace hx467_2 := (HB.out.cell (World.block_lt_of_cell? w _ hx467_2)).trans hx467_2; replace hx467_3 := (HB.out.cell (World.block_lt_of_cell? w _ hx467_3)).trans hx467_3; replace p467 := eq_true p467; replace q467 := eq_true q467; (have p472 : 0 ≤ (x8_1 : Int) := of_decide_eq_true (by first | (with_reducible assumption) | assumption)); (have q472 : x8_1 < (l0.length : Int) := of_decide_eq_true (by first | (with_reducible assumption) | assumption)); obtain ⟨ad472, e472, hx472_0, hx472_1, hx472_2, hx472_3⟩ := at_T85 HR0.out x8_1 p472 q472; obtain rfl : ad467 = ad472 := (by injection e472); replace hx472_0 := (HB.out.cell (World.block_lt_of_cell? w _ hx472_0)).trans hx472_0; replace hx472_1 := (HB.out.cell (World.block_lt_of_cell? w _ hx472_1)).trans hx472_1; replace hx472_2 := (HB.out.cell (World.block_lt_of_cell? w _ hx472_2)).trans hx472_2; replace hx472_3 := (HB.out.cell (World.block_lt_of_cell? w _ hx472_3)).trans hx472_3; replace p472 := eq_true p472; replace q472 := eq_true q472; (go_wp2); (go_roundg kj5)
               case measure => have := HK1.out; have := HJ5.out; omega
               case rel => exact ⟨(x7_1), (wrap64 (x8_1 + 1)), (by first | rfl | (simp; done) | (simp [*]; done)), H', ⟨by have := HK1.out; have := HJ5.out; omega⟩, ⟨by refine ra ?_; exact q5.out⟩, ⟨by exact (q4_9)⟩⟩
         · rw [if_neg c12] at H
           exact absurd H (by simp)
       · rw [if_neg c11] at H
         exact absurd H (by simp)
     · replace c10 := Bool.eq_false_iff.mpr c10
       subst c10; (have H1 : (some x7_1) = some r := by rw [if_neg (show ¬ (false = true) by decide)] at H; exact H); clear H; have H := H1; clear H1; obtain rfl := Option.some.inj H; (go_wp2); go_ret; (exact ⟨_, by first | rfl | (simp [errW_none, errW_some] <;> rfl) | (simp [*, errW_none, errW_some] <;> rfl), by refine ra ?_; exact q5.out, by exact (q4_9)⟩)
/-! ### impl_Event_sounds: function 66 -/
def impl_Event_sounds.f (a0_0 : Int) (a0_1 : Int) (a0_2 : Int) (a0_3 : Int) (a1 : Int) : Option (Bool) := if a0_0 ≤ a1 then (some (decide (a1 < (wrap64 (a0_0 + a0_1))))) else (some false)
set_option maxHeartbeats 8000000 in
set_option maxRecDepth 100000 in
theorem impl_Event_sounds.calls (a0_0 : Int) (a0_1 : Int) (a0_2 : Int) (a0_3 : Int) (a1 : Int) (r : Bool) (w : World) (h : impl_Event_sounds.f a0_0 a0_1 a0_2 a0_3 a1 = some r) :
 Calls Try.prog 66 #[.agg #[.int .i64 a0_0, .int .i64 a0_1, .int .i64 a0_2, .int .i64 a0_3], .int .i64 a1] w fun e w' => e = .returned (.bool r) ∧ Below w.heap.size w w' := by
 have hu85 := Try.underlying85; have HB := q0_9 (Below.refl w.heap.size w); (have H : (if a0_0 ≤ a1 then (some (decide (a1 < (wrap64 (a0_0 + a0_1))))) else (some false)) = some r := h); clear h
 by_cases c3 : a0_0 ≤ a1
 · rw [if_pos c3] at H
   (have c3b0 : decide (a0_0 ≤ a1) = true := decide_eq_true c3); clear c3; obtain rfl := Option.some.inj H; go_enter Try.func66, Try.ntmps66; (go_wp2_with (first | ((with_reducible refine gate_dst (N := 2) rfl ?_); refine box_event ?hg (N := 2) ?hd (cs := #[.int .i64 a0_0, .int .i64 a0_1, .int .i64 a0_2, .int .i64 a0_3]) (t := 85) ?hr ?_; (case hd => rfl); (case hg => rfl); (case hr => first | (go_simp; done) | (go_simp; rfl)); intro q6 hg w4 hbox hb; have n0_ := q0_9 (below_step (q4_9) hb); have n1_ := q0_9 (hbox); have n2_ := q0_9 ((by rw [hg]; exact (below_size (q4_9)) : w.heap.size ≤ q6)); have n3_ := q0_9 ((by rw [hg]; exact (below_size (q4_9)) : w.heap.size ≤ q6)); clear HB; have HB := n0_; have q3 := n1_; have GW477 := n2_; have qd := n3_; clear n0_ n1_ n2_ n3_; clear hb hbox hg; have hcz5_0 : w4.cell? ⟨q6, 0, none⟩ = some (.int .i64 a0_0) := (blk_cell q3.out 0).trans rfl; have hcz5_1 : w4.cell? ⟨q6, 1, none⟩ = some (.int .i64 a0_1) := (blk_cell q3.out 1).trans rfl; have hcz5_2 : w4.cell? ⟨q6, 2, none⟩ = some (.int .i64 a0_2) := (blk_cell q3.out 2).trans rfl; have hcz5_3 : w4.cell? ⟨q6, 3, none⟩ = some (.int .i64 a0_3) := (blk_cell q3.out 3).trans rfl; have hfz5_0 := blk_frozen q3.out 0; have hfz5_1 := blk_frozen q3.out 1; have hfz5_2 := blk_frozen q3.out 2; have hfz5_3 := blk_frozen q3.out 3))); go_ret; (exact ⟨by first | rfl | (simp [errW_none, errW_some] <;> rfl) | (simp [*, errW_none, errW_some] <;> rfl), by exact (q8_9)⟩)
 · rw [if_neg c3] at H
   (have c3b0 : decide (a0_0 ≤ a1) = false := decide_eq_false c3); clear c3; obtain rfl := Option.some.inj H; go_enter Try.func66, Try.ntmps66; (go_wp2_with (first | ((with_reducible refine gate_dst (N := 2) rfl ?_); refine box_event ?hg (N := 2) ?hd (cs := #[.int .i64 a0_0, .int .i64 a0_1, .int .i64 a0_2, .int .i64 a0_3]) (t := 85) ?hr ?_; (case hd => rfl); (case hg => rfl); (case hr => first | (go_simp; done) | (go_simp; rfl)); intro q6 hg w6 hbox hb; have n0_ := q0_9 (below_step (q4_9) hb); have n1_ := q0_9 (hbox); have n2_ := q0_9 ((by rw [hg]; exact (below_size (q4_9)) : w.heap.size ≤ q6)); have n3_ := q0_9 ((by rw [hg]; exact (below_size (q4_9)) : w.heap.size ≤ q6)); clear HB; have HB := n0_; have q3 := n1_; have GW477 := n2_; have qd := n3_; clear n0_ n1_ n2_ n3_; clear hb hbox hg; have hcz7_0 : w6.cell? ⟨q6, 0, none⟩ = some (.int .i64 a0_0) := (blk_cell q3.out 0).trans rfl; have hcz7_1 : w6.cell? ⟨q6, 1, none⟩ = some (.int .i64 a0_1) := (blk_cell q3.out 1).trans rfl; have hcz7_2 : w6.cell? ⟨q6, 2, none⟩ = some (.int .i64 a0_2) := (blk_cell q3.out 2).trans rfl; have hcz7_3 : w6.cell? ⟨q6, 3, none⟩ = some (.int .i64 a0_3) := (blk_cell q3.out 3).trans rfl; have hfz7_0 := blk_frozen q3.out 0; have hfz7_1 := blk_frozen q3.out 1; have hfz7_2 := blk_frozen q3.out 2; have hfz7_3 := blk_frozen q3.out 3))); go_ret; (exact ⟨by first | rfl | (simp [errW_none, errW_some] <;> rfl) | (simp [*, errW_none, errW_some] <;> rfl), by exact (q8_9)⟩)
/-! ### impl_PitchAt: function 28 -/
def impl_PitchAt.l0 : Nat → Int → Int → Int → List (S85) → Int → Int → Option (Int)
 | 0, _, _, _, _, _, _ => none
 | k + 1, x1, x2, x7, x12, x13, x14 => if x14 < x13 then (if 0 ≤ x14 then (if x14 < (x12.length : Int) then (if ((rd_T85 x12 x14).f3) = x1 then ((impl_Event_sounds.f ((rd_T85 x12 x14).f0) ((rd_T85 x12 x14).f1) ((rd_T85 x12 x14).f2) ((rd_T85 x12 x14).f3) x2).bind fun t481 => (if t481 = true then (impl_PitchAt.l0 k x1 x2 ((rd_T85 x12 x14).f2) x12 x13 (wrap64 (x14 + 1))) else (impl_PitchAt.l0 k x1 x2 x7 x12 x13 (wrap64 (x14 + 1))))) else (impl_PitchAt.l0 k x1 x2 x7 x12 x13 (wrap64 (x14 + 1)))) else (none)) else (none)) else (some x7)
def impl_PitchAt.f (k : Nat) (l0 : List (S85)) (a1 : Int) (a2 : Int) : Option (Int) := (impl_IsScore.f k l0).bind fun t478 => (if t478 = true then (impl_PitchAt.l0 k a1 a2 0 l0 (l0.length : Int) 0) else (some 0))
theorem impl_PitchAt.mono_l : ∀ k, (∀ y0 y1 y2 y3 y4 y5, LeO (impl_PitchAt.l0 k y0 y1 y2 y3 y4 y5) (impl_PitchAt.l0 (k + 1) y0 y1 y2 y3 y4 y5))
 | 0 => fun _ _ _ _ _ _ r h => by simp [impl_PitchAt.l0] at h
 | k + 1 => by
  have ih0 := impl_PitchAt.mono_l k
  · intro y0 y1 y2 y3 y4 y5
    unfold impl_PitchAt.l0
    repeat' first
    | (with_reducible exact ih0 _ _ _ _ _ _)
    | (with_reducible exact impl_IsScore.mono _ _)
    | (with_reducible exact LeO.refl _)
    | (with_reducible exact LeO.none _)
    | (with_reducible refine LeO.ite ?_ ?_)
    | (with_reducible refine LeO.bind ?_ (fun _ => ?_))
    | exact ih0 _ _ _ _ _ _
    | exact impl_IsScore.mono _ _
    | exact LeO.none _
    | refine LeO.ite ?_ ?_
    | refine LeO.bind ?_ (fun _ => ?_)
theorem impl_PitchAt.mono : ∀ a0 a1 a2 k, LeO (impl_PitchAt.f k a0 a1 a2) (impl_PitchAt.f (k + 1) a0 a1 a2) := by
 intro a0 a1 a2 k; have ih0 := impl_PitchAt.mono_l k; unfold impl_PitchAt.f
 repeat' first
  | (with_reducible exact ih0 _ _ _ _ _ _)
  | (with_reducible exact impl_IsScore.mono _ _)
  | (with_reducible exact LeO.refl _)
  | (with_reducible exact LeO.none _)
  | (with_reducible refine LeO.ite ?_ ?_)
  | (with_reducible refine LeO.bind ?_ (fun _ => ?_))
  | exact ih0 _ _ _ _ _ _
  | exact impl_IsScore.mono _ _
  | exact LeO.none _
  | refine LeO.ite ?_ ?_
  | refine LeO.bind ?_ (fun _ => ?_)
set_option maxHeartbeats 8000000 in
set_option maxRecDepth 100000 in
theorem impl_PitchAt.calls (k : Nat) (A0 : Option Addr) (c0 : Nat) (l0 : List (S85)) (a1 : Int) (a2 : Int) (r : Int) (w : World) (hr0 : Kd.C k85 w A0 l0.length l0) (hc0 : l0.length ≤ c0) (h : impl_PitchAt.f k l0 a1 a2 = some r) :
 Calls Try.prog 28 #[.slice A0 l0.length c0, .int .i64 a1, .int .i64 a2] w fun e w' => e = .returned (.int .i64 r) ∧ Below w.heap.size w w' := by
 have hu85 := Try.underlying85; have HR0 := q0_9 hr0; have HC0 := q0_9 hc0; clear hr0 hc0; have HB := q0_9 (Below.refl w.heap.size w); (have H : ((impl_IsScore.f k l0).bind fun t478 => (if t478 = true then (impl_PitchAt.l0 k a1 a2 0 l0 (l0.length : Int) 0) else (some 0))) = some r := h); clear h; replace H := Option.bind_eq_some_iff.mp H; obtain ⟨t478, A40, H⟩ := H; replace H : (if t478 = true then (impl_PitchAt.l0 k a1 a2 0 l0 (l0.length : Int) 0) else (some 0)) = some r := H; have A4 := q0_9 A40; clear A40
 by_cases c5 : t478 = true
 · subst c5
   have H1 : (impl_PitchAt.l0 k a1 a2 0 l0 (l0.length : Int) 0) = some r := by rw [if_pos rfl] at H; exact H
   clear H; have H := H1; clear H1; (have H' := q0_9 H); clear H; go_enter Try.func28, Try.ntmps28; (go_wp2_with (first | ((with_reducible refine gate_callee (f := 60) rfl ?_); refine goesL_ (some 11) rfl rfl Try.func60 (by kernel_rfl) rfl #[.slice A0 l0.length c0] rfl ma ?_; (with_reducible refine (impl_IsScore.calls k _ _ l0 true _ ?side1 ?side2 A4.out).mono ?_); (case side1 => repeat (first | exact HR0.out | (with_reducible refine Kd.C_alloc ?_ _) | (with_reducible refine Kd.C_drewN ?_ _) | (with_reducible refine Kd.C_drew ?_))); (case side2 => exact HC0.out); rintro e w6 ⟨rfl, hb⟩; refine ⟨_, rfl, ?_⟩; have n0_ := q0_9 (below_step (q4_9) hb); clear HB; have HB := n0_; clear n0_; (try clear hb); (try clear hb2); (try clear hk); (try clear hi)))); (go_loopg [7, 14] k (fun kq v7 v14 w' => ∃ (x7_1 : Int) (x14_1 : Int), v7 = .int .i64 x7_1 ∧ v14 = .int .i64 x14_1 ∧ Aside0 (impl_PitchAt.l0 kq a1 a2 x7_1 l0 (l0.length : Int) x14_1 = some r) ∧ Aside0 (kq ≤ k) ∧ Aside0 (Below w.heap.size w w')))
   case atStart => exact ⟨(0), (0), (by first | rfl | (simp; done) | (simp [*]; done)), (by first | rfl | (simp; done) | (simp [*]; done)), H', ⟨Nat.le_refl _⟩, ⟨by exact (q4_9)⟩⟩
   case round =>
    clear H'; (try clear c2); (try clear p2); (try clear c5); (try clear c6); obtain ⟨x7_1, x14_1, rfl, rfl, HA, HK1, HB⟩ := hrel
    cases gk with
    | zero => exact absurd HA.out (by simp [impl_PitchAt.l0])
    | succ k1 =>
     have H := HA.out; clear HA; (simp only [impl_PitchAt.l0] at H)
     by_cases c7 : x14_1 < (l0.length : Int)
     · rw [if_pos c7] at H
       (have c7b0 : decide (x14_1 < (l0.length : Int)) = true := decide_eq_true c7); clear c7
       by_cases c8 : 0 ≤ x14_1
       · rw [if_pos c8] at H
         (have c8b0 : decide (0 ≤ x14_1) = true := decide_eq_true c8); clear c8
         by_cases c9 : x14_1 < (l0.length : Int)
         · rw [if_pos c9] at H
           (have c9b0 : decide (x14_1 < (l0.length : Int)) = true := decide_eq_true c9); clear c9
           by_cases c10 : ((rd_T85 l0 x14_1).f3) = a1
           · rw [if_pos c10] at H
             (have c10b0 : (((rd_T85 l0 x14_1).f3) == a1) = true := beq_iff_eq.mpr c10); (have c10b1 : (((rd_T85 l0 x14_1).f3) != a1) = false := bne_eq_false_iff_eq.mpr c10); clear c10; replace H := Option.bind_eq_some_iff.mp H; obtain ⟨t481, A110, H⟩ := H; replace H : (if t481 = true then (impl_PitchAt.l0 k1 a1 a2 ((rd_T85 l0 x14_1).f2) l0 (l0.length : Int) (wrap64 (x14_1 + 1))) else (impl_PitchAt.l0 k1 a1 a2 x7_1 l0 (l0.length : Int) (wrap64 (x14_1 + 1)))) = some r := H; have A11 := q0_9 A110; clear A110
             by_cases c12 : t481 = true
             · subst c12
               have H1 : (impl_PitchAt.l0 k1 a1 a2 ((rd_T85 l0 x14_1).f2) l0 (l0.length : Int) (wrap64 (x14_1 + 1))) = some r := by rw [if_pos rfl] at H; exact H
               clear H; have H := H1; clear H1; (have H' := q0_9 H); clear H; (have p479 : 0 ≤ (x14_1 : Int) := of_decide_eq_true (by first | (with_reducible assumption) | assumption)); (have q479 : x14_1 < (l0.length : Int) := of_decide_eq_true (by first | (with_reducible assumption) | assumption)); obtain ⟨ad479, e479, hx479_0, hx479_1, hx479_2, hx479_3⟩ := at_T85 HR0.out x14_1 p479 q479
               cases e479
               replace hx479_0 := (HB.out.cell (World.block_lt_of_cell? w _ hx479_0)).trans hx479_0; replace hx479_1 := (HB.out.cell (World.block_lt_of_cell? w _ hx479_1)).trans hx479_1; replace hx479_2 := (HB.out.cell (World.block_lt_of_cell? w _ hx479_2)).trans hx479_2; replace hx479_3 := (HB.out.cell (World.block_lt_of_cell? w _ hx479_3)).trans hx479_3; replace p479 := eq_true p479; replace q479 := eq_true q479
               (go_wp2_with (first | ((with_reducible refine gate_dst (N := 9) rfl ?_); refine box_event ?hg (N := 9) ?hd (cs := #[.int .i64 0, .int .i64 0, .int .i64 0, .int .i64 0]) (t := 85) ?hr ?_; (case hd => rfl); (case hg => rfl); (case hr => first | (go_simp; done) | (go_simp; rfl)); intro q2 hg w13 hbox hb; have n0_ := q0_9 (below_step (q4_9) hb); have n1_ := q0_9 (hbox); have n2_ := q0_9 ((by rw [hg]; exact (below_size (q4_9)) : w.heap.size ≤ q2)); have n3_ := q0_9 ((by rw [hg]; exact (below_size (q4_9)) : w.heap.size ≤ q2)); clear HB; have HB := n0_; have q1 := n1_; have GW480 := n2_; have q9 := n3_; clear n0_ n1_ n2_ n3_; clear hb hbox hg; have hcz14_0 : w13.cell? ⟨q2, 0, none⟩ = some (.int .i64 0) := (blk_cell q1.out 0).trans rfl; have hcz14_1 : w13.cell? ⟨q2, 1, none⟩ = some (.int .i64 0) := (blk_cell q1.out 1).trans rfl; have hcz14_2 : w13.cell? ⟨q2, 2, none⟩ = some (.int .i64 0) := (blk_cell q1.out 2).trans rfl; have hcz14_3 : w13.cell? ⟨q2, 3, none⟩ = some (.int .i64 0) := (blk_cell q1.out 3).trans rfl; have hfz14_0 := blk_frozen q1.out 0; have hfz14_1 := blk_frozen q1.out 1; have hfz14_2 := blk_frozen q1.out 2; have hfz14_3 := blk_frozen q1.out 3) | (go_at_call 66; (with_reducible refine (impl_Event_sounds.calls ((rd_T85 l0 x14_1).f0) ((rd_T85 l0 x14_1).f1) ((rd_T85 l0 x14_1).f2) ((rd_T85 l0 x14_1).f3) a2 true _ A11.out).mono ?_); rintro e w15 ⟨rfl, hb⟩; have n0_ := q0_9 (blk_below (g := q2) (o := .cells #[.int .i64 ((rd_T85 l0 x14_1).f0), .int .i64 ((rd_T85 l0 x14_1).f1), .int .i64 ((rd_T85 l0 x14_1).f2), .int .i64 ((rd_T85 l0 x14_1).f3)] 85 (0, 0)) (by refine ba ?_; refine blk_put (cs := #[.int .i64 ((rd_T85 l0 x14_1).f0), .int .i64 ((rd_T85 l0 x14_1).f1), .int .i64 ((rd_T85 l0 x14_1).f2), .int .i64 0]) ?_ 3 _ rfl; refine ba ?_; refine blk_put (cs := #[.int .i64 ((rd_T85 l0 x14_1).f0), .int .i64 ((rd_T85 l0 x14_1).f1), .int .i64 0, .int .i64 0]) ?_ 2 _ rfl; refine ba ?_; refine blk_put (cs := #[.int .i64 ((rd_T85 l0 x14_1).f0), .int .i64 0, .int .i64 0, .int .i64 0]) ?_ 1 _ rfl; refine ba ?_; refine blk_put (cs := #[.int .i64 0, .int .i64 0, .int .i64 0, .int .i64 0]) ?_ 0 _ rfl; refine ba ?_; exact q1.out) hb); have n1_ := q0_9 (below_step (q7_9) hb); clear q1; clear HB; have q1 := n0_; have HB := n1_; clear n0_ n1_; (try clear hb); (try clear hb2); (try clear hk); (try clear hi); have hcz16_0 : w15.cell? ⟨q2, 0, none⟩ = some (.int .i64 ((rd_T85 l0 x14_1).f0)) := (blk_cell q1.out 0).trans rfl; have hcz16_1 : w15.cell? ⟨q2, 1, none⟩ = some (.int .i64 ((rd_T85 l0 x14_1).f1)) := (blk_cell q1.out 1).trans rfl; have hcz16_2 : w15.cell? ⟨q2, 2, none⟩ = some (.int .i64 ((rd_T85 l0 x14_1).f2)) := (blk_cell q1.out 2).trans rfl; have hcz16_3 : w15.cell? ⟨q2, 3, none⟩ = some (.int .i64 ((rd_T85 l0 x14_1).f3)) := (blk_cell q1.out 3).trans rfl; have hfz16_0 := blk_frozen q1.out 0; have hfz16_1 := blk_frozen q1.out 1; have hfz16_2 := blk_frozen q1.out 2; have hfz16_3 := blk_frozen q1.out 3)))
               (go_roundg k1)
               case measure => have := HK1.out; omega
               case rel => exact ⟨((rd_T85 l0 x14_1).f2), (wrap64 (x14_1 + 1)), (by first | rfl | (simp; done) | (simp [*]; done)), (by first | rfl | (simp; done) | (simp [*]; done)), H', ⟨by have := HK1.out; omega⟩, ⟨by exact (q7_9)⟩⟩
             · replace c12 := Bool.eq_false_iff.mpr c12
               subst c12; (have H1 : (impl_PitchAt.l0 k1 a1 a2 x7_1 l0 (l0.length : Int) (wrap64 (x14_1 + 1))) = some r := by rw [if_neg (show ¬ (false = true) by decide)] at H; exact H); clear H; have H := H1; clear H1; (have H' := q0_9 H); clear H; (have p479 : 0 ≤ (x14_1 : Int) := of_decide_eq_true (by first | (with_reducible assumption) | assumption)); (have q479 : x14_1 < (l0.length : Int) := of_decide_eq_true (by first | (with_reducible assumption) | assumption)); obtain ⟨ad479, e479, hx479_0, hx479_1, hx479_2, hx479_3⟩ := at_T85 HR0.out x14_1 p479 q479
               cases e479
               replace hx479_0 := (HB.out.cell (World.block_lt_of_cell? w _ hx479_0)).trans hx479_0; replace hx479_1 := (HB.out.cell (World.block_lt_of_cell? w _ hx479_1)).trans hx479_1; replace hx479_2 := (HB.out.cell (World.block_lt_of_cell? w _ hx479_2)).trans hx479_2; replace hx479_3 := (HB.out.cell (World.block_lt_of_cell? w _ hx479_3)).trans hx479_3; replace p479 := eq_true p479; replace q479 := eq_true q479; (go_wp2_with (first | ((with_reducible refine gate_dst (N := 9) rfl ?_); refine box_event ?hg (N := 9) ?hd (cs := #[.int .i64 0, .int .i64 0, .int .i64 0, .int .i64 0]) (t := 85) ?hr ?_; (case hd => rfl); (case hg => rfl); (case hr => first | (go_simp; done) | (go_simp; rfl)); intro q2 hg w17 hbox hb; have n0_ := q0_9 (below_step (q4_9) hb); have n1_ := q0_9 (hbox); have n2_ := q0_9 ((by rw [hg]; exact (below_size (q4_9)) : w.heap.size ≤ q2)); have n3_ := q0_9 ((by rw [hg]; exact (below_size (q4_9)) : w.heap.size ≤ q2)); clear HB; have HB := n0_; have q1 := n1_; have GW480 := n2_; have q9 := n3_; clear n0_ n1_ n2_ n3_; clear hb hbox hg; have hcz18_0 : w17.cell? ⟨q2, 0, none⟩ = some (.int .i64 0) := (blk_cell q1.out 0).trans rfl; have hcz18_1 : w17.cell? ⟨q2, 1, none⟩ = some (.int .i64 0) := (blk_cell q1.out 1).trans rfl; have hcz18_2 : w17.cell? ⟨q2, 2, none⟩ = some (.int .i64 0) := (blk_cell q1.out 2).trans rfl; have hcz18_3 : w17.cell? ⟨q2, 3, none⟩ = some (.int .i64 0) := (blk_cell q1.out 3).trans rfl; have hfz18_0 := blk_frozen q1.out 0; have hfz18_1 := blk_frozen q1.out 1; have hfz18_2 := blk_frozen q1.out 2; have hfz18_3 := blk_frozen q1.out 3) | (go_at_call 66; (with_reducible refine (impl_Event_sounds.calls ((rd_T85 l0 x14_1).f0) ((rd_T85 l0 x14_1).f1) ((rd_T85 l0 x14_1).f2) ((rd_T85 l0 x14_1).f3) a2 false _ A11.out).mono ?_); rintro e w19 ⟨rfl, hb⟩; have n0_ := q0_9 (blk_below (g := q2) (o := .cells #[.int .i64 ((rd_T85 l0 x14_1).f0), .int .i64 ((rd_T85 l0 x14_1).f1), .int .i64 ((rd_T85 l0 x14_1).f2), .int .i64 ((rd_T85 l0 x14_1).f3)] 85 (0, 0)) (by refine ba ?_; refine blk_put (cs := #[.int .i64 ((rd_T85 l0 x14_1).f0), .int .i64 ((rd_T85 l0 x14_1).f1), .int .i64 ((rd_T85 l0 x14_1).f2), .int .i64 0]) ?_ 3 _ rfl; refine ba ?_; refine blk_put (cs := #[.int .i64 ((rd_T85 l0 x14_1).f0), .int .i64 ((rd_T85 l0 x14_1).f1), .int .i64 0, .int .i64 0]) ?_ 2 _ rfl; refine ba ?_; refine blk_put (cs := #[.int .i64 ((rd_T85 l0 x14_1).f0), .int .i64 0, .int .i64 0, .int .i64 0]) ?_ 1 _ rfl; refine ba ?_; refine blk_put (cs := #[.int .i64 0, .int .i64 0, .int .i64 0, .int .i64 0]) ?_ 0 _ rfl; refine ba ?_; exact q1.out) hb); have n1_ := q0_9 (below_step (q7_9) hb); clear q1; clear HB; have q1 := n0_; have HB := n1_; clear n0_ n1_; (try clear hb); (try clear hb2); (try clear hk); (try clear hi)))); (go_roundg k1)
               case measure => have := HK1.out; omega
               case rel => exact ⟨(x7_1), (wrap64 (x14_1 + 1)), (by first | rfl | (simp; done) | (simp [*]; done)), (by first | rfl | (simp; done) | (simp [*]; done)), H', ⟨by have := HK1.out; omega⟩, ⟨by exact (q7_9)⟩⟩
           · rw [if_neg c10] at H
             (have c10b0 : (((rd_T85 l0 x14_1).f3) == a1) = false := beq_eq_false_iff_ne.mpr c10); (have c10b1 : (((rd_T85 l0 x14_1).f3) != a1) = true := bne_iff_ne.mpr c10); (have H' := q0_9 H); clear H; (have p479 : 0 ≤ (x14_1 : Int) := of_decide_eq_true (by first | (with_reducible assumption) | assumption)); (have q479 : x14_1 < (l0.length : Int) := of_decide_eq_true (by first | (with_reducible assumption) | assumption)); obtain ⟨ad479, e479, hx479_0, hx479_1, hx479_2, hx479_3⟩ := at_T85 HR0.out x14_1 p479 q479
             cases e479
             replace hx479_0 := (HB.out.cell (World.block_lt_of_cell? w _ hx479_0)).trans hx479_0; replace hx479_1 := (HB.out.cell (World.block_lt_of_cell? w _ hx479_1)).trans hx479_1; replace hx479_2 := (HB.out.cell (World.block_lt_of_cell? w _ hx479_2)).trans hx479_2; replace hx479_3 := (HB.out.cell (World.block_lt_of_cell? w _ hx479_3)).trans hx479_3; replace p479 := eq_true p479; replace q479 := eq_true q479; (go_wp2_with (first | ((with_reducible refine gate_dst (N := 9) rfl ?_); refine box_event ?hg (N := 9) ?hd (cs := #[.int .i64 0, .int .i64 0, .int .i64 0, .int .i64 0]) (t := 85) ?hr ?_; (case hd => rfl); (case hg => rfl); (case hr => first | (go_simp; done) | (go_simp; rfl)); intro q2 hg w20 hbox hb; have n0_ := q0_9 (below_step (q4_9) hb); have n1_ := q0_9 (hbox); have n2_ := q0_9 ((by rw [hg]; exact (below_size (q4_9)) : w.heap.size ≤ q2)); have n3_ := q0_9 ((by rw [hg]; exact (below_size (q4_9)) : w.heap.size ≤ q2)); clear HB; have HB := n0_; have q1 := n1_; have GW480 := n2_; have q9 := n3_; clear n0_ n1_ n2_ n3_; clear hb hbox hg; have hcz21_0 : w20.cell? ⟨q2, 0, none⟩ = some (.int .i64 0) := (blk_cell q1.out 0).trans rfl; have hcz21_1 : w20.cell? ⟨q2, 1, none⟩ = some (.int .i64 0) := (blk_cell q1.out 1).trans rfl; have hcz21_2 : w20.cell? ⟨q2, 2, none⟩ = some (.int .i64 0) := (blk_cell q1.out 2).trans rfl; have hcz21_3 : w20.cell? ⟨q2, 3, none⟩ = some (.int .i64 0) := (blk_cell q1.out 3).trans rfl; have hfz21_0 := blk_frozen q1.out 0; have hfz21_1 := blk_frozen q1.out 1; have hfz21_2 := blk_frozen q1.out 2; have hfz21_3 := blk_frozen q1.out 3))); (go_roundg k1)
             case measure => have := HK1.out; omega
             case rel => exact ⟨(x7_1), (wrap64 (x14_1 + 1)), (by first | rfl | (simp; done) | (simp [*]; done)), (by first | rfl | (simp; done) | (simp [*]; done)), H', ⟨by have := HK1.out; omega⟩, ⟨by exact (q7_9)⟩⟩
         · rw [if_neg c9] at H
           exact absurd H (by simp)
       · rw [if_neg c8] at H
         exact absurd H (by simp)
     · rw [if_neg c7] at H
       (have c7b0 : decide (x14_1 < (l0.length : Int)) = false := decide_eq_false c7); clear c7; obtain rfl := Option.some.inj H; (go_wp2); go_ret; (exact ⟨by first | rfl | (simp [errW_none, errW_some] <;> rfl) | (simp [*, errW_none, errW_some] <;> rfl), by exact (q4_9)⟩)
 · replace c5 := Bool.eq_false_iff.mpr c5
   subst c5; (have H1 : (some 0) = some r := by rw [if_neg (show ¬ (false = true) by decide)] at H; exact H); clear H; have H := H1; clear H1; obtain rfl := Option.some.inj H; go_enter Try.func28, Try.ntmps28; (go_wp2_with (first | ((with_reducible refine gate_callee (f := 60) rfl ?_); refine goesL_ (some 11) rfl rfl Try.func60 (by kernel_rfl) rfl #[.slice A0 l0.length c0] rfl ma ?_; (with_reducible refine (impl_IsScore.calls k _ _ l0 false _ ?side1 ?side2 A4.out).mono ?_); (case side1 => repeat (first | exact HR0.out | (with_reducible refine Kd.C_alloc ?_ _) | (with_reducible refine Kd.C_drewN ?_ _) | (with_reducible refine Kd.C_drew ?_))); (case side2 => exact HC0.out); rintro e w22 ⟨rfl, hb⟩; refine ⟨_, rfl, ?_⟩; have n0_ := q0_9 (below_step (q4_9) hb); clear HB; have HB := n0_; clear n0_; (try clear hb); (try clear hb2); (try clear hk); (try clear hi)))); go_ret; (exact ⟨by first | rfl | (simp [errW_none, errW_some] <;> rfl) | (simp [*, errW_none, errW_some] <;> rfl), by exact (q4_9)⟩)
/-! ### impl_isParallel: function 64 -/
def impl_isParallel.f (a0 : Int) (a1 : Int) (a2 : Int) (a3 : Int) : Option (Bool) := if a0 > 0 then (if a1 > 0 then (if a2 > 0 then (if a3 > 0 then (if a2 > a0 then (if a3 > a1 then (if (Int.tmod (mx (wrap64 (a0 - a1)) (wrap64 (a1 - a0))) 12) = (Int.tmod (mx (wrap64 (a2 - a3)) (wrap64 (a3 - a2))) 12) then (if (Int.tmod (mx (wrap64 (a0 - a1)) (wrap64 (a1 - a0))) 12) = 0 then (some true) else (some ((Int.tmod (mx (wrap64 (a0 - a1)) (wrap64 (a1 - a0))) 12) == 7))) else (some false)) else (if a2 < a0 then (if a3 < a1 then (if (Int.tmod (mx (wrap64 (a0 - a1)) (wrap64 (a1 - a0))) 12) = (Int.tmod (mx (wrap64 (a2 - a3)) (wrap64 (a3 - a2))) 12) then (if (Int.tmod (mx (wrap64 (a0 - a1)) (wrap64 (a1 - a0))) 12) = 0 then (some true) else (some ((Int.tmod (mx (wrap64 (a0 - a1)) (wrap64 (a1 - a0))) 12) == 7))) else (some false)) else (some false)) else (some false))) else (if a2 < a0 then (if a3 < a1 then (if (Int.tmod (mx (wrap64 (a0 - a1)) (wrap64 (a1 - a0))) 12) = (Int.tmod (mx (wrap64 (a2 - a3)) (wrap64 (a3 - a2))) 12) then (if (Int.tmod (mx (wrap64 (a0 - a1)) (wrap64 (a1 - a0))) 12) = 0 then (some true) else (some ((Int.tmod (mx (wrap64 (a0 - a1)) (wrap64 (a1 - a0))) 12) == 7))) else (some false)) else (some false)) else (some false))) else (some false)) else (some false)) else (some false)) else (some false)
set_option maxHeartbeats 8000000 in
set_option maxRecDepth 100000 in
theorem impl_isParallel.calls (a0 : Int) (a1 : Int) (a2 : Int) (a3 : Int) (r : Bool) (w : World) (h : impl_isParallel.f a0 a1 a2 a3 = some r) :
 Calls Try.prog 64 #[.int .i64 a0, .int .i64 a1, .int .i64 a2, .int .i64 a3] w fun e w' => e = .returned (.bool r) ∧ Below w.heap.size w w' := by
 have HB := q0_9 (Below.refl w.heap.size w); (have H : (if a0 > 0 then (if a1 > 0 then (if a2 > 0 then (if a3 > 0 then (if a2 > a0 then (if a3 > a1 then (if (Int.tmod (mx (wrap64 (a0 - a1)) (wrap64 (a1 - a0))) 12) = (Int.tmod (mx (wrap64 (a2 - a3)) (wrap64 (a3 - a2))) 12) then (if (Int.tmod (mx (wrap64 (a0 - a1)) (wrap64 (a1 - a0))) 12) = 0 then (some true) else (some ((Int.tmod (mx (wrap64 (a0 - a1)) (wrap64 (a1 - a0))) 12) == 7))) else (some false)) else (if a2 < a0 then (if a3 < a1 then (if (Int.tmod (mx (wrap64 (a0 - a1)) (wrap64 (a1 - a0))) 12) = (Int.tmod (mx (wrap64 (a2 - a3)) (wrap64 (a3 - a2))) 12) then (if (Int.tmod (mx (wrap64 (a0 - a1)) (wrap64 (a1 - a0))) 12) = 0 then (some true) else (some ((Int.tmod (mx (wrap64 (a0 - a1)) (wrap64 (a1 - a0))) 12) == 7))) else (some false)) else (some false)) else (some false))) else (if a2 < a0 then (if a3 < a1 then (if (Int.tmod (mx (wrap64 (a0 - a1)) (wrap64 (a1 - a0))) 12) = (Int.tmod (mx (wrap64 (a2 - a3)) (wrap64 (a3 - a2))) 12) then (if (Int.tmod (mx (wrap64 (a0 - a1)) (wrap64 (a1 - a0))) 12) = 0 then (some true) else (some ((Int.tmod (mx (wrap64 (a0 - a1)) (wrap64 (a1 - a0))) 12) == 7))) else (some false)) else (some false)) else (some false))) else (some false)) else (some false)) else (some false)) else (some false)) = some r := h); clear h; obtain ⟨ji5, hji5⟩ : ∃ j_ : Int, (mx (wrap64 (a0 - a1)) (wrap64 (a1 - a0))) = j_ := ⟨_, rfl⟩; (replace H : (if a0 > 0 then (if a1 > 0 then (if a2 > 0 then (if a3 > 0 then (if a2 > a0 then (if a3 > a1 then (if (Int.tmod (ji5) 12) = (Int.tmod (mx (wrap64 (a2 - a3)) (wrap64 (a3 - a2))) 12) then (if (Int.tmod (ji5) 12) = 0 then (some true) else (some ((Int.tmod (ji5) 12) == 7))) else (some false)) else (if a2 < a0 then (if a3 < a1 then (if (Int.tmod (ji5) 12) = (Int.tmod (mx (wrap64 (a2 - a3)) (wrap64 (a3 - a2))) 12) then (if (Int.tmod (ji5) 12) = 0 then (some true) else (some ((Int.tmod (ji5) 12) == 7))) else (some false)) else (some false)) else (some false))) else (if a2 < a0 then (if a3 < a1 then (if (Int.tmod (ji5) 12) = (Int.tmod (mx (wrap64 (a2 - a3)) (wrap64 (a3 - a2))) 12) then (if (Int.tmod (ji5) 12) = 0 then (some true) else (some ((Int.tmod (ji5) 12) == 7))) else (some false)) else (some false)) else (some false))) else (some false)) else (some false)) else (some false)) else (some false)) = some r := by first | (rw [hji5] at H; exact H) | (simp only [hji5] at H ⊢; exact H)); (have hji5_ : (if (wrap64 (a0 - a1)) < (wrap64 (a1 - a0)) then (wrap64 (a1 - a0)) else (wrap64 (a0 - a1))) = ji5 := hji5); obtain ⟨ji6, hji6⟩ : ∃ j_ : Int, (mx (wrap64 (a2 - a3)) (wrap64 (a3 - a2))) = j_ := ⟨_, rfl⟩
 replace H : (if a0 > 0 then (if a1 > 0 then (if a2 > 0 then (if a3 > 0 then (if a2 > a0 then (if a3 > a1 then (if (Int.tmod (ji5) 12) = (Int.tmod (ji6) 12) then (if (Int.tmod (ji5) 12) = 0 then (some true) else (some ((Int.tmod (ji5) 12) == 7))) else (some false)) else (if a2 < a0 then (if a3 < a1 then (if (Int.tmod (ji5) 12) = (Int.tmod (ji6) 12) then (if (Int.tmod (ji5) 12) = 0 then (some true) else (some ((Int.tmod (ji5) 12) == 7))) else (some false)) else (some false)) else (some false))) else (if a2 < a0 then (if a3 < a1 then (if (Int.tmod (ji5) 12) = (Int.tmod (ji6) 12) then (if (Int.tmod (ji5) 12) = 0 then (some true) else (some ((Int.tmod (ji5) 12) == 7))) else (some false)) else (some false)) else (some false))) else (some false)) else (some false)) else (some false)) else (some false)) = some r := by first | (rw [hji6] at H; exact H) | (simp only [hji6] at H ⊢; exact H)
 (have hji6_ : (if (wrap64 (a2 - a3)) < (wrap64 (a3 - a2)) then (wrap64 (a3 - a2)) else (wrap64 (a2 - a3))) = ji6 := hji6)
 by_cases c7 : a0 > 0
 · rw [if_pos c7] at H
   (have c7b0 : decide (0 < a0) = true := decide_eq_true c7); clear c7
   by_cases c8 : a1 > 0
   · rw [if_pos c8] at H
     (have c8b0 : decide (0 < a1) = true := decide_eq_true c8); clear c8
     by_cases c9 : a2 > 0
     · rw [if_pos c9] at H
       (have c9b0 : decide (0 < a2) = true := decide_eq_true c9); clear c9
       by_cases c10 : a3 > 0
       · rw [if_pos c10] at H
         (have c10b0 : decide (0 < a3) = true := decide_eq_true c10); clear c10
         by_cases c11 : a2 > a0
         · rw [if_pos c11] at H
           (have c11b0 : decide (a0 < a2) = true := decide_eq_true c11); clear c11
           by_cases c12 : a3 > a1
           · rw [if_pos c12] at H
             (have c12b0 : decide (a1 < a3) = true := decide_eq_true c12); clear c12
             by_cases c13 : (Int.tmod (ji5) 12) = (Int.tmod (ji6) 12)
             · rw [if_pos c13] at H
               (have c13b0 : ((Int.tmod (ji5) 12) == (Int.tmod (ji6) 12)) = true := beq_iff_eq.mpr c13); (have c13b1 : ((Int.tmod (ji5) 12) != (Int.tmod (ji6) 12)) = false := bne_eq_false_iff_eq.mpr c13); clear c13
               by_cases c14 : (Int.tmod (ji5) 12) = 0
               · rw [if_pos c14] at H
                 (have c14b0 : ((Int.tmod (ji5) 12) == 0) = true := beq_iff_eq.mpr c14); (have c14b1 : ((Int.tmod (ji5) 12) != 0) = false := bne_eq_false_iff_eq.mpr c14); clear c14; obtain rfl := Option.some.inj H; go_enter Try.func64, Try.ntmps64; (go_wp2); go_ret; (exact ⟨by first | rfl | (simp [errW_none, errW_some] <;> rfl) | (simp only [← hji5, ← hji6]; first | rfl | (simp [errW_none, errW_some] <;> rfl)) | (simp [*, errW_none, errW_some] <;> rfl), by exact (q4_9)⟩)
               · rw [if_neg c14] at H
                 (have c14b0 : ((Int.tmod (ji5) 12) == 0) = false := beq_eq_false_iff_ne.mpr c14); (have c14b1 : ((Int.tmod (ji5) 12) != 0) = true := bne_iff_ne.mpr c14); obtain rfl := Option.some.inj H; go_enter Try.func64, Try.ntmps64; (go_wp2); go_ret; (exact ⟨by first | rfl | (simp [errW_none, errW_some] <;> rfl) | (simp only [← hji5, ← hji6]; first | rfl | (simp [errW_none, errW_some] <;> rfl)) | (simp [*, errW_none, errW_some] <;> rfl), by exact (q4_9)⟩)
             · rw [if_neg c13] at H
               (have c13b0 : ((Int.tmod (ji5) 12) == (Int.tmod (ji6) 12)) = false := beq_eq_false_iff_ne.mpr c13); (have c13b1 : ((Int.tmod (ji5) 12) != (Int.tmod (ji6) 12)) = true := bne_iff_ne.mpr c13); obtain rfl := Option.some.inj H; go_enter Try.func64, Try.ntmps64; (go_wp2); go_ret; (exact ⟨by first | rfl | (simp [errW_none, errW_some] <;> rfl) | (simp only [← hji5, ← hji6]; first | rfl | (simp [errW_none, errW_some] <;> rfl)) | (simp [*, errW_none, errW_some] <;> rfl), by exact (q4_9)⟩)
           · rw [if_neg c12] at H
             (have c12b0 : decide (a1 < a3) = false := decide_eq_false c12); clear c12
             by_cases c15 : a2 < a0
             · rw [if_pos c15] at H
               (have c15b0 : decide (a2 < a0) = true := decide_eq_true c15); clear c15
               by_cases c16 : a3 < a1
               · rw [if_pos c16] at H
                 (have c16b0 : decide (a3 < a1) = true := decide_eq_true c16); clear c16
                 by_cases c17 : (Int.tmod (ji5) 12) = (Int.tmod (ji6) 12)
                 · rw [if_pos c17] at H
                   (have c17b0 : ((Int.tmod (ji5) 12) == (Int.tmod (ji6) 12)) = true := beq_iff_eq.mpr c17); (have c17b1 : ((Int.tmod (ji5) 12) != (Int.tmod (ji6) 12)) = false := bne_eq_false_iff_eq.mpr c17); clear c17
                   by_cases c18 : (Int.tmod (ji5) 12) = 0
                   · rw [if_pos c18] at H
                     (have c18b0 : ((Int.tmod (ji5) 12) == 0) = true := beq_iff_eq.mpr c18); (have c18b1 : ((Int.tmod (ji5) 12) != 0) = false := bne_eq_false_iff_eq.mpr c18); clear c18; obtain rfl := Option.some.inj H; go_enter Try.func64, Try.ntmps64; (go_wp2); go_ret; (exact ⟨by first | rfl | (simp [errW_none, errW_some] <;> rfl) | (simp only [← hji5, ← hji6]; first | rfl | (simp [errW_none, errW_some] <;> rfl)) | (simp [*, errW_none, errW_some] <;> rfl), by exact (q4_9)⟩)
                   · rw [if_neg c18] at H
                     (have c18b0 : ((Int.tmod (ji5) 12) == 0) = false := beq_eq_false_iff_ne.mpr c18); (have c18b1 : ((Int.tmod (ji5) 12) != 0) = true := bne_iff_ne.mpr c18); obtain rfl := Option.some.inj H; go_enter Try.func64, Try.ntmps64; (go_wp2); go_ret; (exact ⟨by first | rfl | (simp [errW_none, errW_some] <;> rfl) | (simp only [← hji5, ← hji6]; first | rfl | (simp [errW_none, errW_some] <;> rfl)) | (simp [*, errW_none, errW_some] <;> rfl), by exact (q4_9)⟩)
                 · rw [if_neg c17] at H
                   (have c17b0 : ((Int.tmod (ji5) 12) == (Int.tmod (ji6) 12)) = false := beq_eq_false_iff_ne.mpr c17); (have c17b1 : ((Int.tmod (ji5) 12) != (Int.tmod (ji6) 12)) = true := bne_iff_ne.mpr c17); obtain rfl := Option.some.inj H; go_enter Try.func64, Try.ntmps64; (go_wp2); go_ret; (exact ⟨by first | rfl | (simp [errW_none, errW_some] <;> rfl) | (simp only [← hji5, ← hji6]; first | rfl | (simp [errW_none, errW_some] <;> rfl)) | (simp [*, errW_none, errW_some] <;> rfl), by exact (q4_9)⟩)
               · rw [if_neg c16] at H
                 (have c16b0 : decide (a3 < a1) = false := decide_eq_false c16); clear c16; obtain rfl := Option.some.inj H; go_enter Try.func64, Try.ntmps64; (go_wp2); go_ret; (exact ⟨by first | rfl | (simp [errW_none, errW_some] <;> rfl) | (simp only [← hji5, ← hji6]; first | rfl | (simp [errW_none, errW_some] <;> rfl)) | (simp [*, errW_none, errW_some] <;> rfl), by exact (q4_9)⟩)
             · rw [if_neg c15] at H
               (have c15b0 : decide (a2 < a0) = false := decide_eq_false c15); clear c15; obtain rfl := Option.some.inj H; go_enter Try.func64, Try.ntmps64; (go_wp2); go_ret; (exact ⟨by first | rfl | (simp [errW_none, errW_some] <;> rfl) | (simp only [← hji5, ← hji6]; first | rfl | (simp [errW_none, errW_some] <;> rfl)) | (simp [*, errW_none, errW_some] <;> rfl), by exact (q4_9)⟩)
         · rw [if_neg c11] at H
           (have c11b0 : decide (a0 < a2) = false := decide_eq_false c11); clear c11
           by_cases c19 : a2 < a0
           · rw [if_pos c19] at H
             (have c19b0 : decide (a2 < a0) = true := decide_eq_true c19); clear c19
             by_cases c20 : a3 < a1
             · rw [if_pos c20] at H
               (have c20b0 : decide (a3 < a1) = true := decide_eq_true c20); clear c20
               by_cases c21 : (Int.tmod (ji5) 12) = (Int.tmod (ji6) 12)
               · rw [if_pos c21] at H
                 (have c21b0 : ((Int.tmod (ji5) 12) == (Int.tmod (ji6) 12)) = true := beq_iff_eq.mpr c21); (have c21b1 : ((Int.tmod (ji5) 12) != (Int.tmod (ji6) 12)) = false := bne_eq_false_iff_eq.mpr c21); clear c21
                 by_cases c22 : (Int.tmod (ji5) 12) = 0
                 · rw [if_pos c22] at H
                   (have c22b0 : ((Int.tmod (ji5) 12) == 0) = true := beq_iff_eq.mpr c22); (have c22b1 : ((Int.tmod (ji5) 12) != 0) = false := bne_eq_false_iff_eq.mpr c22); clear c22; obtain rfl := Option.some.inj H; go_enter Try.func64, Try.ntmps64; (go_wp2); go_ret; (exact ⟨by first | rfl | (simp [errW_none, errW_some] <;> rfl) | (simp only [← hji5, ← hji6]; first | rfl | (simp [errW_none, errW_some] <;> rfl)) | (simp [*, errW_none, errW_some] <;> rfl), by exact (q4_9)⟩)
                 · rw [if_neg c22] at H
                   (have c22b0 : ((Int.tmod (ji5) 12) == 0) = false := beq_eq_false_iff_ne.mpr c22); (have c22b1 : ((Int.tmod (ji5) 12) != 0) = true := bne_iff_ne.mpr c22); obtain rfl := Option.some.inj H; go_enter Try.func64, Try.ntmps64; (go_wp2); go_ret; (exact ⟨by first | rfl | (simp [errW_none, errW_some] <;> rfl) | (simp only [← hji5, ← hji6]; first | rfl | (simp [errW_none, errW_some] <;> rfl)) | (simp [*, errW_none, errW_some] <;> rfl), by exact (q4_9)⟩)
               · rw [if_neg c21] at H
                 (have c21b0 : ((Int.tmod (ji5) 12) == (Int.tmod (ji6) 12)) = false := beq_eq_false_iff_ne.mpr c21); (have c21b1 : ((Int.tmod (ji5) 12) != (Int.tmod (ji6) 12)) = true := bne_iff_ne.mpr c21); obtain rfl := Option.some.inj H; go_enter Try.func64, Try.ntmps64; (go_wp2); go_ret; (exact ⟨by first | rfl | (simp [errW_none, errW_some] <;> rfl) | (simp only [← hji5, ← hji6]; first | rfl | (simp [errW_none, errW_some] <;> rfl)) | (simp [*, errW_none, errW_some] <;> rfl), by exact (q4_9)⟩)
             · rw [if_neg c20] at H
               (have c20b0 : decide (a3 < a1) = false := decide_eq_false c20); clear c20; obtain rfl := Option.some.inj H; go_enter Try.func64, Try.ntmps64; (go_wp2); go_ret; (exact ⟨by first | rfl | (simp [errW_none, errW_some] <;> rfl) | (simp only [← hji5, ← hji6]; first | rfl | (simp [errW_none, errW_some] <;> rfl)) | (simp [*, errW_none, errW_some] <;> rfl), by exact (q4_9)⟩)
           · rw [if_neg c19] at H
             (have c19b0 : decide (a2 < a0) = false := decide_eq_false c19); clear c19; obtain rfl := Option.some.inj H; go_enter Try.func64, Try.ntmps64; (go_wp2); go_ret; (exact ⟨by first | rfl | (simp [errW_none, errW_some] <;> rfl) | (simp only [← hji5, ← hji6]; first | rfl | (simp [errW_none, errW_some] <;> rfl)) | (simp [*, errW_none, errW_some] <;> rfl), by exact (q4_9)⟩)
       · rw [if_neg c10] at H
         (have c10b0 : decide (0 < a3) = false := decide_eq_false c10); clear c10; obtain rfl := Option.some.inj H; go_enter Try.func64, Try.ntmps64; (go_wp2); go_ret; (exact ⟨by first | rfl | (simp [errW_none, errW_some] <;> rfl) | (simp only [← hji5, ← hji6]; first | rfl | (simp [errW_none, errW_some] <;> rfl)) | (simp [*, errW_none, errW_some] <;> rfl), by exact (q4_9)⟩)
     · rw [if_neg c9] at H
       (have c9b0 : decide (0 < a2) = false := decide_eq_false c9); clear c9; obtain rfl := Option.some.inj H; go_enter Try.func64, Try.ntmps64; (go_wp2); go_ret; (exact ⟨by first | rfl | (simp [errW_none, errW_some] <;> rfl) | (simp only [← hji5, ← hji6]; first | rfl | (simp [errW_none, errW_some] <;> rfl)) | (simp [*, errW_none, errW_some] <;> rfl), by exact (q4_9)⟩)
   · rw [if_neg c8] at H
     (have c8b0 : decide (0 < a1) = false := decide_eq_false c8); clear c8; obtain rfl := Option.some.inj H; go_enter Try.func64, Try.ntmps64; (go_wp2); go_ret; (exact ⟨by first | rfl | (simp [errW_none, errW_some] <;> rfl) | (simp only [← hji5, ← hji6]; first | rfl | (simp [errW_none, errW_some] <;> rfl)) | (simp [*, errW_none, errW_some] <;> rfl), by exact (q4_9)⟩)
 · rw [if_neg c7] at H
   (have c7b0 : decide (0 < a0) = false := decide_eq_false c7); clear c7; obtain rfl := Option.some.inj H; go_enter Try.func64, Try.ntmps64; (go_wp2); go_ret; (exact ⟨by first | rfl | (simp [errW_none, errW_some] <;> rfl) | (simp only [← hji5, ← hji6]; first | rfl | (simp [errW_none, errW_some] <;> rfl)) | (simp [*, errW_none, errW_some] <;> rfl), by exact (q4_9)⟩)
end Go.Proofs.Ytlkfhddckgjlnaa.PFnVoices
