-- Written for this claim by a program of this repository (wip/tools/print2.py), out of the translation; Lean checks it.
import Derived.Test.YtlkcbmcbmanmiaaPFnExactLeapsInx0
import Derived.Test.YtlkcbmcbmanmiaaPFnExactLeapsInx1
import Derived.Test.YtlkcbmcbmanmiaaPFnExactLeapsInx2
namespace Go.Proofs.Ytlkcbmcbmanmiaa.PFnExactLeapsIn
open Go.RowKit Go.Proofs.YtlkcbmcbmanmiaaW.PrintWords Go.Proofs.YtlkcbmcbmanmiaaW.PrintLast Go.Proofs.YtlkcbmcbmanmiaaW.PrintMore
attribute [local go_sem] max2_int min2_int max_two min_two max_three min_three max_four min_four   -- for this text's walks alone
set_option linter.unusedVariables false
set_option linter.unusedSimpArgs false
-- SHORT
theorem qc_3 {p : Prop} (f : p := by repeat (first | (with_reducible first | exact HB.out | apply below_alloc | apply pw_below_drewN | apply below_drew1) | exact HB.out)) : p := f
theorem qe_3 {p : Prop} (f : p := by repeat (first | (with_reducible first | exact HB.out | apply below_alloc | apply pw_below_drewN | apply below_drew1 | refine below_set ?_ qq.out) | exact HB.out)) : p := f
theorem q9_3 {p : Prop} (f : p := by repeat (first | (with_reducible first | exact HB.out | apply below_alloc | apply pw_below_drewN | apply below_drew1 | refine below_set ?_ qq.out | refine below_set ?_ qr.out) | exact HB.out)) : p := f
theorem qk_3 {p : Prop} (f : p := by repeat (first | (with_reducible first | exact HB.out | apply below_alloc | apply pw_below_drewN | apply below_drew1 | refine below_set ?_ qq.out | refine below_set ?_ qr.out | refine below_set ?_ qs.out) | exact HB.out)) : p := f
theorem q0_3 {p : Prop} (h : p) : Aside0 p := ⟨h⟩
/-! ### spec_l4Abs: function 65 -/
def spec_l4Abs.f (a0 : Int) : Option (Int) := if a0 < 0 then (some (wrap64 (-a0))) else (some a0)
set_option maxHeartbeats 8000000 in
set_option maxRecDepth 100000 in
theorem spec_l4Abs.calls (a0 : Int) (r : Int) (w : World) (h : spec_l4Abs.f a0 = some r) :
 Calls Try.prog 65 #[.int .i64 a0] w fun e w' => e = .returned (.int .i64 r) ∧ Drawn0 w w' := by
 (have H : (if a0 < 0 then (some (wrap64 (-a0))) else (some a0)) = some r := h); clear h
 by_cases c2 : a0 < 0
 · rw [if_pos c2] at H
   (have c2b0 : decide (a0 < 0) = true := decide_eq_true c2); clear c2; obtain rfl := Option.some.inj H; go_enter Try.func65, Try.ntmps65; (go_wp2); go_ret; exact ⟨by first | rfl | (simp; done) | (simp [*]; done), by repeat (first | exact Drawn0.refl _ | apply Drawn0.step)⟩
 · rw [if_neg c2] at H
   (have c2b0 : decide (a0 < 0) = false := decide_eq_false c2); clear c2; obtain rfl := Option.some.inj H; go_enter Try.func65, Try.ntmps65; (go_wp2); go_ret; exact ⟨by first | rfl | (simp; done) | (simp [*]; done), by repeat (first | exact Drawn0.refl _ | apply Drawn0.step)⟩
/-! ### spec_LeapsIn: function 15 -/
mutual
def spec_LeapsIn.l0 : Nat → List (S81) → Int → List Int → List (S81) → Int → Option (List Int)
 | 0, _, _, _, _, _ => none
 | k + 1, x0, x2, x7, x8, x9 => if x9 < (x8.length : Int) then ((spec_IsScore.f k x0).bind fun t127 => (spec_LeapsIn.j1 k x0 x2 x7 x8 x9 t127)) else (spec_LeapsIn.j1 k x0 x2 x7 x8 x9 false)
def spec_LeapsIn.j1 : Nat → List (S81) → Int → List Int → List (S81) → Int → Bool → Option (List Int)
 | 0, _, _, _, _, _, _ => none
 | k + 1, x0, x2, x7, x8, x9, x21 => if x21 = true then (if 0 ≤ x9 then (if x9 < (x8.length : Int) then (if 0 ≤ (wrap64 (x9 - 1)) then (if (wrap64 (x9 - 1)) < (x8.length : Int) then ((spec_l4Abs.f (wrap64 (((rd_T81 x8 x9).f2) - ((rd_T81 x8 (wrap64 (x9 - 1))).f2)))).bind fun t130 => (if t130 > x2 then (if x7.length < 17592186044416 then (spec_LeapsIn.l0 k x0 x2 (x7 ++ [(rd_T81 x8 x9).f0]) x8 (wrap64 (x9 + 1))) else (none)) else (spec_LeapsIn.l0 k x0 x2 x7 x8 (wrap64 (x9 + 1))))) else (none)) else (none)) else (none)) else (none)) else (some x7)
end
def spec_LeapsIn.f (k : Nat) (l0 : List (S81)) (a1 : Int) (a2 : Int) : Option (List Int) := (spec_VoiceOf.f k l0 a1).bind fun t124 => (spec_LeapsIn.l0 k l0 a2 (([] : List Int)) t124 1)
theorem spec_LeapsIn.mono_l : ∀ k, (∀ y0 y1 y2 y3 y4, LeO (spec_LeapsIn.l0 k y0 y1 y2 y3 y4) (spec_LeapsIn.l0 (k + 1) y0 y1 y2 y3 y4)) ∧ (∀ y0 y1 y2 y3 y4 y5, LeO (spec_LeapsIn.j1 k y0 y1 y2 y3 y4 y5) (spec_LeapsIn.j1 (k + 1) y0 y1 y2 y3 y4 y5))
 | 0 => ⟨fun _ _ _ _ _ r h => by simp [spec_LeapsIn.l0] at h, fun _ _ _ _ _ _ r h => by simp [spec_LeapsIn.j1] at h⟩
 | k + 1 => by
  obtain ⟨ih0, ih1⟩ := spec_LeapsIn.mono_l k; refine ⟨?_, ?_⟩
  · intro y0 y1 y2 y3 y4
    unfold spec_LeapsIn.l0
    repeat' first
    | (with_reducible exact ih0 _ _ _ _ _)
    | (with_reducible exact ih1 _ _ _ _ _ _)
    | (with_reducible exact spec_IsScore.mono _ _)
    | (with_reducible exact spec_VoiceOf.mono _ _ _)
    | (with_reducible exact LeO.refl _)
    | (with_reducible exact LeO.none _)
    | (with_reducible refine LeO.ite ?_ ?_)
    | (with_reducible refine LeO.bind ?_ (fun _ => ?_))
    | exact ih0 _ _ _ _ _
    | exact ih1 _ _ _ _ _ _
    | exact spec_IsScore.mono _ _
    | exact spec_VoiceOf.mono _ _ _
    | exact LeO.none _
    | refine LeO.ite ?_ ?_
    | refine LeO.bind ?_ (fun _ => ?_)
  · intro y0 y1 y2 y3 y4 y5
    unfold spec_LeapsIn.j1
    repeat' first
    | (with_reducible exact ih0 _ _ _ _ _)
    | (with_reducible exact ih1 _ _ _ _ _ _)
    | (with_reducible exact spec_IsScore.mono _ _)
    | (with_reducible exact spec_VoiceOf.mono _ _ _)
    | (with_reducible exact LeO.refl _)
    | (with_reducible exact LeO.none _)
    | (with_reducible refine LeO.ite ?_ ?_)
    | (with_reducible refine LeO.bind ?_ (fun _ => ?_))
    | exact ih0 _ _ _ _ _
    | exact ih1 _ _ _ _ _ _
    | exact spec_IsScore.mono _ _
    | exact spec_VoiceOf.mono _ _ _
    | exact LeO.none _
    | refine LeO.ite ?_ ?_
    | refine LeO.bind ?_ (fun _ => ?_)
theorem spec_LeapsIn.mono : ∀ a0 a1 a2 k, LeO (spec_LeapsIn.f k a0 a1 a2) (spec_LeapsIn.f (k + 1) a0 a1 a2) := by
 intro a0 a1 a2 k; obtain ⟨ih0, ih1⟩ := spec_LeapsIn.mono_l k; unfold spec_LeapsIn.f
 repeat' first
  | (with_reducible exact ih0 _ _ _ _ _)
  | (with_reducible exact ih1 _ _ _ _ _ _)
  | (with_reducible exact spec_IsScore.mono _ _)
  | (with_reducible exact spec_VoiceOf.mono _ _ _)
  | (with_reducible exact LeO.refl _)
  | (with_reducible exact LeO.none _)
  | (with_reducible refine LeO.ite ?_ ?_)
  | (with_reducible refine LeO.bind ?_ (fun _ => ?_))
  | exact ih0 _ _ _ _ _
  | exact ih1 _ _ _ _ _ _
  | exact spec_IsScore.mono _ _
  | exact spec_VoiceOf.mono _ _ _
  | exact LeO.none _
  | refine LeO.ite ?_ ?_
  | refine LeO.bind ?_ (fun _ => ?_)
def spec_LeapsIn.T6 : Bool × List (List Nat × List Nat) := (true, [([], []), ([], []), ([0, 1], [0, 1]), ([2], [2]), ([3], [3]), ([], []), ([], []), ([6], [6]), ([5, 7], [5, 7]), ([8], [8]), ([9], [9]), ([4, 10], [4, 10]), ([11], [11]), ([], []), ([12, 13], [12, 13])])
def spec_LeapsIn.B6 : List Nat := [0, 0, 3, 7, 15, 0, 0, 64, 224, 480, 992, 2047, 4095, 0, 16383]
theorem spec_LeapsIn.tab6 : rtab .any (opsOf Try.f15 6) = spec_LeapsIn.T6 := by kernel_rfl
theorem spec_LeapsIn.bits6 : waitsOk spec_LeapsIn.T6.2 spec_LeapsIn.B6 = true := by kernel_rfl
set_option maxHeartbeats 8000000 in
set_option maxRecDepth 100000 in
theorem spec_LeapsIn.calls (k : Nat) (A0 : Option Addr) (c0 : Nat) (l0 : List (S81)) (a1 : Int) (a2 : Int) (r : List Int) (w : World) (hr0 : Kd.C k81 w A0 l0.length l0) (hc0 : l0.length ≤ c0) (h : spec_LeapsIn.f k l0 a1 a2 = some r) :
 Calls Try.prog 15 #[.slice A0 l0.length c0, .int .i64 a1, .int .i64 a2] w fun e w' => ∃ v0_ : Value, e = .returned (v0_) ∧ Kd.R (Kd.int .i64) 3 w' w.heap.size (fun _ => True) v0_ r ∧ Below w.heap.size w w' := by
 have HR0 := q0_3 hr0; have HC0 := q0_3 hc0; clear hr0 hc0; have HB := q0_3 (Below.refl w.heap.size w); (have H : ((spec_VoiceOf.f k l0 a1).bind fun t124 => (spec_LeapsIn.l0 k l0 a2 (([] : List Int)) t124 1)) = some r := h); clear h; obtain ⟨y121, hy121⟩ : ∃ y_ : List Int, y_ = (([] : List Int)) := ⟨_, rfl⟩; (replace H : ((spec_VoiceOf.f k l0 a1).bind fun t124 => (spec_LeapsIn.l0 k l0 a2 y121 t124 1)) = some r := by first | (rw [hy121]; with_reducible exact H) | (have H2_ := (Option.bind_some _ _).symm.trans H; rw [hy121]; with_reducible exact H2_) | (have H2_ := (Option.bind_some _ _).symm.trans H; with_reducible exact H2_) | with_reducible exact H | (rw [hy121]; exact H) | exact H); have Ny121 := q0_3 hy121; clear hy121; replace H := Option.bind_eq_some_iff.mp H; obtain ⟨t124, A40, H⟩ := H; replace H : (spec_LeapsIn.l0 k l0 a2 y121 t124 1) = some r := H; have A4 := q0_3 A40; clear A40; (have H' := q0_3 H); clear H; go_enter Try.func15, Try.ntmps15; (go_wp2_with (first | ((with_reducible refine gate_dst (N := 10) rfl ?_); refine Kd.R_lit (Kd.int .i64) _ 3 ?hg (N := 10) ?hd (xs := ([] : List Int)) (inner := []) (ok := fun _ => True) (okp := fun _ => True) ?hr ?hp (fun _ hk => hk) trivial (Below.refl _ _) (Nat.le_refl _) (by simp) ?_; (case hd => rfl); (case hg => rfl); (case hr => first | (go_simp; done) | (go_simp; rfl)); (case hp => exact (Reps.none _ _)); intro v122 w5 ho6 hb hg_ hnew_; clear hg_ hnew_; (first | rw [← Ny121.out] at ho6 | (simp only [Int.reduceToNat] at ho6; rw [← Ny121.out] at ho6)); have n0_ := q0_3 (Kd.R_lower ho6 (below_size (qc_3))); have n1_ := q0_3 (below_step (qc_3) hb); clear HB; have qd := n0_; have HB := n1_; clear n0_ n1_; clear hb ho6) | ((with_reducible refine gate_callee (f := 63) rfl ?_); refine goesL_ (some 13) rfl rfl Try.func63 (by kernel_rfl) rfl #[.slice A0 l0.length c0, .int .i64 a1] rfl ma ?_; (with_reducible refine (spec_VoiceOf.calls k _ _ l0 a1 t124 _ ?side1 ?side2 A4.out).mono ?_); (case side1 => exact ca (Kd.C_below HR0.out HB.out)); (case side2 => exact HC0.out); rintro e w7 ⟨v125, rfl, ho0, hb⟩; refine ⟨_, rfl, ?_⟩; have n0_ := q0_3 (Kd.R_below (ra qd.out) hb); have n1_ := q0_3 (Kd.R_lower ho0 (below_size (qc_3))); have n2_ := q0_3 (below_step (qc_3) hb); clear qd; clear HB; have qd := n0_; have ql := n1_; have HB := n2_; clear n0_ n1_ n2_; (try clear hb); (try clear hb2); (try clear hk); (try clear hi); (try clear ho0)))); (go_loopg [7, 9] k (fun kq v7 v9 w' => ∃ (x7_1 : List Int) (x9_1 : Int), v9 = .int .i64 x9_1 ∧ Aside0 (spec_LeapsIn.l0 kq l0 a2 x7_1 t124 x9_1 = some r) ∧ Aside0 (kq ≤ k) ∧ Aside0 (Kd.R (Kd.int .i64) 3 w' w.heap.size (fun _ => True) v7 x7_1) ∧ Aside0 (Kd.R k81 81 w' w.heap.size (fun _ => True) v125 t124) ∧ Aside0 (Below w.heap.size w w')))
 case atStart => exact ⟨(y121), (1), (by first | rfl | (simp; done) | (simp [*]; done)), H', ⟨Nat.le_refl _⟩, ⟨by refine ra ?_; exact qd.out⟩, ⟨by refine ra ?_; exact ql.out⟩, ⟨by exact (qc_3)⟩⟩
 case round =>
  clear H'; (try clear c1); (try clear p2); (try clear c6); obtain ⟨x7_1, x9_1, rfl, HA, HK1, q5, q1, HB⟩ := hrel
  cases gk with
  | zero => exact absurd HA.out (by simp [spec_LeapsIn.l0])
  | succ k1 =>
   have H := HA.out; clear HA; (simp only [spec_LeapsIn.l0] at H); have HC8 := q0_3 H; clear H; (go_upto_region 4 with (fail)); (go_cut [21] (fun v21 wc => ∃ (kq : Nat) (x21_7 : Bool), v21 = .bool x21_7 ∧ Aside0 (spec_LeapsIn.j1 kq l0 a2 x7_1 t124 x9_1 x21_7 = some r) ∧ Aside0 (kq ≤ k1) ∧ Aside0 (Kd.R (Kd.int .i64) 3 wc w.heap.size (fun _ => True) u7 x7_1) ∧ Aside0 (Kd.R k81 81 wc w.heap.size (fun _ => True) v125 t124) ∧ Aside0 (Below w.heap.size w wc)))
   case first =>
    have H := HC8.out; clear HC8
    by_cases c9 : x9_1 < (t124.length : Int)
    · rw [if_pos c9] at H
      (have c9b0 : decide (x9_1 < (t124.length : Int)) = true := decide_eq_true c9); clear c9; ((first | rw [c9b0] | (simp only [i64_w, i32_w]; rw [c9b0]) | skip)); replace H := Option.bind_eq_some_iff.mp H; obtain ⟨t127, A100, H⟩ := H; replace H : (spec_LeapsIn.j1 k1 l0 a2 x7_1 t124 x9_1 t127) = some r := H; have A10 := q0_3 A100; clear A100; (have H' := q0_3 H); clear H; obtain ⟨qt, qu, eo11⟩ := Kd.R_slice q1.out; subst eo11; (go_wp2_with (first | (go_at_call 64; (with_reducible refine (spec_IsScore.calls k1 _ _ l0 t127 _ ?side1 ?side2 A10.out).mono ?_); (case side1 => exact ca (Kd.C_below HR0.out HB.out)); (case side2 => exact HC0.out); rintro e w12 ⟨rfl, hb⟩; have n0_ := q0_3 (Kd.R_below (ra q5.out) hb); have n1_ := q0_3 (Kd.R_below (ra q1.out) hb); have n2_ := q0_3 (below_step (qc_3) hb); clear q5; clear q1; clear HB; have q5 := n0_; have q1 := n1_; have HB := n2_; clear n0_ n1_ n2_; (try clear hb); (try clear hb2); (try clear hk); (try clear hi)))); (go_meet)
      case rel => exact ⟨_, (t127), (by first | rfl | (simp; done) | (simp [*]; done)), H', ⟨by have := HK1.out; first | omega | exact Nat.le_refl _⟩, ⟨by refine ra ?_; exact q5.out⟩, ⟨by refine ra ?_; exact q1.out⟩, ⟨by exact (qc_3)⟩⟩
    · rw [if_neg c9] at H
      (have c9b0 : decide (x9_1 < (t124.length : Int)) = false := decide_eq_false c9); clear c9; ((first | rw [c9b0] | (simp only [i64_w, i32_w]; rw [c9b0]) | skip)); (have H' := q0_3 H); clear H; obtain ⟨qv, qw, eo13⟩ := Kd.R_slice q1.out; subst eo13; (go_wp2); (go_meet)
      case rel => exact ⟨_, (false), (by first | rfl | (simp; done) | (simp [*]; done)), H', ⟨by have := HK1.out; first | omega | exact Nat.le_refl _⟩, ⟨by refine ra ?_; exact q5.out⟩, ⟨by refine ra ?_; exact q1.out⟩, ⟨by exact (qc_3)⟩⟩
   case rest =>
    clear HC8; (try clear c1); (try clear p2); (try clear c6); (try clear c9); (try clear c9b0); (try clear p2); obtain ⟨kq, x21_7, rfl, HA, HJ7, q5, q1, HB⟩ := hcut
    cases kq with
    | zero => exact absurd HA.out (by simp [spec_LeapsIn.j1])
    | succ kj7 =>
     have H := HA.out; clear HA; (simp only [spec_LeapsIn.j1] at H)
     by_cases c14 : x21_7 = true
     · subst c14
       have H1 : (if 0 ≤ x9_1 then (if x9_1 < (t124.length : Int) then (if 0 ≤ (wrap64 (x9_1 - 1)) then (if (wrap64 (x9_1 - 1)) < (t124.length : Int) then ((spec_l4Abs.f (wrap64 (((rd_T81 t124 x9_1).f2) - ((rd_T81 t124 (wrap64 (x9_1 - 1))).f2)))).bind fun t130 => (if t130 > a2 then (if x7_1.length < 17592186044416 then (spec_LeapsIn.l0 kj7 l0 a2 (x7_1 ++ [(rd_T81 t124 x9_1).f0]) t124 (wrap64 (x9_1 + 1))) else (none)) else (spec_LeapsIn.l0 kj7 l0 a2 x7_1 t124 (wrap64 (x9_1 + 1))))) else (none)) else (none)) else (none)) else (none)) = some r := by rw [if_pos rfl] at H; exact H
       clear H; have H := H1; clear H1
       by_cases c15 : 0 ≤ x9_1
       · rw [if_pos c15] at H
         (have c15b0 : decide (0 ≤ x9_1) = true := decide_eq_true c15); clear c15
         by_cases c16 : x9_1 < (t124.length : Int)
         · rw [if_pos c16] at H
           (have c16b0 : decide (x9_1 < (t124.length : Int)) = true := decide_eq_true c16); clear c16; obtain ⟨ji17, hji17⟩ : ∃ j_ : Int, (wrap64 (x9_1 - 1)) = j_ := ⟨_, rfl⟩; (replace H : (if 0 ≤ (ji17) then (if (ji17) < (t124.length : Int) then ((spec_l4Abs.f (wrap64 (((rd_T81 t124 x9_1).f2) - ((rd_T81 t124 (ji17)).f2)))).bind fun t130 => (if t130 > a2 then (if x7_1.length < 17592186044416 then (spec_LeapsIn.l0 kj7 l0 a2 (x7_1 ++ [(rd_T81 t124 x9_1).f0]) t124 (wrap64 (x9_1 + 1))) else (none)) else (spec_LeapsIn.l0 kj7 l0 a2 x7_1 t124 (wrap64 (x9_1 + 1))))) else (none)) else (none)) = some r := by first | (rw [hji17] at H; exact H) | (simp only [hji17] at H ⊢; exact H)); (have hji17w : (IntKind.i64.wrap (x9_1 - 1)) = ji17 := (i64_w _).trans hji17)
           by_cases c18 : 0 ≤ (ji17)
           · rw [if_pos c18] at H
             (have c18b0 : decide (0 ≤ (ji17)) = true := decide_eq_true c18); clear c18
             by_cases c19 : (ji17) < (t124.length : Int)
             · rw [if_pos c19] at H
               (have c19b0 : decide ((ji17) < (t124.length : Int)) = true := decide_eq_true c19); clear c19; replace H := Option.bind_eq_some_iff.mp H; obtain ⟨t130, A200, H⟩ := H; replace H : (if t130 > a2 then (if x7_1.length < 17592186044416 then (spec_LeapsIn.l0 kj7 l0 a2 (x7_1 ++ [(rd_T81 t124 x9_1).f0]) t124 (wrap64 (x9_1 + 1))) else (none)) else (spec_LeapsIn.l0 kj7 l0 a2 x7_1 t124 (wrap64 (x9_1 + 1)))) = some r := H; have A20 := q0_3 A200; clear A200
               by_cases c21 : t130 > a2
               · rw [if_pos c21] at H
                 (have c21b0 : decide (a2 < t130) = true := decide_eq_true c21); clear c21
                 by_cases c22 : x7_1.length < 17592186044416
                 · rw [if_pos c22] at H
                   have LMc22 := q0_3 c22; clear c22; obtain ⟨y132, hy132⟩ : ∃ y_ : List Int, y_ = (x7_1 ++ [(rd_T81 t124 x9_1).f0]) := ⟨_, rfl⟩; (replace H : (spec_LeapsIn.l0 kj7 l0 a2 y132 t124 (wrap64 (x9_1 + 1))) = some r := by first | (rw [hy132]; with_reducible exact H) | (have H2_ := (Option.bind_some _ _).symm.trans H; rw [hy132]; with_reducible exact H2_) | (have H2_ := (Option.bind_some _ _).symm.trans H; with_reducible exact H2_) | with_reducible exact H | (rw [hy132]; exact H) | exact H); have Ny132 := q0_3 hy132; clear hy132; (have H' := q0_3 H); clear H; (try go_wp2); have n0_ := q0_3 (Kd.R_drew q5.out); have n1_ := q0_3 (Kd.R_drew q1.out); have n2_ := q0_3 (below_drew1 HB.out); clear q5 q1 HB; have q5 := n0_; have q1 := n1_; have HB := n2_; clear n0_ n1_ n2_; obtain ⟨qx, qy, eo24⟩ := Kd.R_slice q1.out; ((first | subst eo24 | (injection eo24 with f1_ f2_ f3_; have f4_ := f1_.symm; have f5_ := f3_.symm; clear f1_ f2_ f3_; subst f4_; subst f5_))); (have p128 : 0 ≤ (x9_1 : Int) := of_decide_eq_true (by first | (with_reducible assumption) | assumption)); (have q128 : x9_1 < (t124.length : Int) := of_decide_eq_true (by first | (with_reducible assumption) | assumption)); obtain ⟨ad128, e128, hx128_0, hx128_1, hx128_2, hx128_3⟩ := at_T81 (Kd.R_reads' q1.out).2.2 x9_1 p128 q128
                   cases e128
                   replace p128 := eq_true p128; replace q128 := eq_true q128; (have p129 : 0 ≤ ((ji17) : Int) := of_decide_eq_true (by first | (with_reducible assumption) | assumption)); (have q129 : (ji17) < (t124.length : Int) := of_decide_eq_true (by first | (with_reducible assumption) | assumption)); obtain ⟨ad129, e129, hx129_0, hx129_1, hx129_2, hx129_3⟩ := at_T81 (Kd.R_reads' q1.out).2.2 (ji17) p129 q129; obtain rfl : ad128 = ad129 := (by injection e129); replace p129 := eq_true p129; replace q129 := eq_true q129; refine start_ (n := 15) (S := fun w' => w'.cell? (ad128.add ((x9_1).toNat * 4)) = some (.int .i64 ((rd_T81 t124 x9_1).f0)) ∧ w'.cell? ⟨(ad128.add ((x9_1).toNat * 4)).block, (ad128.add ((x9_1).toNat * 4)).off + 1, none⟩ = some (.int .i64 ((rd_T81 t124 x9_1).f1)) ∧ w'.cell? ⟨(ad128.add ((x9_1).toNat * 4)).block, (ad128.add ((x9_1).toNat * 4)).off + 2, none⟩ = some (.int .i64 ((rd_T81 t124 x9_1).f2)) ∧ w'.cell? ⟨(ad128.add ((x9_1).toNat * 4)).block, (ad128.add ((x9_1).toNat * 4)).off + 3, none⟩ = some (.int .i64 ((rd_T81 t124 x9_1).f3)) ∧ w'.cell? (ad128.add (((ji17)).toNat * 4)) = some (.int .i64 ((rd_T81 t124 (ji17)).f0)) ∧ w'.cell? ⟨(ad128.add (((ji17)).toNat * 4)).block, (ad128.add (((ji17)).toNat * 4)).off + 1, none⟩ = some (.int .i64 ((rd_T81 t124 (ji17)).f1)) ∧ w'.cell? ⟨(ad128.add (((ji17)).toNat * 4)).block, (ad128.add (((ji17)).toNat * 4)).off + 2, none⟩ = some (.int .i64 ((rd_T81 t124 (ji17)).f2)) ∧ w'.cell? ⟨(ad128.add (((ji17)).toNat * 4)).block, (ad128.add (((ji17)).toNat * 4)).off + 3, none⟩ = some (.int .i64 ((rd_T81 t124 (ji17)).f3))) (ds := []) (bq 0 15) (by kernel_rfl) rfl rfl ⟨hx128_0, hx128_1, hx128_2, hx128_3, hx129_0, hx129_1, hx129_2, hx129_3⟩ (fun hHeld => ?_); refine with_tabW spec_LeapsIn.tab6 spec_LeapsIn.bits6 (fun HT_ HW_ => ?_); generalize wc.drew = w23 at q5 q1 HB hx128_0 hx128_1 hx128_2 hx128_3 hx129_0 hx129_1 hx129_2 hx129_3 hHeld ⊢; refine pure_ (i := 0) (N := some 24) (v := ?_) (a' := ?_) (bq 1 15) rfl rfl (any_of HT_.out (by kernel_rfl)) (fun _ _ _ h => h) (Or.inl ⟨by rfl, ?_⟩) ?_ ?_; rotate_left; (intro w'; go_simp; with_reducible rfl); rotate_left; (exact pb); refine pure_ (i := 1) (N := some 25) (v := ?_) (a' := ?_) (bq 3 15) rfl rfl (any_of HT_.out (by kernel_rfl)) (fun _ _ _ h => h) (Or.inl ⟨by rfl, ?_⟩) ?_ ?_; rotate_left; (intro w'; go_simp; with_reducible rfl); rotate_left; (exact pb); refine pure_ (i := 2) (N := some 26) (v := ?_) (a' := ?_) (bq 7 15) rfl rfl (any_of HT_.out (by kernel_rfl)) (fun _ _ _ h => h) (Or.inl ⟨by rfl, ?_⟩) ?_ ?_; rotate_left; (intro w'; go_simp; with_reducible rfl); rotate_left; (exact pb); refine pure_ (i := 3) (N := some 27) (v := ?_) (a' := ?_) (bq 15 15) rfl rfl (any_of HT_.out (by kernel_rfl)) (fun _ _ _ h => h) (Or.inl ⟨by rfl, ?_⟩) ?_ ?_; rotate_left; (intro w'; go_simp; with_reducible rfl); rotate_left; (exact pb)
                   refine pure_ (i := 5) (N := some 29) (v := ?_) (a' := ?_) (bq 47 15) rfl rfl (any_of HT_.out (by kernel_rfl)) (fun _ _ _ h => h) (Or.inl ⟨by rfl, ?_⟩) ?_ ?_; rotate_left; (intro w'; go_simp; with_reducible rfl); rotate_left; (exact pb); refine pure_ (i := 6) (N := some 30) (v := ?_) (a' := ?_) (bq 111 15) rfl rfl (any_of HT_.out (by kernel_rfl)) (fun _ _ _ h => h) (Or.inl ⟨by rfl, ?_⟩) ?_ ?_; rotate_left; (intro w'; go_simp; with_reducible rfl); rotate_left; (exact pb); refine pure_ (i := 7) (N := some 31) (v := ?_) (a' := ?_) (bq 239 15) rfl rfl (any_of HT_.out (by kernel_rfl)) (fun _ _ _ h => h) (Or.inl ⟨by rfl, ?_⟩) ?_ ?_; rotate_left; (intro w'; go_simp; with_reducible rfl); rotate_left; (exact pb); refine pure_ (i := 8) (N := some 32) (v := ?_) (a' := ?_) (bq 495 15) rfl rfl (any_of HT_.out (by kernel_rfl)) (fun _ _ _ h => h) (Or.inl ⟨by rfl, ?_⟩) ?_ ?_; rotate_left; (intro w'; go_simp; with_reducible rfl); rotate_left; (exact pb); refine pure_ (i := 9) (N := some 33) (v := ?_) (a' := ?_) (bq 1007 15) rfl rfl (any_of HT_.out (by kernel_rfl)) (fun _ _ _ h => h) (Or.inl ⟨by rfl, ?_⟩) ?_ ?_; rotate_left; (intro w'; go_simp; with_reducible rfl); rotate_left; (exact pb); refine pure_ (i := 13) (N := some 37) (v := ?_) (a' := ?_) (bq 9199 15) rfl rfl (any_of HT_.out (by kernel_rfl)) (fun _ _ _ h => h) (Or.inl ⟨by rfl, ?_⟩) ?_ ?_; rotate_left; (intro w'; go_simp; with_reducible rfl); rotate_left; (exact pb); refine take_ (i := 4) (N := some 28) (v := ?_) (a' := ?_) (bq 9215 15) rfl rfl (take_ofW HT_.out HW_.out (by kernel_rfl)) (fun _ _ _ h => h) (Or.inl ⟨by rfl, ?_⟩) hHeld ?_ ?_; rotate_left; (rintro w' ⟨s0, s1, s2, s3, s4, s5, s6, s7⟩; go_simp; with_reducible rfl); rotate_left; (exact pb); refine take_ (i := 10) (N := some 34) (v := ?_) (a' := ?_) (bq 10239 15) rfl rfl (take_ofW HT_.out HW_.out (by kernel_rfl)) (fun _ _ _ h => h) (Or.inl ⟨by rfl, ?_⟩) hHeld ?_ ?_; rotate_left; (rintro w' ⟨s0, s1, s2, s3, s4, s5, s6, s7⟩; go_simp; with_reducible rfl); rotate_left; (exact pb); refine pure_ (i := 11) (N := some 35) (v := ?_) (a' := ?_) (bq 12287 15) rfl rfl (any_of HT_.out (by kernel_rfl)) (fun _ _ _ h => h) (Or.inl ⟨by rfl, ?_⟩) ?_ ?_; rotate_left; (intro w'; go_simp; with_reducible rfl); rotate_left; (exact pb); refine one_ (i := 12) (N := some 36) (bq 16383 15) rfl rfl (one_of HT_.out (by kernel_rfl)) (by decide) (fun K hK => ?_); refine goes_ Try.func65 (by kernel_rfl) rfl #[.int .i64 (wrap64 (((rd_T81 t124 x9_1).f2) - ((rd_T81 t124 (ji17)).f2)))] (by rfl) rfl rfl (by (try simp only [List.map_toArray, List.map_cons, List.map_nil]); first | done | (simp only [hji17]; rfl) | rfl | (simp only [List.length_drop, List.length_take]; rfl)) ?_; (with_reducible refine (spec_l4Abs.calls (wrap64 (((rd_T81 t124 x9_1).f2) - ((rd_T81 t124 (ji17)).f2))) t130 _ A20.out).mono ?_); rintro e w' ⟨rfl, ⟨nd, rfl⟩⟩; refine ⟨_, rfl, ?_⟩
                   refine hK.out _ _ ⟨hHeld.1, hHeld.2.1, hHeld.2.2.1, hHeld.2.2.2.1, hHeld.2.2.2.2.1, hHeld.2.2.2.2.2.1, hHeld.2.2.2.2.2.2.1, hHeld.2.2.2.2.2.2.2⟩ (fun hHeld => ?_); clear hK K; refine norm_ (a' := ?_) ?_ ?_; rotate_left; ((show Act.put _ (some 36) _ = _); simp only [Act.put, List.setIfInBounds_toArray, List.set_cons_zero, List.set_cons_succ, i64_w, i32_w]; rfl); refine pure_ (i := 14) (N := some 38) (v := ?_) (a' := ?_) (bq 32767 15) rfl rfl (any_of HT_.out (by kernel_rfl)) (fun _ _ _ h => h) (Or.inl ⟨by rfl, ?_⟩) ?_ ?_; rotate_left; (intro w'; go_simp; with_reducible rfl); rotate_left; (exact pb); refine done_ (done_of HT_.out (by kernel_rfl)) ?_; (have p131 : 0 ≤ (x9_1 : Int) := of_decide_eq_true (by first | (with_reducible assumption) | assumption)); (have q131 : x9_1 < (t124.length : Int) := of_decide_eq_true (by first | (with_reducible assumption) | assumption)); obtain ⟨ad131, e131, hx131_0, hx131_1, hx131_2, hx131_3⟩ := at_T81 (Kd.R_reads' q1.out).2.2 x9_1 p131 q131; obtain rfl : ad128 = ad131 := (by injection e131); replace p131 := eq_true p131; replace q131 := eq_true q131; (try go_wp2_with (first | ((with_reducible refine gate_builtin (b := .append) (xs := #[.tmp 39, .tmp 45]) rfl ?_); at_builtin; refine Kd.R_append (Kd.int .i64) (w0 := w) w.heap.size rfl (.tmp 39) (.tmp 45) 24 3 (.int .i64 0) 8 rfl Try.underlying24 info3 rfl (by decide) (by omega) u7 x7_1 ((rd_T81 t124 x9_1).f0) [.int .i64 ((rd_T81 t124 x9_1).f0)] (fun _ => True) (fun _ => False) rfl rfl ?aP (fun _ hk => hk.elim) ?aF ?aO ?aB ?aS ?aL ?_; (case aP => exact rfl); (case aB => exact (qc_3)); (case aF => exact (fun _ _ => trivial)); (case aO => exact (ra q5.out)); (case aS => exact (below_size (qc_3))); (case aL => have := LMc22.out; omega); intro v133 w25 ho hb hg hat; rw [← Ny132.out] at ho; have n0_ := q0_3 (Kd.R_over' (ra q1.out) (Kd.R_typed (ra q5.out)) (by decide) hg); have n1_ := q0_3 (hb); have n2_ := q0_3 (ho); clear q1; clear HB; clear q5; have q1 := n0_; have HB := n1_; have qm := n2_; clear n0_ n1_ n2_; clear ho hb hg hat))); (go_roundg kj7)
                   case measure => have := HK1.out; have := HJ7.out; omega
                   case rel => exact ⟨(y132), (wrap64 (x9_1 + 1)), (by first | rfl | (simp; done) | (simp [*]; done)), (by first | exact H' | (have H2_ := H'; (try simp only [← hji17] at H2_); (try simp only [← hji17]); exact H2_)), ⟨by have := HK1.out; have := HJ7.out; omega⟩, ⟨by refine ra ?_; exact qm.out⟩, ⟨by refine ra ?_; exact q1.out⟩, ⟨by exact (qc_3)⟩⟩
                 · rw [if_neg c22] at H
                   exact absurd H (by simp)
               · rw [if_neg c21] at H
                 (have c21b0 : decide (a2 < t130) = false := decide_eq_false c21); clear c21; (have H' := q0_3 H); clear H; (try go_wp2); have n0_ := q0_3 (Kd.R_drew q5.out); have n1_ := q0_3 (Kd.R_drew q1.out); have n2_ := q0_3 (below_drew1 HB.out); clear q5 q1 HB; have q5 := n0_; have q1 := n1_; have HB := n2_; clear n0_ n1_ n2_; obtain ⟨qz, z00, eo27⟩ := Kd.R_slice q1.out; ((first | subst eo27 | (injection eo27 with f1_ f2_ f3_; have f4_ := f1_.symm; have f5_ := f3_.symm; clear f1_ f2_ f3_; subst f4_; subst f5_))); (have p128 : 0 ≤ (x9_1 : Int) := of_decide_eq_true (by first | (with_reducible assumption) | assumption)); (have q128 : x9_1 < (t124.length : Int) := of_decide_eq_true (by first | (with_reducible assumption) | assumption)); obtain ⟨ad128, e128, hx128_0, hx128_1, hx128_2, hx128_3⟩ := at_T81 (Kd.R_reads' q1.out).2.2 x9_1 p128 q128
                 cases e128
                 replace p128 := eq_true p128; replace q128 := eq_true q128; (have p129 : 0 ≤ ((ji17) : Int) := of_decide_eq_true (by first | (with_reducible assumption) | assumption)); (have q129 : (ji17) < (t124.length : Int) := of_decide_eq_true (by first | (with_reducible assumption) | assumption)); obtain ⟨ad129, e129, hx129_0, hx129_1, hx129_2, hx129_3⟩ := at_T81 (Kd.R_reads' q1.out).2.2 (ji17) p129 q129; obtain rfl : ad128 = ad129 := (by injection e129); replace p129 := eq_true p129; replace q129 := eq_true q129; refine start_ (n := 15) (S := fun w' => w'.cell? (ad128.add ((x9_1).toNat * 4)) = some (.int .i64 ((rd_T81 t124 x9_1).f0)) ∧ w'.cell? ⟨(ad128.add ((x9_1).toNat * 4)).block, (ad128.add ((x9_1).toNat * 4)).off + 1, none⟩ = some (.int .i64 ((rd_T81 t124 x9_1).f1)) ∧ w'.cell? ⟨(ad128.add ((x9_1).toNat * 4)).block, (ad128.add ((x9_1).toNat * 4)).off + 2, none⟩ = some (.int .i64 ((rd_T81 t124 x9_1).f2)) ∧ w'.cell? ⟨(ad128.add ((x9_1).toNat * 4)).block, (ad128.add ((x9_1).toNat * 4)).off + 3, none⟩ = some (.int .i64 ((rd_T81 t124 x9_1).f3)) ∧ w'.cell? (ad128.add (((ji17)).toNat * 4)) = some (.int .i64 ((rd_T81 t124 (ji17)).f0)) ∧ w'.cell? ⟨(ad128.add (((ji17)).toNat * 4)).block, (ad128.add (((ji17)).toNat * 4)).off + 1, none⟩ = some (.int .i64 ((rd_T81 t124 (ji17)).f1)) ∧ w'.cell? ⟨(ad128.add (((ji17)).toNat * 4)).block, (ad128.add (((ji17)).toNat * 4)).off + 2, none⟩ = some (.int .i64 ((rd_T81 t124 (ji17)).f2)) ∧ w'.cell? ⟨(ad128.add (((ji17)).toNat * 4)).block, (ad128.add (((ji17)).toNat * 4)).off + 3, none⟩ = some (.int .i64 ((rd_T81 t124 (ji17)).f3))) (ds := []) (bq 0 15) (by kernel_rfl) rfl rfl ⟨hx128_0, hx128_1, hx128_2, hx128_3, hx129_0, hx129_1, hx129_2, hx129_3⟩ (fun hHeld => ?_); refine with_tabW spec_LeapsIn.tab6 spec_LeapsIn.bits6 (fun HT_ HW_ => ?_); generalize wc.drew = w26 at q5 q1 HB hx128_0 hx128_1 hx128_2 hx128_3 hx129_0 hx129_1 hx129_2 hx129_3 hHeld ⊢; refine pure_ (i := 0) (N := some 24) (v := ?_) (a' := ?_) (bq 1 15) rfl rfl (any_of HT_.out (by kernel_rfl)) (fun _ _ _ h => h) (Or.inl ⟨by rfl, ?_⟩) ?_ ?_; rotate_left; (intro w'; go_simp; with_reducible rfl); rotate_left; (exact pb); refine pure_ (i := 1) (N := some 25) (v := ?_) (a' := ?_) (bq 3 15) rfl rfl (any_of HT_.out (by kernel_rfl)) (fun _ _ _ h => h) (Or.inl ⟨by rfl, ?_⟩) ?_ ?_; rotate_left; (intro w'; go_simp; with_reducible rfl); rotate_left; (exact pb); refine pure_ (i := 2) (N := some 26) (v := ?_) (a' := ?_) (bq 7 15) rfl rfl (any_of HT_.out (by kernel_rfl)) (fun _ _ _ h => h) (Or.inl ⟨by rfl, ?_⟩) ?_ ?_; rotate_left; (intro w'; go_simp; with_reducible rfl); rotate_left; (exact pb); refine pure_ (i := 3) (N := some 27) (v := ?_) (a' := ?_) (bq 15 15) rfl rfl (any_of HT_.out (by kernel_rfl)) (fun _ _ _ h => h) (Or.inl ⟨by rfl, ?_⟩) ?_ ?_; rotate_left; (intro w'; go_simp; with_reducible rfl); rotate_left; (exact pb)
                 refine pure_ (i := 5) (N := some 29) (v := ?_) (a' := ?_) (bq 47 15) rfl rfl (any_of HT_.out (by kernel_rfl)) (fun _ _ _ h => h) (Or.inl ⟨by rfl, ?_⟩) ?_ ?_; rotate_left; (intro w'; go_simp; with_reducible rfl); rotate_left; (exact pb); refine pure_ (i := 6) (N := some 30) (v := ?_) (a' := ?_) (bq 111 15) rfl rfl (any_of HT_.out (by kernel_rfl)) (fun _ _ _ h => h) (Or.inl ⟨by rfl, ?_⟩) ?_ ?_; rotate_left; (intro w'; go_simp; with_reducible rfl); rotate_left; (exact pb); refine pure_ (i := 7) (N := some 31) (v := ?_) (a' := ?_) (bq 239 15) rfl rfl (any_of HT_.out (by kernel_rfl)) (fun _ _ _ h => h) (Or.inl ⟨by rfl, ?_⟩) ?_ ?_; rotate_left; (intro w'; go_simp; with_reducible rfl); rotate_left; (exact pb); refine pure_ (i := 8) (N := some 32) (v := ?_) (a' := ?_) (bq 495 15) rfl rfl (any_of HT_.out (by kernel_rfl)) (fun _ _ _ h => h) (Or.inl ⟨by rfl, ?_⟩) ?_ ?_; rotate_left; (intro w'; go_simp; with_reducible rfl); rotate_left; (exact pb); refine pure_ (i := 9) (N := some 33) (v := ?_) (a' := ?_) (bq 1007 15) rfl rfl (any_of HT_.out (by kernel_rfl)) (fun _ _ _ h => h) (Or.inl ⟨by rfl, ?_⟩) ?_ ?_; rotate_left; (intro w'; go_simp; with_reducible rfl); rotate_left; (exact pb); refine pure_ (i := 13) (N := some 37) (v := ?_) (a' := ?_) (bq 9199 15) rfl rfl (any_of HT_.out (by kernel_rfl)) (fun _ _ _ h => h) (Or.inl ⟨by rfl, ?_⟩) ?_ ?_; rotate_left; (intro w'; go_simp; with_reducible rfl); rotate_left; (exact pb); refine take_ (i := 4) (N := some 28) (v := ?_) (a' := ?_) (bq 9215 15) rfl rfl (take_ofW HT_.out HW_.out (by kernel_rfl)) (fun _ _ _ h => h) (Or.inl ⟨by rfl, ?_⟩) hHeld ?_ ?_; rotate_left; (rintro w' ⟨s0, s1, s2, s3, s4, s5, s6, s7⟩; go_simp; with_reducible rfl); rotate_left; (exact pb); refine take_ (i := 10) (N := some 34) (v := ?_) (a' := ?_) (bq 10239 15) rfl rfl (take_ofW HT_.out HW_.out (by kernel_rfl)) (fun _ _ _ h => h) (Or.inl ⟨by rfl, ?_⟩) hHeld ?_ ?_; rotate_left; (rintro w' ⟨s0, s1, s2, s3, s4, s5, s6, s7⟩; go_simp; with_reducible rfl); rotate_left; (exact pb); refine pure_ (i := 11) (N := some 35) (v := ?_) (a' := ?_) (bq 12287 15) rfl rfl (any_of HT_.out (by kernel_rfl)) (fun _ _ _ h => h) (Or.inl ⟨by rfl, ?_⟩) ?_ ?_; rotate_left; (intro w'; go_simp; with_reducible rfl); rotate_left; (exact pb); refine one_ (i := 12) (N := some 36) (bq 16383 15) rfl rfl (one_of HT_.out (by kernel_rfl)) (by decide) (fun K hK => ?_); refine goes_ Try.func65 (by kernel_rfl) rfl #[.int .i64 (wrap64 (((rd_T81 t124 x9_1).f2) - ((rd_T81 t124 (ji17)).f2)))] (by rfl) rfl rfl (by (try simp only [List.map_toArray, List.map_cons, List.map_nil]); first | done | (simp only [hji17]; rfl) | rfl | (simp only [List.length_drop, List.length_take]; rfl)) ?_; (with_reducible refine (spec_l4Abs.calls (wrap64 (((rd_T81 t124 x9_1).f2) - ((rd_T81 t124 (ji17)).f2))) t130 _ A20.out).mono ?_); rintro e w' ⟨rfl, ⟨nd, rfl⟩⟩; refine ⟨_, rfl, ?_⟩
                 refine hK.out _ _ ⟨hHeld.1, hHeld.2.1, hHeld.2.2.1, hHeld.2.2.2.1, hHeld.2.2.2.2.1, hHeld.2.2.2.2.2.1, hHeld.2.2.2.2.2.2.1, hHeld.2.2.2.2.2.2.2⟩ (fun hHeld => ?_); clear hK K; refine norm_ (a' := ?_) ?_ ?_; rotate_left; ((show Act.put _ (some 36) _ = _); simp only [Act.put, List.setIfInBounds_toArray, List.set_cons_zero, List.set_cons_succ, i64_w, i32_w]; rfl); refine pure_ (i := 14) (N := some 38) (v := ?_) (a' := ?_) (bq 32767 15) rfl rfl (any_of HT_.out (by kernel_rfl)) (fun _ _ _ h => h) (Or.inl ⟨by rfl, ?_⟩) ?_ ?_; rotate_left; (intro w'; go_simp; with_reducible rfl); rotate_left; (exact pb); refine done_ (done_of HT_.out (by kernel_rfl)) ?_; (try go_wp2); (go_roundg kj7)
                 case measure => have := HK1.out; have := HJ7.out; omega
                 case rel => exact ⟨(x7_1), (wrap64 (x9_1 + 1)), (by first | rfl | (simp; done) | (simp [*]; done)), (by first | exact H' | (have H2_ := H'; (try simp only [← hji17] at H2_); (try simp only [← hji17]); exact H2_)), ⟨by have := HK1.out; have := HJ7.out; omega⟩, ⟨by refine ra ?_; exact q5.out⟩, ⟨by refine ra ?_; exact q1.out⟩, ⟨by exact (qc_3)⟩⟩
             · rw [if_neg c19] at H
               exact absurd H (by simp)
           · rw [if_neg c18] at H
             exact absurd H (by simp)
         · rw [if_neg c16] at H
           exact absurd H (by simp)
       · rw [if_neg c15] at H
         exact absurd H (by simp)
     · replace c14 := Bool.eq_false_iff.mpr c14
       subst c14; (have H1 : (some x7_1) = some r := by rw [if_neg (show ¬ (false = true) by decide)] at H; exact H); clear H; have H := H1; clear H1; obtain rfl := Option.some.inj H; (go_wp2); go_ret; (exact ⟨_, by first | rfl | (simp [errW_none, errW_some] <;> rfl) | (simp [*, errW_none, errW_some] <;> rfl), by refine ra ?_; exact q5.out, by exact (qc_3)⟩)
/-! ### laws_toEvent: function 66 -/
def laws_toEvent.f (a0_0 : Int) (a0_1 : Int) (a0_2 : Int) (a0_3 : Int) : Option (Int × Int × Int × Int) := some (a0_0, a0_1, a0_2, a0_3)
set_option maxHeartbeats 8000000 in
set_option maxRecDepth 100000 in
theorem laws_toEvent.calls (a0_0 : Int) (a0_1 : Int) (a0_2 : Int) (a0_3 : Int) (r1 : Int) (r2 : Int) (r3 : Int) (r4 : Int) (w : World) (h : laws_toEvent.f a0_0 a0_1 a0_2 a0_3 = some (r1, r2, r3, r4)) :
 Calls Try.prog 66 #[.agg #[.int .i64 a0_0, .int .i64 a0_1, .int .i64 a0_2, .int .i64 a0_3]] w fun e w' => e = .returned (.agg #[.int .i64 r1, .int .i64 r2, .int .i64 r3, .int .i64 r4]) ∧ Below w.heap.size w w' := by
 have hu83 := Try.underlying83; have hu81 := Try.underlying81; have HB := q0_3 (Below.refl w.heap.size w); (have H : (some (a0_0, a0_1, a0_2, a0_3)) = some (r1, r2, r3, r4) := h); clear h; (simp only [Option.some.injEq, Prod.mk.injEq] at H); obtain ⟨rfl, rfl, rfl, rfl⟩ := H; go_enter Try.func66, Try.ntmps66
 (go_wp2_with (first | ((with_reducible refine gate_dst (N := 1) rfl ?_); refine box_event ?hg (N := 1) ?hd (cs := #[.int .i64 a0_0, .int .i64 a0_1, .int .i64 a0_2, .int .i64 a0_3]) (t := 83) ?hr ?_; (case hd => rfl); (case hg => rfl); (case hr => first | (go_simp; done) | (go_simp; rfl)); intro q7 hg w2 hbox hb; have n0_ := q0_3 (below_step (qc_3) hb); have n1_ := q0_3 (hbox); have n2_ := q0_3 ((by rw [hg]; exact (below_size (qc_3)) : w.heap.size ≤ q7)); have n3_ := q0_3 ((by rw [hg]; exact (below_size (qc_3)) : w.heap.size ≤ q7)); clear HB; have HB := n0_; have q2 := n1_; have GW135 := n2_; have qq := n3_; clear n0_ n1_ n2_ n3_; clear hb hbox hg) | ((with_reducible refine gate_dst (N := 2) rfl ?_); refine box_event ?hg (N := 2) ?hd (cs := #[.int .i64 0, .int .i64 0, .int .i64 0, .int .i64 0]) (t := 81) ?hr ?_; (case hd => rfl); (case hg => rfl); (case hr => first | (go_simp; done) | (go_simp; rfl)); intro q6 hg w3 hbox hb; have n0_ := q0_3 (bb q2.out hb); have n1_ := q0_3 (below_step (qe_3) hb); have n2_ := q0_3 (hbox); have n3_ := q0_3 ((by rw [hg]; exact (below_size (qe_3)) : w.heap.size ≤ q6)); have n4_ := q0_3 ((by rw [hg]; exact (below_size (qe_3)) : w.heap.size ≤ q6)); have n5_ := q0_3 ((by rw [hg]; exact Nat.ne_of_lt (bl q2.out) : q7 ≠ q6)); have n6_ := q0_3 ((by rw [hg]; exact Nat.ne_of_gt (bl q2.out) : q6 ≠ q7)); clear q2; clear HB; have q2 := n0_; have HB := n1_; have q3 := n2_; have GW136 := n3_; have qr := n4_; have qf := n5_; have qg := n6_; clear n0_ n1_ n2_ n3_ n4_ n5_ n6_; clear hb hbox hg) | ((with_reducible refine gate_dst (N := 3) rfl ?_); refine box_event ?hg (N := 3) ?hd (cs := #[.int .i64 0, .int .i64 0, .int .i64 0, .int .i64 0]) (t := 81) ?hr ?_; (case hd => rfl); (case hg => rfl); (case hr => first | (go_simp; done) | (go_simp; rfl)); intro q8 hg w4 hbox hb; have n0_ := q0_3 (bb q2.out hb); have n1_ := q0_3 (bb q3.out hb); have n2_ := q0_3 (below_step (q9_3) hb); have n3_ := q0_3 (hbox); have n4_ := q0_3 ((by rw [hg]; exact (below_size (q9_3)) : w.heap.size ≤ q8)); have n5_ := q0_3 ((by rw [hg]; exact (below_size (q9_3)) : w.heap.size ≤ q8)); have n6_ := q0_3 ((by rw [hg]; exact Nat.ne_of_lt (bl q2.out) : q7 ≠ q8)); have n7_ := q0_3 ((by rw [hg]; exact Nat.ne_of_gt (bl q2.out) : q8 ≠ q7)); have n8_ := q0_3 ((by rw [hg]; exact Nat.ne_of_lt (bl q3.out) : q6 ≠ q8)); have n9_ := q0_3 ((by rw [hg]; exact Nat.ne_of_gt (bl q3.out) : q8 ≠ q6)); clear q2; clear q3; clear HB; have q2 := n0_; have q3 := n1_; have HB := n2_; have qa := n3_; have GW137 := n4_; have qs := n5_; have qh := n6_; have qi := n7_; have q4 := n8_; have qj := n9_; clear n0_ n1_ n2_ n3_ n4_ n5_ n6_ n7_ n8_ n9_; clear hb hbox hg; have hnb5 := qf.out; have hnc5 := qg.out; have hnb6 := qh.out; have hnc6 := qi.out; have hcz7_0 : w4.cell? ⟨q7, 0, none⟩ = some (.int .i64 a0_0) := (blk_cell q2.out 0).trans rfl; have hcz7_1 : w4.cell? ⟨q7, 1, none⟩ = some (.int .i64 a0_1) := (blk_cell q2.out 1).trans rfl; have hcz7_2 : w4.cell? ⟨q7, 2, none⟩ = some (.int .i64 a0_2) := (blk_cell q2.out 2).trans rfl; have hcz7_3 : w4.cell? ⟨q7, 3, none⟩ = some (.int .i64 a0_3) := (blk_cell q2.out 3).trans rfl; have hfz7_0 := blk_frozen q2.out 0; have hfz7_1 := blk_frozen q2.out 1; have hfz7_2 := blk_frozen q2.out 2; have hfz7_3 := blk_frozen q2.out 3; have hnb8 := qj.out; have hnc8 := q4.out; have hcz9_0 : w4.cell? ⟨q8, 0, none⟩ = some (.int .i64 0) := (blk_cell qa.out 0).trans rfl; have hcz9_1 : w4.cell? ⟨q8, 1, none⟩ = some (.int .i64 0) := (blk_cell qa.out 1).trans rfl; have hcz9_2 : w4.cell? ⟨q8, 2, none⟩ = some (.int .i64 0) := (blk_cell qa.out 2).trans rfl; have hcz9_3 : w4.cell? ⟨q8, 3, none⟩ = some (.int .i64 0) := (blk_cell qa.out 3).trans rfl; have hfz9_0 := blk_frozen qa.out 0; have hfz9_1 := blk_frozen qa.out 1; have hfz9_2 := blk_frozen qa.out 2; have hfz9_3 := blk_frozen qa.out 3; have hcz10_0 : w4.cell? ⟨q6, 0, none⟩ = some (.int .i64 0) := (blk_cell q3.out 0).trans rfl; have hcz10_1 : w4.cell? ⟨q6, 1, none⟩ = some (.int .i64 0) := (blk_cell q3.out 1).trans rfl; have hcz10_2 : w4.cell? ⟨q6, 2, none⟩ = some (.int .i64 0) := (blk_cell q3.out 2).trans rfl; have hcz10_3 : w4.cell? ⟨q6, 3, none⟩ = some (.int .i64 0) := (blk_cell q3.out 3).trans rfl; have hfz10_0 := blk_frozen q3.out 0; have hfz10_1 := blk_frozen q3.out 1; have hfz10_2 := blk_frozen q3.out 2; have hfz10_3 := blk_frozen q3.out 3)))
 refine bodyPost_ret (results_cell_row rfl _ _ q6 81 #[.int .i64 a0_0, .int .i64 a0_1, .int .i64 a0_2, .int .i64 a0_3] (0, 0) _ rfl (by refine ba ?_; refine blk_put (cs := #[.int .i64 a0_0, .int .i64 a0_1, .int .i64 a0_2, .int .i64 0]) ?_ 3 _ rfl; refine ba ?_; refine blk_put (cs := #[.int .i64 a0_0, .int .i64 a0_1, .int .i64 0, .int .i64 0]) ?_ 2 _ rfl; refine ba ?_; refine blk_put (cs := #[.int .i64 a0_0, .int .i64 0, .int .i64 0, .int .i64 0]) ?_ 1 _ rfl; refine ba ?_; refine blk_put (cs := #[.int .i64 0, .int .i64 0, .int .i64 0, .int .i64 0]) ?_ 0 _ rfl; refine ba ?_; refine blk_far ?_ q4.out _; refine ba ?_; refine blk_far ?_ q4.out _; refine ba ?_; refine blk_far ?_ q4.out _; refine ba ?_; refine blk_far ?_ q4.out _; refine ba ?_; exact q3.out) Try.underlying81 rfl (by kernel_rfl)) rfl ?_; (exact ⟨by first | rfl | (simp [errW_none, errW_some] <;> rfl) | (simp [*, errW_none, errW_some] <;> rfl), by exact (qk_3)⟩)
/-! ### laws_toEventS: function 16 -/
def laws_toEventS.l0 : Nat → List (S83) → List (S81) → Int → Option ((List (S81)))
 | 0, _, _, _ => none
 | k + 1, x0, x3, x4 => if x4 < (x0.length : Int) then (if 0 ≤ x4 then ((laws_toEvent.f ((rd_T83 x0 x4).f0) ((rd_T83 x0 x4).f1) ((rd_T83 x0 x4).f2) ((rd_T83 x0 x4).f3)).bind fun bt142 => (if x4 < (x3.length : Int) then (laws_toEventS.l0 k x0 (x3.set (x4 : Int).toNat (⟨bt142.1, bt142.2.1, bt142.2.2.1, bt142.2.2.2⟩ : S81)) (wrap64 (x4 + 1))) else (none))) else (none)) else (some x3)
def laws_toEventS.f (k : Nat) (l0 : List (S83)) : Option ((List (S81))) := if 0 ≤ (l0.length : Int) then (if ((l0.length : Int) : Int).toNat ≤ 8796093022208 then (laws_toEventS.l0 k l0 (List.replicate ((l0.length : Int) : Int).toNat z81) 0) else (none)) else (none)
theorem laws_toEventS.mono_l : ∀ k, (∀ y0 y1 y2, LeO (laws_toEventS.l0 k y0 y1 y2) (laws_toEventS.l0 (k + 1) y0 y1 y2))
 | 0 => fun _ _ _ r h => by simp [laws_toEventS.l0] at h
 | k + 1 => by
  have ih0 := laws_toEventS.mono_l k
  · intro y0 y1 y2
    unfold laws_toEventS.l0
    repeat' first
    | (with_reducible exact ih0 _ _ _)
    | (with_reducible exact LeO.refl _)
    | (with_reducible exact LeO.none _)
    | (with_reducible refine LeO.ite ?_ ?_)
    | (with_reducible refine LeO.bind ?_ (fun _ => ?_))
    | exact ih0 _ _ _
    | exact LeO.none _
    | refine LeO.ite ?_ ?_
    | refine LeO.bind ?_ (fun _ => ?_)
theorem laws_toEventS.mono : ∀ a0 k, LeO (laws_toEventS.f k a0) (laws_toEventS.f (k + 1) a0) := by
 intro a0 k; have ih0 := laws_toEventS.mono_l k; unfold laws_toEventS.f
 repeat' first
  | (with_reducible exact ih0 _ _ _)
  | (with_reducible exact LeO.refl _)
  | (with_reducible exact LeO.none _)
  | (with_reducible refine LeO.ite ?_ ?_)
  | (with_reducible refine LeO.bind ?_ (fun _ => ?_))
  | exact ih0 _ _ _
  | exact LeO.none _
  | refine LeO.ite ?_ ?_
  | refine LeO.bind ?_ (fun _ => ?_)
set_option maxHeartbeats 8000000 in
set_option maxRecDepth 100000 in
theorem laws_toEventS.calls (k : Nat) (A0 : Option Addr) (c0 : Nat) (l0 : List (S83)) (r : List (S81)) (w : World) (hr0 : Kd.C k83 w A0 l0.length l0) (hc0 : l0.length ≤ c0) (h : laws_toEventS.f k l0 = some r) :
 Calls Try.prog 16 #[.slice A0 l0.length c0] w fun e w' => ∃ v0_ : Value, e = .returned (v0_) ∧ Kd.R k81 81 w' w.heap.size (fun _ => True) v0_ r ∧ Below w.heap.size w w' := by
 have hu83 := Try.underlying83; have hu81 := Try.underlying81; have HR0 := q0_3 hr0; have HC0 := q0_3 hc0; clear hr0 hc0; have HB := q0_3 (Below.refl w.heap.size w); (have H : (if 0 ≤ (l0.length : Int) then (if ((l0.length : Int) : Int).toNat ≤ 8796093022208 then (laws_toEventS.l0 k l0 (List.replicate ((l0.length : Int) : Int).toNat z81) 0) else (none)) else (none)) = some r := h); clear h
 by_cases c2 : 0 ≤ (l0.length : Int)
 · rw [if_pos c2] at H
   have c2b0 := eq_true c2; (have c2b1 : decide (0 ≤ (l0.length : Int)) = true := decide_eq_true c2); clear c2
   by_cases c3 : ((l0.length : Int) : Int).toNat ≤ 8796093022208
   · rw [if_pos c3] at H
     have c3b0 := eq_true c3; (have c3b1 : decide (((l0.length : Int) : Int).toNat ≤ 8796093022208) = true := decide_eq_true c3); clear c3; obtain ⟨y138, hy138⟩ : ∃ y_ : List (S81), y_ = (List.replicate ((l0.length : Int) : Int).toNat z81) := ⟨_, rfl⟩; (replace H : (laws_toEventS.l0 k l0 y138 0) = some r := by first | (rw [hy138]; with_reducible exact H) | (have H2_ := (Option.bind_some _ _).symm.trans H; rw [hy138]; with_reducible exact H2_) | (have H2_ := (Option.bind_some _ _).symm.trans H; with_reducible exact H2_) | with_reducible exact H | (rw [hy138]; exact H) | exact H); have Ny138 := q0_3 hy138; clear hy138; (have H' := q0_3 H); clear H; go_enter Try.func16, Try.ntmps16; (go_wp2_with (first | ((with_reducible refine gate_dst (N := 7) rfl ?_); refine Kd.R_make k81 _ 81 rfl (N := 7) rfl 26 _ _ rfl (l0.length : Int) rfl rfl Try.underlying26 (.agg #[(.int .i64 0), (.int .i64 0), (.int .i64 0), (.int .i64 0)]) 32 info81 rfl (by decide) (by omega) z81 (ok := fun _ => True) (okp := fun _ => True) (k81_mkM _ _ _ z81 ) (fun _ hk => hk) trivial (of_decide_eq_true (by first | (with_reducible assumption) | assumption)) (Nat.le_trans (Nat.mul_le_mul_right _ (of_decide_eq_true (by first | (with_reducible assumption) | assumption) : (l0.length : Int).toNat ≤ 8796093022208)) (by omega)) (Below.refl _ _) (Nat.le_refl _) ?_; intro v139 w4 ho5 hb hg_ hnew_; clear hg_ hnew_; (first | rw [← Ny138.out] at ho5 | (simp only [Int.reduceToNat] at ho5; rw [← Ny138.out] at ho5)); have n0_ := q0_3 (Kd.R_lower ho5 (below_size (qc_3))); have n1_ := q0_3 (below_step (qc_3) hb); clear HB; have qn := n0_; have HB := n1_; clear n0_ n1_; clear hb ho5))); (go_loopg [4] k (fun kq v4 w' => ∃ (x3_1 : List (S81)) (x4_1 : Int), v4 = .int .i64 x4_1 ∧ Aside0 (laws_toEventS.l0 kq l0 x3_1 x4_1 = some r) ∧ Aside0 (kq ≤ k) ∧ Aside0 (Kd.R k81 81 w' w.heap.size (fun _ => True) v139 x3_1) ∧ Aside0 (Below w.heap.size w w')))
     case atStart => exact ⟨(y138), (0), (by first | rfl | (simp; done) | (simp [*]; done)), H', ⟨Nat.le_refl _⟩, ⟨by refine ra ?_; exact qn.out⟩, ⟨by exact (qc_3)⟩⟩
     case round =>
      clear H'; (try clear c1); (try clear c2); (try clear c2b0); (try clear c2b1); (try clear p2); (try clear c3); (try clear c3b0); (try clear c3b1); obtain ⟨x3_1, x4_1, rfl, HA, HK1, qb, HB⟩ := hrel
      cases gk with
      | zero => exact absurd HA.out (by simp [laws_toEventS.l0])
      | succ k1 =>
       have H := HA.out; clear HA; (simp only [laws_toEventS.l0] at H)
       by_cases c6 : x4_1 < (l0.length : Int)
       · rw [if_pos c6] at H
         (have c6b0 : decide (x4_1 < (l0.length : Int)) = true := decide_eq_true c6); clear c6
         by_cases c7 : 0 ≤ x4_1
         · rw [if_pos c7] at H
           (have c7b0 : decide (0 ≤ x4_1) = true := decide_eq_true c7); clear c7; replace H := Option.bind_eq_some_iff.mp H; obtain ⟨⟨t142, t143, t144, t145⟩, A80, H⟩ := H; replace H : (if x4_1 < (x3_1.length : Int) then (laws_toEventS.l0 k1 l0 (x3_1.set (x4_1 : Int).toNat (⟨t142, t143, t144, t145⟩ : S81)) (wrap64 (x4_1 + 1))) else (none)) = some r := H; have A8 := q0_3 A80; clear A80
           by_cases c9 : x4_1 < (x3_1.length : Int)
           · rw [if_pos c9] at H
             (have c9b0 : decide (x4_1 < (x3_1.length : Int)) = true := decide_eq_true c9); clear c9; obtain ⟨y146, hy146⟩ : ∃ y_ : List (S81), y_ = (x3_1.set (x4_1 : Int).toNat (⟨t142, t143, t144, t145⟩ : S81)) := ⟨_, rfl⟩; (replace H : (laws_toEventS.l0 k1 l0 y146 (wrap64 (x4_1 + 1))) = some r := by first | (rw [hy146]; with_reducible exact H) | (have H2_ := (Option.bind_some _ _).symm.trans H; rw [hy146]; with_reducible exact H2_) | (have H2_ := (Option.bind_some _ _).symm.trans H; with_reducible exact H2_) | with_reducible exact H | (rw [hy146]; exact H) | exact H); have Ny146 := q0_3 hy146; clear hy146; (have H' := q0_3 H); clear H; (have p141 : 0 ≤ (x4_1 : Int) := of_decide_eq_true (by first | (with_reducible assumption) | assumption)); (have q141 : x4_1 < (l0.length : Int) := of_decide_eq_true (by first | (with_reducible assumption) | assumption)); obtain ⟨ad141, e141, hx141_0, hx141_1, hx141_2, hx141_3⟩ := at_T83 HR0.out x4_1 p141 q141
             cases e141
             replace hx141_0 := (HB.out.cell (World.block_lt_of_cell? w _ hx141_0)).trans hx141_0; replace hx141_1 := (HB.out.cell (World.block_lt_of_cell? w _ hx141_1)).trans hx141_1; replace hx141_2 := (HB.out.cell (World.block_lt_of_cell? w _ hx141_2)).trans hx141_2; replace hx141_3 := (HB.out.cell (World.block_lt_of_cell? w _ hx141_3)).trans hx141_3; replace p141 := eq_true p141; replace q141 := eq_true q141
             (go_wp2_with (first | ((with_reducible refine gate_callee (f := 66) rfl ?_); refine goesL_ (some 20) rfl rfl Try.func66 (by kernel_rfl) rfl #[.agg #[.int .i64 ((rd_T83 l0 x4_1).f0), .int .i64 ((rd_T83 l0 x4_1).f1), .int .i64 ((rd_T83 l0 x4_1).f2), .int .i64 ((rd_T83 l0 x4_1).f3)]] rfl ma ?_; (with_reducible refine (laws_toEvent.calls ((rd_T83 l0 x4_1).f0) ((rd_T83 l0 x4_1).f1) ((rd_T83 l0 x4_1).f2) ((rd_T83 l0 x4_1).f3) t142 t143 t144 t145 _ A8.out).mono ?_); rintro e w11 ⟨rfl, hb⟩; refine ⟨_, rfl, ?_⟩; have n0_ := q0_3 (Kd.R_below (ra qb.out) hb); have n1_ := q0_3 (below_step (qc_3) hb); clear qb; clear HB; have qb := n0_; have HB := n1_; clear n0_ n1_; (try clear hb); (try clear hb2); (try clear hk); (try clear hi); have p10 : 0 ≤ (x4_1 : Int) := of_decide_eq_true (by first | (with_reducible assumption) | assumption); have q10 : (x4_1 : Int) < ((x3_1.length : Int) : Int) := of_decide_eq_true (by first | (with_reducible assumption) | assumption); obtain ⟨go10, qo, eo10, qp, gl10, cl10, HG10⟩ := Kd.R_form qb.out (by omega); (first | cases eo10 | (injection eo10 with ea_ en_ ec_; (first | subst ea_ | (injection ea_ with ea_; subst ea_)); subst ec_; clear en_)); have GB10 := q0_3 qp; have GG10 := q0_3 HG10; clear qp gl10 HG10; obtain ⟨ce10, hcl10, hM10, hcc10, hfr10⟩ := Kd.R_elem qb.out z81 (x4_1 : Int) p10 q10; obtain rfl := k81_openM hM10; have hx10_0 : w11.cell? ⟨go10, (x4_1 : Int).toNat * 4, none⟩ = some (.int .i64 ((rd_T81 x3_1 x4_1).f0)) := hcc10 0 _ rfl; have hx10_1 : w11.cell? ⟨go10, (x4_1 : Int).toNat * 4 + 1, none⟩ = some (.int .i64 ((rd_T81 x3_1 x4_1).f1)) := hcc10 1 _ rfl; have hx10_2 : w11.cell? ⟨go10, (x4_1 : Int).toNat * 4 + 2, none⟩ = some (.int .i64 ((rd_T81 x3_1 x4_1).f2)) := hcc10 2 _ rfl; have hx10_3 : w11.cell? ⟨go10, (x4_1 : Int).toNat * 4 + 3, none⟩ = some (.int .i64 ((rd_T81 x3_1 x4_1).f3)) := hcc10 3 _ rfl; have hf10_0 : w11.frozen? ⟨go10, (x4_1 : Int).toNat * 4, none⟩ = false := hfr10 0; have hf10_1 : w11.frozen? ⟨go10, (x4_1 : Int).toNat * 4 + 1, none⟩ = false := hfr10 1; have hf10_2 : w11.frozen? ⟨go10, (x4_1 : Int).toNat * 4 + 2, none⟩ = false := hfr10 2; have hf10_3 : w11.frozen? ⟨go10, (x4_1 : Int).toNat * 4 + 3, none⟩ = false := hfr10 3; clear hcl10 hcc10 hfr10 hM10; replace p10 := eq_true p10; replace q10 := eq_true q10; have HX12 := q0_3 (show Kd.R k81 81 w11 w.heap.size (fun _ => True) (.slice (some ⟨go10, 0, none⟩) x3_1.length qo) x3_1 from (ra qb.out)); obtain ⟨ce12, hcl12, hM12, hcc12, hfr12⟩ := Kd.R_elem HX12.out z81 (x4_1 : Int) (of_decide_eq_true (by first | (with_reducible assumption) | assumption)) (by have h_ : (x4_1 : Int) < ((x3_1.length : Int) : Int) := of_decide_eq_true (by first | (with_reducible assumption) | assumption); first | exact h_ | (have e_ := (Kd.R_reads' qb.out).1; omega) | simpa using h_); obtain rfl := k81_openM hM12; have HP12 := Kd.R_seg HX12.out (x4_1 : Int) (of_decide_eq_true (by first | (with_reducible assumption) | assumption)) (by have h_ : (x4_1 : Int) < ((x3_1.length : Int) : Int) := of_decide_eq_true (by first | (with_reducible assumption) | assumption); first | exact h_ | (have e_ := (Kd.R_reads' qb.out).1; omega) | simpa using h_) (seg := [.int .i64 t142, .int .i64 t143, .int .i64 t144, .int .i64 t145]) (j := 0) hcl12 hcc12 (show 4 ≤ 4 from by decide) (x' := (⟨t142, t143, t144, t145⟩ : S81)) (k81_mkM _ _ _ (⟨t142, t143, t144, t145⟩ : S81) ) (fun _ hk => hk); have hx12_0 := hcc12 0 _ rfl; (try simp only [show (k81).sz = 4 from rfl, Nat.mul_one, Nat.add_zero] at hx12_0); have hf12_0 := hfr12 0; (try simp only [show (k81).sz = 4 from rfl, Nat.mul_one, Nat.add_zero] at hf12_0); have hx12_1 := hcc12 1 _ rfl; (try simp only [show (k81).sz = 4 from rfl, Nat.mul_one, Nat.add_zero] at hx12_1); have hf12_1 := hfr12 1; (try simp only [show (k81).sz = 4 from rfl, Nat.mul_one, Nat.add_zero] at hf12_1); have hx12_2 := hcc12 2 _ rfl; (try simp only [show (k81).sz = 4 from rfl, Nat.mul_one, Nat.add_zero] at hx12_2); have hf12_2 := hfr12 2; (try simp only [show (k81).sz = 4 from rfl, Nat.mul_one, Nat.add_zero] at hf12_2); have hx12_3 := hcc12 3 _ rfl; (try simp only [show (k81).sz = 4 from rfl, Nat.mul_one, Nat.add_zero] at hx12_3); have hf12_3 := hfr12 3; (try simp only [show (k81).sz = 4 from rfl, Nat.mul_one, Nat.add_zero] at hf12_3); clear hcl12 hcc12 hfr12 hM12) | ((with_reducible refine gate_store (t := 81) (p := 21) rfl ?_); refine store_event (t := 81) (p := 21) (v := ?vo_w13) (w1 := ((((w11.setCell ⟨go10, (x4_1 : Int).toNat * 4, none⟩ (.int .i64 t142)).setCell ⟨go10, (x4_1 : Int).toNat * 4 + 1, none⟩ (.int .i64 t143)).setCell ⟨go10, (x4_1 : Int).toNat * 4 + 2, none⟩ (.int .i64 t144)).setCell ⟨go10, (x4_1 : Int).toNat * 4 + 3, none⟩ (.int .i64 t145))) ?hg ?ho ?hn ?hr ?_; (case ho => rfl); (case hg => rfl); (case hn => rfl); (case hr => first | (go_simp; done) | (go_simp; rfl)); intro w13 hw; have hg : w11.grownBy w13 (some go10) := (by rw [hw]; exact HP12.2); have hp_ : Kd.R k81 81 w13 w.heap.size (fun _ => True) (.slice (some ⟨go10, 0, none⟩) x3_1.length qo) y146 := (by rw [hw, Ny146.out]; exact HP12.1); clear HP12; have n0_ := q0_3 (hp_); have n1_ := q0_3 ((by rw [hw]; exact below_set (below_set (below_set (below_set (HB.out) GB10.out) GB10.out) GB10.out) GB10.out : Below w.heap.size w w13)); clear qb; clear HB; have qb := n0_; have HB := n1_; clear n0_ n1_; clear hg hw hp_)))
             (go_roundg k1)
             case measure => have := HK1.out; omega
             case rel => exact ⟨(y146), (wrap64 (x4_1 + 1)), (by first | rfl | (simp; done) | (simp [*]; done)), H', ⟨by have := HK1.out; omega⟩, ⟨by refine ra ?_; exact qb.out⟩, ⟨by exact (qc_3)⟩⟩
           · rw [if_neg c9] at H
             exact absurd H (by simp)
         · rw [if_neg c7] at H
           exact absurd H (by simp)
       · rw [if_neg c6] at H
         (have c6b0 : decide (x4_1 < (l0.length : Int)) = false := decide_eq_false c6); clear c6; obtain rfl := Option.some.inj H; (go_wp2); go_ret; (exact ⟨_, by first | rfl | (simp [errW_none, errW_some] <;> rfl) | (simp [*, errW_none, errW_some] <;> rfl), by refine ra ?_; exact qb.out, by exact (qc_3)⟩)
   · rw [if_neg c3] at H
     exact absurd H (by simp)
 · rw [if_neg c2] at H
   exact absurd H (by simp)
/-! ### impl_InRange: function 77 -/
def impl_InRange.f (a0 : Int) (a1 : Int) (a2 : Int) : Option (Bool) := if a1 ≤ a0 then (some (decide (a0 ≤ a2))) else (some false)
set_option maxHeartbeats 8000000 in
set_option maxRecDepth 100000 in
theorem impl_InRange.calls (a0 : Int) (a1 : Int) (a2 : Int) (r : Bool) (w : World) (h : impl_InRange.f a0 a1 a2 = some r) :
 Calls Try.prog 77 #[.int .i64 a0, .int .i64 a1, .int .i64 a2] w fun e w' => e = .returned (.bool r) ∧ Drawn0 w w' := by
 (have H : (if a1 ≤ a0 then (some (decide (a0 ≤ a2))) else (some false)) = some r := h); clear h
 by_cases c4 : a1 ≤ a0
 · rw [if_pos c4] at H
   (have c4b0 : decide (a1 ≤ a0) = true := decide_eq_true c4); clear c4; obtain rfl := Option.some.inj H; go_enter Try.func77, Try.ntmps77; (go_wp2); go_ret; exact ⟨by first | rfl | (simp; done) | (simp [*]; done), by repeat (first | exact Drawn0.refl _ | apply Drawn0.step)⟩
 · rw [if_neg c4] at H
   (have c4b0 : decide (a1 ≤ a0) = false := decide_eq_false c4); clear c4; obtain rfl := Option.some.inj H; go_enter Try.func77, Try.ntmps77; (go_wp2); go_ret; exact ⟨by first | rfl | (simp; done) | (simp [*]; done), by repeat (first | exact Drawn0.refl _ | apply Drawn0.step)⟩
/-! ### cmp_Or_int: function 148 -/
def cmp_Or_int.l0 : Nat → Int → List Int → Int → Int → Option (Int)
 | 0, _, _, _, _ => none
 | k + 1, x3, x6, x7, x8 => if x8 < x7 then (if 0 ≤ x8 then (if x8 < (x6.length : Int) then (if (rd x6 x8) = x3 then (cmp_Or_int.l0 k x3 x6 x7 (wrap64 (x8 + 1))) else (some (rd x6 x8))) else (none)) else (none)) else (some x3)
def cmp_Or_int.f (k : Nat) (l0 : List Int) : Option (Int) := cmp_Or_int.l0 k 0 l0 (l0.length : Int) 0
theorem cmp_Or_int.mono_l : ∀ k, (∀ y0 y1 y2 y3, LeO (cmp_Or_int.l0 k y0 y1 y2 y3) (cmp_Or_int.l0 (k + 1) y0 y1 y2 y3))
 | 0 => fun _ _ _ _ r h => by simp [cmp_Or_int.l0] at h
 | k + 1 => by
  have ih0 := cmp_Or_int.mono_l k
  · intro y0 y1 y2 y3
    unfold cmp_Or_int.l0
    repeat' first
    | (with_reducible exact ih0 _ _ _ _)
    | (with_reducible exact LeO.refl _)
    | (with_reducible exact LeO.none _)
    | (with_reducible refine LeO.ite ?_ ?_)
    | (with_reducible refine LeO.bind ?_ (fun _ => ?_))
    | exact ih0 _ _ _ _
    | exact LeO.none _
    | refine LeO.ite ?_ ?_
    | refine LeO.bind ?_ (fun _ => ?_)
theorem cmp_Or_int.mono : ∀ a0 k, LeO (cmp_Or_int.f k a0) (cmp_Or_int.f (k + 1) a0) := by
 intro a0 k; have ih0 := cmp_Or_int.mono_l k; unfold cmp_Or_int.f
 repeat' first
  | (with_reducible exact ih0 _ _ _ _)
  | (with_reducible exact LeO.refl _)
  | (with_reducible exact LeO.none _)
  | (with_reducible refine LeO.ite ?_ ?_)
  | (with_reducible refine LeO.bind ?_ (fun _ => ?_))
  | exact ih0 _ _ _ _
  | exact LeO.none _
  | refine LeO.ite ?_ ?_
  | refine LeO.bind ?_ (fun _ => ?_)
set_option maxHeartbeats 8000000 in
set_option maxRecDepth 100000 in
theorem cmp_Or_int.calls (k : Nat) (A0 : Option Addr) (c0 : Nat) (l0 : List Int) (r : Int) (w : World) (hr0 : Kd.C (Kd.int .i64) w A0 l0.length l0) (hc0 : l0.length ≤ c0) (h : cmp_Or_int.f k l0 = some r) :
 Calls Try.prog 148 #[.slice A0 l0.length c0] w fun e w' => e = .returned (.int .i64 r) ∧ Drawn0 w w' := by
 have HR0 := q0_3 hr0; have HC0 := q0_3 hc0; clear hr0 hc0; (have H : (cmp_Or_int.l0 k 0 l0 (l0.length : Int) 0) = some r := h); clear h; (have H' := q0_3 H); clear H; go_enter Try.func148, Try.ntmps148; (go_wp2); (go_loopg [8] k (fun kq v8 w' => ∃ (x8_1 : Int), v8 = .int .i64 x8_1 ∧ Aside0 (cmp_Or_int.l0 kq 0 l0 (l0.length : Int) x8_1 = some r) ∧ Aside0 (kq ≤ k) ∧ Drawn0 w w'))
 case atStart => exact ⟨(0), (by first | rfl | (simp; done) | (simp [*]; done)), H', ⟨Nat.le_refl _⟩, by repeat (first | exact Drawn0.refl _ | apply Drawn0.step)⟩
 case round =>
  clear H'; (try clear c1); obtain ⟨x8_1, rfl, HA, HK1, ⟨m1, rfl⟩⟩ := hrel
  cases gk with
  | zero => exact absurd HA.out (by simp [cmp_Or_int.l0])
  | succ k1 =>
   have H := HA.out; clear HA; (simp only [cmp_Or_int.l0] at H)
   by_cases c2 : x8_1 < (l0.length : Int)
   · rw [if_pos c2] at H
     (have c2b0 : decide (x8_1 < (l0.length : Int)) = true := decide_eq_true c2); clear c2
     by_cases c3 : 0 ≤ x8_1
     · rw [if_pos c3] at H
       (have c3b0 : decide (0 ≤ x8_1) = true := decide_eq_true c3); clear c3
       by_cases c4 : x8_1 < (l0.length : Int)
       · rw [if_pos c4] at H
         (have c4b0 : decide (x8_1 < (l0.length : Int)) = true := decide_eq_true c4); clear c4
         by_cases c5 : (rd l0 x8_1) = 0
         · rw [if_pos c5] at H
           (have c5b0 : ((rd l0 x8_1) == 0) = true := beq_iff_eq.mpr c5); (have c5b1 : ((rd l0 x8_1) != 0) = false := bne_eq_false_iff_eq.mpr c5); clear c5; (have H' := q0_3 H); clear H; (have p147 : 0 ≤ (x8_1 : Int) := of_decide_eq_true (by first | (with_reducible assumption) | assumption)); (have q147 : x8_1 < (l0.length : Int) := of_decide_eq_true (by first | (with_reducible assumption) | assumption)); obtain ⟨ad147, e147, hx147_0⟩ := Kd.at_int HR0.out x8_1 p147 q147
           cases e147
           replace p147 := eq_true p147; replace q147 := eq_true q147; (go_wp2); (go_roundg k1)
           case measure => have := HK1.out; omega
           case rel => exact ⟨(wrap64 (x8_1 + 1)), (by first | rfl | (simp; done) | (simp [*]; done)), H', ⟨by have := HK1.out; omega⟩, by repeat (first | exact Drawn0.refl _ | apply Drawn0.step)⟩
         · rw [if_neg c5] at H
           (have c5b0 : ((rd l0 x8_1) == 0) = false := beq_eq_false_iff_ne.mpr c5); (have c5b1 : ((rd l0 x8_1) != 0) = true := bne_iff_ne.mpr c5); obtain rfl := Option.some.inj H; (have p147 : 0 ≤ (x8_1 : Int) := of_decide_eq_true (by first | (with_reducible assumption) | assumption)); (have q147 : x8_1 < (l0.length : Int) := of_decide_eq_true (by first | (with_reducible assumption) | assumption)); obtain ⟨ad147, e147, hx147_0⟩ := Kd.at_int HR0.out x8_1 p147 q147
           cases e147
           replace p147 := eq_true p147; replace q147 := eq_true q147; (go_wp2); go_ret; exact ⟨by first | rfl | (simp; done) | (simp [*]; done), by repeat (first | exact Drawn0.refl _ | apply Drawn0.step)⟩
       · rw [if_neg c4] at H
         exact absurd H (by simp)
     · rw [if_neg c3] at H
       exact absurd H (by simp)
   · rw [if_neg c2] at H
     (have c2b0 : decide (x8_1 < (l0.length : Int)) = false := decide_eq_false c2); clear c2; obtain rfl := Option.some.inj H; (go_wp2); go_ret; exact ⟨by first | rfl | (simp; done) | (simp [*]; done), by repeat (first | exact Drawn0.refl _ | apply Drawn0.step)⟩
/-! ### cmp_isNaN_int: function 156 -/
def cmp_isNaN_int.f (a0 : Int) : Option (Bool) := some (a0 != a0)
set_option maxHeartbeats 8000000 in
set_option maxRecDepth 100000 in
theorem cmp_isNaN_int.calls (a0 : Int) (r : Bool) (w : World) (h : cmp_isNaN_int.f a0 = some r) :
 Calls Try.prog 156 #[.int .i64 a0] w fun e w' => e = .returned (.bool r) ∧ Drawn0 w w' := by
 (have H : (some (a0 != a0)) = some r := h); clear h; obtain rfl := Option.some.inj H; go_enter Try.func156, Try.ntmps156; (go_wp2); go_ret; exact ⟨by first | rfl | (simp; done) | (simp [*]; done), by repeat (first | exact Drawn0.refl _ | apply Drawn0.step)⟩
end Go.Proofs.Ytlkcbmcbmanmiaa.PFnExactLeapsIn
