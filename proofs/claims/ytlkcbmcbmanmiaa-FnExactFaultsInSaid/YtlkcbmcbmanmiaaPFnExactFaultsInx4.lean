-- Written for this claim by a program of this repository (wip/tools/print2.py), out of the translation; Lean checks it.
import Derived.Test.YtlkcbmcbmanmiaaPFnExactFaultsInx0
import Derived.Test.YtlkcbmcbmanmiaaPFnExactFaultsInx2
import Derived.Test.YtlkcbmcbmanmiaaPFnExactFaultsInx3
namespace Go.Proofs.Ytlkcbmcbmanmiaa.PFnExactFaultsIn
open Go.RowKit Go.Proofs.YtlkcbmcbmanmiaaW.PrintWords Go.Proofs.YtlkcbmcbmanmiaaW.PrintLast Go.Proofs.YtlkcbmcbmanmiaaW.PrintMore
attribute [local go_sem] max2_int min2_int max_two min_two max_three min_three max_four min_four   -- for this text's walks alone
set_option linter.unusedVariables false
set_option linter.unusedSimpArgs false
-- SHORT
theorem q4_4 {p : Prop} (f : p := by repeat (first | (with_reducible first | exact HB.out | apply below_alloc | apply pw_below_drewN | apply below_drew1) | exact HB.out)) : p := f
theorem q0_4 {p : Prop} (h : p) : Aside0 p := ⟨h⟩
/-! ### spec_l4Abs: function 65 -/
def spec_l4Abs.f (a0 : Int) : Option (Int) := if a0 < 0 then (some (wrap64 (-a0))) else (some a0)
set_option maxHeartbeats 8000000 in
set_option maxRecDepth 100000 in
theorem spec_l4Abs.calls (a0 : Int) (r : Int) (w : World) (h : spec_l4Abs.f a0 = some r) :
 Calls Try.prog 65 #[.int .i64 a0] w fun e w' => e = .returned (.int .i64 r) ∧ Drawn0 w w' := by
 (have H : (if a0 < 0 then (some (wrap64 (-a0))) else (some a0)) = some r := h); clear h
 by_cases c2 : a0 < 0
 · rw [if_pos c2] at H
   (have c2b0 : decide (a0 < 0) = true := decide_eq_true c2); clear c2; obtain rfl := Option.some.inj H; go_enter Try.func65, Try.ntmps65; (go_wp2); go_ret; exact ⟨by first | rfl | (simp; done) | (simp [*]; done), by repeat (first | exact Drawn0.refl _ | apply Drawn0.step)⟩
 · rw [if_neg c2] at H
   (have c2b0 : decide (a0 < 0) = false := decide_eq_false c2); clear c2; obtain rfl := Option.some.inj H; go_enter Try.func65, Try.ntmps65; (go_wp2); go_ret; exact ⟨by first | rfl | (simp; done) | (simp [*]; done), by repeat (first | exact Drawn0.refl _ | apply Drawn0.step)⟩
/-! ### spec_LeapsIn: function 15 -/
mutual
def spec_LeapsIn.l0 : Nat → List (S81) → Int → List Int → List (S81) → Int → Option (List Int)
 | 0, _, _, _, _, _ => none
 | k + 1, x0, x2, x7, x8, x9 => if x9 < (x8.length : Int) then ((spec_IsScore.f k x0).bind fun t148 => (spec_LeapsIn.j1 k x0 x2 x7 x8 x9 t148)) else (spec_LeapsIn.j1 k x0 x2 x7 x8 x9 false)
def spec_LeapsIn.j1 : Nat → List (S81) → Int → List Int → List (S81) → Int → Bool → Option (List Int)
 | 0, _, _, _, _, _, _ => none
 | k + 1, x0, x2, x7, x8, x9, x21 => if x21 = true then (if 0 ≤ x9 then (if x9 < (x8.length : Int) then (if 0 ≤ (wrap64 (x9 - 1)) then (if (wrap64 (x9 - 1)) < (x8.length : Int) then ((spec_l4Abs.f (wrap64 (((rd_T81 x8 x9).f2) - ((rd_T81 x8 (wrap64 (x9 - 1))).f2)))).bind fun t151 => (if t151 > x2 then (if x7.length < 17592186044416 then (spec_LeapsIn.l0 k x0 x2 (x7 ++ [(rd_T81 x8 x9).f0]) x8 (wrap64 (x9 + 1))) else (none)) else (spec_LeapsIn.l0 k x0 x2 x7 x8 (wrap64 (x9 + 1))))) else (none)) else (none)) else (none)) else (none)) else (some x7)
end
def spec_LeapsIn.f (k : Nat) (l0 : List (S81)) (a1 : Int) (a2 : Int) : Option (List Int) := (spec_VoiceOf.f k l0 a1).bind fun t145 => (spec_LeapsIn.l0 k l0 a2 (([] : List Int)) t145 1)
theorem spec_LeapsIn.mono_l : ∀ k, (∀ y0 y1 y2 y3 y4, LeO (spec_LeapsIn.l0 k y0 y1 y2 y3 y4) (spec_LeapsIn.l0 (k + 1) y0 y1 y2 y3 y4)) ∧ (∀ y0 y1 y2 y3 y4 y5, LeO (spec_LeapsIn.j1 k y0 y1 y2 y3 y4 y5) (spec_LeapsIn.j1 (k + 1) y0 y1 y2 y3 y4 y5))
 | 0 => ⟨fun _ _ _ _ _ r h => by simp [spec_LeapsIn.l0] at h, fun _ _ _ _ _ _ r h => by simp [spec_LeapsIn.j1] at h⟩
 | k + 1 => by
  obtain ⟨ih0, ih1⟩ := spec_LeapsIn.mono_l k; refine ⟨?_, ?_⟩
  · intro y0 y1 y2 y3 y4
    unfold spec_LeapsIn.l0
    repeat' first
    | (with_reducible exact ih0 _ _ _ _ _)
    | (with_reducible exact ih1 _ _ _ _ _ _)
    | (with_reducible exact spec_IsScore.mono _ _)
    | (with_reducible exact spec_VoiceOf.mono _ _ _)
    | (with_reducible exact LeO.refl _)
    | (with_reducible exact LeO.none _)
    | (with_reducible refine LeO.ite ?_ ?_)
    | (with_reducible refine LeO.bind ?_ (fun _ => ?_))
    | exact ih0 _ _ _ _ _
    | exact ih1 _ _ _ _ _ _
    | exact spec_IsScore.mono _ _
    | exact spec_VoiceOf.mono _ _ _
    | exact LeO.none _
    | refine LeO.ite ?_ ?_
    | refine LeO.bind ?_ (fun _ => ?_)
  · intro y0 y1 y2 y3 y4 y5
    unfold spec_LeapsIn.j1
    repeat' first
    | (with_reducible exact ih0 _ _ _ _ _)
    | (with_reducible exact ih1 _ _ _ _ _ _)
    | (with_reducible exact spec_IsScore.mono _ _)
    | (with_reducible exact spec_VoiceOf.mono _ _ _)
    | (with_reducible exact LeO.refl _)
    | (with_reducible exact LeO.none _)
    | (with_reducible refine LeO.ite ?_ ?_)
    | (with_reducible refine LeO.bind ?_ (fun _ => ?_))
    | exact ih0 _ _ _ _ _
    | exact ih1 _ _ _ _ _ _
    | exact spec_IsScore.mono _ _
    | exact spec_VoiceOf.mono _ _ _
    | exact LeO.none _
    | refine LeO.ite ?_ ?_
    | refine LeO.bind ?_ (fun _ => ?_)
theorem spec_LeapsIn.mono : ∀ a0 a1 a2 k, LeO (spec_LeapsIn.f k a0 a1 a2) (spec_LeapsIn.f (k + 1) a0 a1 a2) := by
 intro a0 a1 a2 k; obtain ⟨ih0, ih1⟩ := spec_LeapsIn.mono_l k; unfold spec_LeapsIn.f
 repeat' first
  | (with_reducible exact ih0 _ _ _ _ _)
  | (with_reducible exact ih1 _ _ _ _ _ _)
  | (with_reducible exact spec_IsScore.mono _ _)
  | (with_reducible exact spec_VoiceOf.mono _ _ _)
  | (with_reducible exact LeO.refl _)
  | (with_reducible exact LeO.none _)
  | (with_reducible refine LeO.ite ?_ ?_)
  | (with_reducible refine LeO.bind ?_ (fun _ => ?_))
  | exact ih0 _ _ _ _ _
  | exact ih1 _ _ _ _ _ _
  | exact spec_IsScore.mono _ _
  | exact spec_VoiceOf.mono _ _ _
  | exact LeO.none _
  | refine LeO.ite ?_ ?_
  | refine LeO.bind ?_ (fun _ => ?_)
def spec_LeapsIn.T6 : Bool × List (List Nat × List Nat) := (true, [([], []), ([], []), ([0, 1], [0, 1]), ([2], [2]), ([3], [3]), ([], []), ([], []), ([6], [6]), ([5, 7], [5, 7]), ([8], [8]), ([9], [9]), ([4, 10], [4, 10]), ([11], [11]), ([], []), ([12, 13], [12, 13])])
def spec_LeapsIn.B6 : List Nat := [0, 0, 3, 7, 15, 0, 0, 64, 224, 480, 992, 2047, 4095, 0, 16383]
theorem spec_LeapsIn.tab6 : rtab .any (opsOf Try.f15 6) = spec_LeapsIn.T6 := by kernel_rfl
theorem spec_LeapsIn.bits6 : waitsOk spec_LeapsIn.T6.2 spec_LeapsIn.B6 = true := by kernel_rfl
set_option maxHeartbeats 8000000 in
set_option maxRecDepth 100000 in
theorem spec_LeapsIn.calls (k : Nat) (A0 : Option Addr) (c0 : Nat) (l0 : List (S81)) (a1 : Int) (a2 : Int) (r : List Int) (w : World) (hr0 : Kd.C k81 w A0 l0.length l0) (hc0 : l0.length ≤ c0) (h : spec_LeapsIn.f k l0 a1 a2 = some r) :
 Calls Try.prog 15 #[.slice A0 l0.length c0, .int .i64 a1, .int .i64 a2] w fun e w' => ∃ v0_ : Value, e = .returned (v0_) ∧ Kd.R (Kd.int .i64) 3 w' w.heap.size (fun _ => True) v0_ r ∧ Below w.heap.size w w' := by
 have HR0 := q0_4 hr0; have HC0 := q0_4 hc0; clear hr0 hc0; have HB := q0_4 (Below.refl w.heap.size w); (have H : ((spec_VoiceOf.f k l0 a1).bind fun t145 => (spec_LeapsIn.l0 k l0 a2 (([] : List Int)) t145 1)) = some r := h); clear h; obtain ⟨y142, hy142⟩ : ∃ y_ : List Int, y_ = (([] : List Int)) := ⟨_, rfl⟩; (replace H : ((spec_VoiceOf.f k l0 a1).bind fun t145 => (spec_LeapsIn.l0 k l0 a2 y142 t145 1)) = some r := by first | (rw [hy142]; with_reducible exact H) | (have H2_ := (Option.bind_some _ _).symm.trans H; rw [hy142]; with_reducible exact H2_) | (have H2_ := (Option.bind_some _ _).symm.trans H; with_reducible exact H2_) | with_reducible exact H | (rw [hy142]; exact H) | exact H); have Ny142 := q0_4 hy142; clear hy142; replace H := Option.bind_eq_some_iff.mp H; obtain ⟨t145, A40, H⟩ := H; replace H : (spec_LeapsIn.l0 k l0 a2 y142 t145 1) = some r := H; have A4 := q0_4 A40; clear A40; (have H' := q0_4 H); clear H; go_enter Try.func15, Try.ntmps15; (go_wp2_with (first | ((with_reducible refine gate_dst (N := 10) rfl ?_); refine Kd.R_lit (Kd.int .i64) _ 3 ?hg (N := 10) ?hd (xs := ([] : List Int)) (inner := []) (ok := fun _ => True) (okp := fun _ => True) ?hr ?hp (fun _ hk => hk) trivial (Below.refl _ _) (Nat.le_refl _) (by simp) ?_; (case hd => rfl); (case hg => rfl); (case hr => first | (go_simp; done) | (go_simp; rfl)); (case hp => exact (Reps.none _ _)); intro v143 w5 ho6 hb hg_ hnew_; clear hg_ hnew_; (first | rw [← Ny142.out] at ho6 | (simp only [Int.reduceToNat] at ho6; rw [← Ny142.out] at ho6)); have n0_ := q0_4 (Kd.R_lower ho6 (below_size (q4_4))); have n1_ := q0_4 (below_step (q4_4) hb); clear HB; have q3 := n0_; have HB := n1_; clear n0_ n1_; clear hb ho6) | ((with_reducible refine gate_callee (f := 63) rfl ?_); refine goesL_ (some 13) rfl rfl Try.func63 (by kernel_rfl) rfl #[.slice A0 l0.length c0, .int .i64 a1] rfl ma ?_; (with_reducible refine (spec_VoiceOf.calls k _ _ l0 a1 t145 _ ?side1 ?side2 A4.out).mono ?_); (case side1 => exact ca (Kd.C_below HR0.out HB.out)); (case side2 => exact HC0.out); rintro e w7 ⟨v146, rfl, ho0, hb⟩; refine ⟨_, rfl, ?_⟩; have n0_ := q0_4 (Kd.R_below (ra q3.out) hb); have n1_ := q0_4 (Kd.R_lower ho0 (below_size (q4_4))); have n2_ := q0_4 (below_step (q4_4) hb); clear q3; clear HB; have q3 := n0_; have q5 := n1_; have HB := n2_; clear n0_ n1_ n2_; (try clear hb); (try clear hb2); (try clear hk); (try clear hi); (try clear ho0)))); (go_loopg [7, 9] k (fun kq v7 v9 w' => ∃ (x7_1 : List Int) (x9_1 : Int), v9 = .int .i64 x9_1 ∧ Aside0 (spec_LeapsIn.l0 kq l0 a2 x7_1 t145 x9_1 = some r) ∧ Aside0 (kq ≤ k) ∧ Aside0 (Kd.R (Kd.int .i64) 3 w' w.heap.size (fun _ => True) v7 x7_1) ∧ Aside0 (Kd.R k81 81 w' w.heap.size (fun _ => True) v146 t145) ∧ Aside0 (Below w.heap.size w w')))
 case atStart => exact ⟨(y142), (1), (by first | rfl | (simp; done) | (simp [*]; done)), H', ⟨Nat.le_refl _⟩, ⟨by refine ra ?_; exact q3.out⟩, ⟨by refine ra ?_; exact q5.out⟩, ⟨by exact (q4_4)⟩⟩
 case round =>
  clear H'; (try clear c1); (try clear p2); (try clear c6); obtain ⟨x7_1, x9_1, rfl, HA, HK1, q2, q1, HB⟩ := hrel
  cases gk with
  | zero => exact absurd HA.out (by simp [spec_LeapsIn.l0])
  | succ k1 =>
   have H := HA.out; clear HA; (simp only [spec_LeapsIn.l0] at H); have HC8 := q0_4 H; clear H; (go_upto_region 4 with (fail)); (go_cut [21] (fun v21 wc => ∃ (kq : Nat) (x21_7 : Bool), v21 = .bool x21_7 ∧ Aside0 (spec_LeapsIn.j1 kq l0 a2 x7_1 t145 x9_1 x21_7 = some r) ∧ Aside0 (kq ≤ k1) ∧ Aside0 (Kd.R (Kd.int .i64) 3 wc w.heap.size (fun _ => True) u7 x7_1) ∧ Aside0 (Kd.R k81 81 wc w.heap.size (fun _ => True) v146 t145) ∧ Aside0 (Below w.heap.size w wc)))
   case first =>
    have H := HC8.out; clear HC8
    by_cases c9 : x9_1 < (t145.length : Int)
    · rw [if_pos c9] at H
      (have c9b0 : decide (x9_1 < (t145.length : Int)) = true := decide_eq_true c9); clear c9; ((first | rw [c9b0] | (simp only [i64_w, i32_w]; rw [c9b0]) | skip)); replace H := Option.bind_eq_some_iff.mp H; obtain ⟨t148, A100, H⟩ := H; replace H : (spec_LeapsIn.j1 k1 l0 a2 x7_1 t145 x9_1 t148) = some r := H; have A10 := q0_4 A100; clear A100; (have H' := q0_4 H); clear H; obtain ⟨q7, q8, eo11⟩ := Kd.R_slice q1.out; subst eo11; (go_wp2_with (first | (go_at_call 64; (with_reducible refine (spec_IsScore.calls k1 _ _ l0 t148 _ ?side1 ?side2 A10.out).mono ?_); (case side1 => exact ca (Kd.C_below HR0.out HB.out)); (case side2 => exact HC0.out); rintro e w12 ⟨rfl, hb⟩; have n0_ := q0_4 (Kd.R_below (ra q2.out) hb); have n1_ := q0_4 (Kd.R_below (ra q1.out) hb); have n2_ := q0_4 (below_step (q4_4) hb); clear q2; clear q1; clear HB; have q2 := n0_; have q1 := n1_; have HB := n2_; clear n0_ n1_ n2_; (try clear hb); (try clear hb2); (try clear hk); (try clear hi)))); (go_meet)
      case rel => exact ⟨_, (t148), (by first | rfl | (simp; done) | (simp [*]; done)), H', ⟨by have := HK1.out; first | omega | exact Nat.le_refl _⟩, ⟨by refine ra ?_; exact q2.out⟩, ⟨by refine ra ?_; exact q1.out⟩, ⟨by exact (q4_4)⟩⟩
    · rw [if_neg c9] at H
      (have c9b0 : decide (x9_1 < (t145.length : Int)) = false := decide_eq_false c9); clear c9; ((first | rw [c9b0] | (simp only [i64_w, i32_w]; rw [c9b0]) | skip)); (have H' := q0_4 H); clear H; obtain ⟨q9, qa, eo13⟩ := Kd.R_slice q1.out; subst eo13; (go_wp2); (go_meet)
      case rel => exact ⟨_, (false), (by first | rfl | (simp; done) | (simp [*]; done)), H', ⟨by have := HK1.out; first | omega | exact Nat.le_refl _⟩, ⟨by refine ra ?_; exact q2.out⟩, ⟨by refine ra ?_; exact q1.out⟩, ⟨by exact (q4_4)⟩⟩
   case rest =>
    clear HC8; (try clear c1); (try clear p2); (try clear c6); (try clear c9); (try clear c9b0); (try clear p2); obtain ⟨kq, x21_7, rfl, HA, HJ7, q2, q1, HB⟩ := hcut
    cases kq with
    | zero => exact absurd HA.out (by simp [spec_LeapsIn.j1])
    | succ kj7 =>
     have H := HA.out; clear HA; (simp only [spec_LeapsIn.j1] at H)
     by_cases c14 : x21_7 = true
     · subst c14
       have H1 : (if 0 ≤ x9_1 then (if x9_1 < (t145.length : Int) then (if 0 ≤ (wrap64 (x9_1 - 1)) then (if (wrap64 (x9_1 - 1)) < (t145.length : Int) then ((spec_l4Abs.f (wrap64 (((rd_T81 t145 x9_1).f2) - ((rd_T81 t145 (wrap64 (x9_1 - 1))).f2)))).bind fun t151 => (if t151 > a2 then (if x7_1.length < 17592186044416 then (spec_LeapsIn.l0 kj7 l0 a2 (x7_1 ++ [(rd_T81 t145 x9_1).f0]) t145 (wrap64 (x9_1 + 1))) else (none)) else (spec_LeapsIn.l0 kj7 l0 a2 x7_1 t145 (wrap64 (x9_1 + 1))))) else (none)) else (none)) else (none)) else (none)) = some r := by rw [if_pos rfl] at H; exact H
       clear H; have H := H1; clear H1
       by_cases c15 : 0 ≤ x9_1
       · rw [if_pos c15] at H
         (have c15b0 : decide (0 ≤ x9_1) = true := decide_eq_true c15); clear c15
         by_cases c16 : x9_1 < (t145.length : Int)
         · rw [if_pos c16] at H
           (have c16b0 : decide (x9_1 < (t145.length : Int)) = true := decide_eq_true c16); clear c16; obtain ⟨ji17, hji17⟩ : ∃ j_ : Int, (wrap64 (x9_1 - 1)) = j_ := ⟨_, rfl⟩; (replace H : (if 0 ≤ (ji17) then (if (ji17) < (t145.length : Int) then ((spec_l4Abs.f (wrap64 (((rd_T81 t145 x9_1).f2) - ((rd_T81 t145 (ji17)).f2)))).bind fun t151 => (if t151 > a2 then (if x7_1.length < 17592186044416 then (spec_LeapsIn.l0 kj7 l0 a2 (x7_1 ++ [(rd_T81 t145 x9_1).f0]) t145 (wrap64 (x9_1 + 1))) else (none)) else (spec_LeapsIn.l0 kj7 l0 a2 x7_1 t145 (wrap64 (x9_1 + 1))))) else (none)) else (none)) = some r := by first | (rw [hji17] at H; exact H) | (simp only [hji17] at H ⊢; exact H)); (have hji17w : (IntKind.i64.wrap (x9_1 - 1)) = ji17 := (i64_w _).trans hji17)
           by_cases c18 : 0 ≤ (ji17)
           · rw [if_pos c18] at H
             (have c18b0 : decide (0 ≤ (ji17)) = true := decide_eq_true c18); clear c18
             by_cases c19 : (ji17) < (t145.length : Int)
             · rw [if_pos c19] at H
               (have c19b0 : decide ((ji17) < (t145.length : Int)) = true := decide_eq_true c19); clear c19; replace H := Option.bind_eq_some_iff.mp H; obtain ⟨t151, A200, H⟩ := H; replace H : (if t151 > a2 then (if x7_1.length < 17592186044416 then (spec_LeapsIn.l0 kj7 l0 a2 (x7_1 ++ [(rd_T81 t145 x9_1).f0]) t145 (wrap64 (x9_1 + 1))) else (none)) else (spec_LeapsIn.l0 kj7 l0 a2 x7_1 t145 (wrap64 (x9_1 + 1)))) = some r := H; have A20 := q0_4 A200; clear A200
               by_cases c21 : t151 > a2
               · rw [if_pos c21] at H
                 (have c21b0 : decide (a2 < t151) = true := decide_eq_true c21); clear c21
                 by_cases c22 : x7_1.length < 17592186044416
                 · rw [if_pos c22] at H
                   have LMc22 := q0_4 c22; clear c22; obtain ⟨y153, hy153⟩ : ∃ y_ : List Int, y_ = (x7_1 ++ [(rd_T81 t145 x9_1).f0]) := ⟨_, rfl⟩; (replace H : (spec_LeapsIn.l0 kj7 l0 a2 y153 t145 (wrap64 (x9_1 + 1))) = some r := by first | (rw [hy153]; with_reducible exact H) | (have H2_ := (Option.bind_some _ _).symm.trans H; rw [hy153]; with_reducible exact H2_) | (have H2_ := (Option.bind_some _ _).symm.trans H; with_reducible exact H2_) | with_reducible exact H | (rw [hy153]; exact H) | exact H); have Ny153 := q0_4 hy153; clear hy153; (have H' := q0_4 H); clear H; (try go_wp2); have n0_ := q0_4 (Kd.R_drew q2.out); have n1_ := q0_4 (Kd.R_drew q1.out); have n2_ := q0_4 (below_drew1 HB.out); clear q2 q1 HB; have q2 := n0_; have q1 := n1_; have HB := n2_; clear n0_ n1_ n2_; obtain ⟨qb, qc, eo24⟩ := Kd.R_slice q1.out; ((first | subst eo24 | (injection eo24 with f1_ f2_ f3_; have f4_ := f1_.symm; have f5_ := f3_.symm; clear f1_ f2_ f3_; subst f4_; subst f5_))); (have p149 : 0 ≤ (x9_1 : Int) := of_decide_eq_true (by first | (with_reducible assumption) | assumption)); (have q149 : x9_1 < (t145.length : Int) := of_decide_eq_true (by first | (with_reducible assumption) | assumption)); obtain ⟨ad149, e149, hx149_0, hx149_1, hx149_2, hx149_3⟩ := at_T81 (Kd.R_reads' q1.out).2.2 x9_1 p149 q149
                   cases e149
                   replace p149 := eq_true p149; replace q149 := eq_true q149; (have p150 : 0 ≤ ((ji17) : Int) := of_decide_eq_true (by first | (with_reducible assumption) | assumption)); (have q150 : (ji17) < (t145.length : Int) := of_decide_eq_true (by first | (with_reducible assumption) | assumption)); obtain ⟨ad150, e150, hx150_0, hx150_1, hx150_2, hx150_3⟩ := at_T81 (Kd.R_reads' q1.out).2.2 (ji17) p150 q150; obtain rfl : ad149 = ad150 := (by injection e150); replace p150 := eq_true p150; replace q150 := eq_true q150; refine start_ (n := 15) (S := fun w' => w'.cell? (ad149.add ((x9_1).toNat * 4)) = some (.int .i64 ((rd_T81 t145 x9_1).f0)) ∧ w'.cell? ⟨(ad149.add ((x9_1).toNat * 4)).block, (ad149.add ((x9_1).toNat * 4)).off + 1, none⟩ = some (.int .i64 ((rd_T81 t145 x9_1).f1)) ∧ w'.cell? ⟨(ad149.add ((x9_1).toNat * 4)).block, (ad149.add ((x9_1).toNat * 4)).off + 2, none⟩ = some (.int .i64 ((rd_T81 t145 x9_1).f2)) ∧ w'.cell? ⟨(ad149.add ((x9_1).toNat * 4)).block, (ad149.add ((x9_1).toNat * 4)).off + 3, none⟩ = some (.int .i64 ((rd_T81 t145 x9_1).f3)) ∧ w'.cell? (ad149.add (((ji17)).toNat * 4)) = some (.int .i64 ((rd_T81 t145 (ji17)).f0)) ∧ w'.cell? ⟨(ad149.add (((ji17)).toNat * 4)).block, (ad149.add (((ji17)).toNat * 4)).off + 1, none⟩ = some (.int .i64 ((rd_T81 t145 (ji17)).f1)) ∧ w'.cell? ⟨(ad149.add (((ji17)).toNat * 4)).block, (ad149.add (((ji17)).toNat * 4)).off + 2, none⟩ = some (.int .i64 ((rd_T81 t145 (ji17)).f2)) ∧ w'.cell? ⟨(ad149.add (((ji17)).toNat * 4)).block, (ad149.add (((ji17)).toNat * 4)).off + 3, none⟩ = some (.int .i64 ((rd_T81 t145 (ji17)).f3))) (ds := []) (bq 0 15) (by kernel_rfl) rfl rfl ⟨hx149_0, hx149_1, hx149_2, hx149_3, hx150_0, hx150_1, hx150_2, hx150_3⟩ (fun hHeld => ?_); refine with_tabW spec_LeapsIn.tab6 spec_LeapsIn.bits6 (fun HT_ HW_ => ?_); generalize wc.drew = w23 at q2 q1 HB hx149_0 hx149_1 hx149_2 hx149_3 hx150_0 hx150_1 hx150_2 hx150_3 hHeld ⊢; refine pure_ (i := 0) (N := some 24) (v := ?_) (a' := ?_) (bq 1 15) rfl rfl (any_of HT_.out (by kernel_rfl)) (fun _ _ _ h => h) (Or.inl ⟨by rfl, ?_⟩) ?_ ?_; rotate_left; (intro w'; go_simp; with_reducible rfl); rotate_left; (exact pb); refine pure_ (i := 1) (N := some 25) (v := ?_) (a' := ?_) (bq 3 15) rfl rfl (any_of HT_.out (by kernel_rfl)) (fun _ _ _ h => h) (Or.inl ⟨by rfl, ?_⟩) ?_ ?_; rotate_left; (intro w'; go_simp; with_reducible rfl); rotate_left; (exact pb); refine pure_ (i := 2) (N := some 26) (v := ?_) (a' := ?_) (bq 7 15) rfl rfl (any_of HT_.out (by kernel_rfl)) (fun _ _ _ h => h) (Or.inl ⟨by rfl, ?_⟩) ?_ ?_; rotate_left; (intro w'; go_simp; with_reducible rfl); rotate_left; (exact pb); refine pure_ (i := 3) (N := some 27) (v := ?_) (a' := ?_) (bq 15 15) rfl rfl (any_of HT_.out (by kernel_rfl)) (fun _ _ _ h => h) (Or.inl ⟨by rfl, ?_⟩) ?_ ?_; rotate_left; (intro w'; go_simp; with_reducible rfl); rotate_left; (exact pb)
                   refine pure_ (i := 5) (N := some 29) (v := ?_) (a' := ?_) (bq 47 15) rfl rfl (any_of HT_.out (by kernel_rfl)) (fun _ _ _ h => h) (Or.inl ⟨by rfl, ?_⟩) ?_ ?_; rotate_left; (intro w'; go_simp; with_reducible rfl); rotate_left; (exact pb); refine pure_ (i := 6) (N := some 30) (v := ?_) (a' := ?_) (bq 111 15) rfl rfl (any_of HT_.out (by kernel_rfl)) (fun _ _ _ h => h) (Or.inl ⟨by rfl, ?_⟩) ?_ ?_; rotate_left; (intro w'; go_simp; with_reducible rfl); rotate_left; (exact pb); refine pure_ (i := 7) (N := some 31) (v := ?_) (a' := ?_) (bq 239 15) rfl rfl (any_of HT_.out (by kernel_rfl)) (fun _ _ _ h => h) (Or.inl ⟨by rfl, ?_⟩) ?_ ?_; rotate_left; (intro w'; go_simp; with_reducible rfl); rotate_left; (exact pb); refine pure_ (i := 8) (N := some 32) (v := ?_) (a' := ?_) (bq 495 15) rfl rfl (any_of HT_.out (by kernel_rfl)) (fun _ _ _ h => h) (Or.inl ⟨by rfl, ?_⟩) ?_ ?_; rotate_left; (intro w'; go_simp; with_reducible rfl); rotate_left; (exact pb); refine pure_ (i := 9) (N := some 33) (v := ?_) (a' := ?_) (bq 1007 15) rfl rfl (any_of HT_.out (by kernel_rfl)) (fun _ _ _ h => h) (Or.inl ⟨by rfl, ?_⟩) ?_ ?_; rotate_left; (intro w'; go_simp; with_reducible rfl); rotate_left; (exact pb); refine pure_ (i := 13) (N := some 37) (v := ?_) (a' := ?_) (bq 9199 15) rfl rfl (any_of HT_.out (by kernel_rfl)) (fun _ _ _ h => h) (Or.inl ⟨by rfl, ?_⟩) ?_ ?_; rotate_left; (intro w'; go_simp; with_reducible rfl); rotate_left; (exact pb); refine take_ (i := 4) (N := some 28) (v := ?_) (a' := ?_) (bq 9215 15) rfl rfl (take_ofW HT_.out HW_.out (by kernel_rfl)) (fun _ _ _ h => h) (Or.inl ⟨by rfl, ?_⟩) hHeld ?_ ?_; rotate_left; (rintro w' ⟨s0, s1, s2, s3, s4, s5, s6, s7⟩; go_simp; with_reducible rfl); rotate_left; (exact pb); refine take_ (i := 10) (N := some 34) (v := ?_) (a' := ?_) (bq 10239 15) rfl rfl (take_ofW HT_.out HW_.out (by kernel_rfl)) (fun _ _ _ h => h) (Or.inl ⟨by rfl, ?_⟩) hHeld ?_ ?_; rotate_left; (rintro w' ⟨s0, s1, s2, s3, s4, s5, s6, s7⟩; go_simp; with_reducible rfl); rotate_left; (exact pb); refine pure_ (i := 11) (N := some 35) (v := ?_) (a' := ?_) (bq 12287 15) rfl rfl (any_of HT_.out (by kernel_rfl)) (fun _ _ _ h => h) (Or.inl ⟨by rfl, ?_⟩) ?_ ?_; rotate_left; (intro w'; go_simp; with_reducible rfl); rotate_left; (exact pb); refine one_ (i := 12) (N := some 36) (bq 16383 15) rfl rfl (one_of HT_.out (by kernel_rfl)) (by decide) (fun K hK => ?_); refine goes_ Try.func65 (by kernel_rfl) rfl #[.int .i64 (wrap64 (((rd_T81 t145 x9_1).f2) - ((rd_T81 t145 (ji17)).f2)))] (by rfl) rfl rfl (by (try simp only [List.map_toArray, List.map_cons, List.map_nil]); first | done | (simp only [hji17]; rfl) | rfl | (simp only [List.length_drop, List.length_take]; rfl)) ?_; (with_reducible refine (spec_l4Abs.calls (wrap64 (((rd_T81 t145 x9_1).f2) - ((rd_T81 t145 (ji17)).f2))) t151 _ A20.out).mono ?_); rintro e w' ⟨rfl, ⟨nd, rfl⟩⟩; refine ⟨_, rfl, ?_⟩
                   refine hK.out _ _ ⟨hHeld.1, hHeld.2.1, hHeld.2.2.1, hHeld.2.2.2.1, hHeld.2.2.2.2.1, hHeld.2.2.2.2.2.1, hHeld.2.2.2.2.2.2.1, hHeld.2.2.2.2.2.2.2⟩ (fun hHeld => ?_); clear hK K; refine norm_ (a' := ?_) ?_ ?_; rotate_left; ((show Act.put _ (some 36) _ = _); simp only [Act.put, List.setIfInBounds_toArray, List.set_cons_zero, List.set_cons_succ, i64_w, i32_w]; rfl); refine pure_ (i := 14) (N := some 38) (v := ?_) (a' := ?_) (bq 32767 15) rfl rfl (any_of HT_.out (by kernel_rfl)) (fun _ _ _ h => h) (Or.inl ⟨by rfl, ?_⟩) ?_ ?_; rotate_left; (intro w'; go_simp; with_reducible rfl); rotate_left; (exact pb); refine done_ (done_of HT_.out (by kernel_rfl)) ?_; (have p152 : 0 ≤ (x9_1 : Int) := of_decide_eq_true (by first | (with_reducible assumption) | assumption)); (have q152 : x9_1 < (t145.length : Int) := of_decide_eq_true (by first | (with_reducible assumption) | assumption)); obtain ⟨ad152, e152, hx152_0, hx152_1, hx152_2, hx152_3⟩ := at_T81 (Kd.R_reads' q1.out).2.2 x9_1 p152 q152; obtain rfl : ad149 = ad152 := (by injection e152); replace p152 := eq_true p152; replace q152 := eq_true q152; (try go_wp2_with (first | ((with_reducible refine gate_builtin (b := .append) (xs := #[.tmp 39, .tmp 45]) rfl ?_); at_builtin; refine Kd.R_append (Kd.int .i64) (w0 := w) w.heap.size rfl (.tmp 39) (.tmp 45) 24 3 (.int .i64 0) 8 rfl Try.underlying24 info3 rfl (by decide) (by omega) u7 x7_1 ((rd_T81 t145 x9_1).f0) [.int .i64 ((rd_T81 t145 x9_1).f0)] (fun _ => True) (fun _ => False) rfl rfl ?aP (fun _ hk => hk.elim) ?aF ?aO ?aB ?aS ?aL ?_; (case aP => exact rfl); (case aB => exact (q4_4)); (case aF => exact (fun _ _ => trivial)); (case aO => exact (ra q2.out)); (case aS => exact (below_size (q4_4))); (case aL => have := LMc22.out; omega); intro v154 w25 ho hb hg hat; rw [← Ny153.out] at ho; have n0_ := q0_4 (Kd.R_over' (ra q1.out) (Kd.R_typed (ra q2.out)) (by decide) hg); have n1_ := q0_4 (hb); have n2_ := q0_4 (ho); clear q1; clear HB; clear q2; have q1 := n0_; have HB := n1_; have q6 := n2_; clear n0_ n1_ n2_; clear ho hb hg hat))); (go_roundg kj7)
                   case measure => have := HK1.out; have := HJ7.out; omega
                   case rel => exact ⟨(y153), (wrap64 (x9_1 + 1)), (by first | rfl | (simp; done) | (simp [*]; done)), (by first | exact H' | (have H2_ := H'; (try simp only [← hji17] at H2_); (try simp only [← hji17]); exact H2_)), ⟨by have := HK1.out; have := HJ7.out; omega⟩, ⟨by refine ra ?_; exact q6.out⟩, ⟨by refine ra ?_; exact q1.out⟩, ⟨by exact (q4_4)⟩⟩
                 · rw [if_neg c22] at H
                   exact absurd H (by simp)
               · rw [if_neg c21] at H
                 (have c21b0 : decide (a2 < t151) = false := decide_eq_false c21); clear c21; (have H' := q0_4 H); clear H; (try go_wp2); have n0_ := q0_4 (Kd.R_drew q2.out); have n1_ := q0_4 (Kd.R_drew q1.out); have n2_ := q0_4 (below_drew1 HB.out); clear q2 q1 HB; have q2 := n0_; have q1 := n1_; have HB := n2_; clear n0_ n1_ n2_; obtain ⟨qd, qe, eo27⟩ := Kd.R_slice q1.out; ((first | subst eo27 | (injection eo27 with f1_ f2_ f3_; have f4_ := f1_.symm; have f5_ := f3_.symm; clear f1_ f2_ f3_; subst f4_; subst f5_))); (have p149 : 0 ≤ (x9_1 : Int) := of_decide_eq_true (by first | (with_reducible assumption) | assumption)); (have q149 : x9_1 < (t145.length : Int) := of_decide_eq_true (by first | (with_reducible assumption) | assumption)); obtain ⟨ad149, e149, hx149_0, hx149_1, hx149_2, hx149_3⟩ := at_T81 (Kd.R_reads' q1.out).2.2 x9_1 p149 q149
                 cases e149
                 replace p149 := eq_true p149; replace q149 := eq_true q149; (have p150 : 0 ≤ ((ji17) : Int) := of_decide_eq_true (by first | (with_reducible assumption) | assumption)); (have q150 : (ji17) < (t145.length : Int) := of_decide_eq_true (by first | (with_reducible assumption) | assumption)); obtain ⟨ad150, e150, hx150_0, hx150_1, hx150_2, hx150_3⟩ := at_T81 (Kd.R_reads' q1.out).2.2 (ji17) p150 q150; obtain rfl : ad149 = ad150 := (by injection e150); replace p150 := eq_true p150; replace q150 := eq_true q150; refine start_ (n := 15) (S := fun w' => w'.cell? (ad149.add ((x9_1).toNat * 4)) = some (.int .i64 ((rd_T81 t145 x9_1).f0)) ∧ w'.cell? ⟨(ad149.add ((x9_1).toNat * 4)).block, (ad149.add ((x9_1).toNat * 4)).off + 1, none⟩ = some (.int .i64 ((rd_T81 t145 x9_1).f1)) ∧ w'.cell? ⟨(ad149.add ((x9_1).toNat * 4)).block, (ad149.add ((x9_1).toNat * 4)).off + 2, none⟩ = some (.int .i64 ((rd_T81 t145 x9_1).f2)) ∧ w'.cell? ⟨(ad149.add ((x9_1).toNat * 4)).block, (ad149.add ((x9_1).toNat * 4)).off + 3, none⟩ = some (.int .i64 ((rd_T81 t145 x9_1).f3)) ∧ w'.cell? (ad149.add (((ji17)).toNat * 4)) = some (.int .i64 ((rd_T81 t145 (ji17)).f0)) ∧ w'.cell? ⟨(ad149.add (((ji17)).toNat * 4)).block, (ad149.add (((ji17)).toNat * 4)).off + 1, none⟩ = some (.int .i64 ((rd_T81 t145 (ji17)).f1)) ∧ w'.cell? ⟨(ad149.add (((ji17)).toNat * 4)).block, (ad149.add (((ji17)).toNat * 4)).off + 2, none⟩ = some (.int .i64 ((rd_T81 t145 (ji17)).f2)) ∧ w'.cell? ⟨(ad149.add (((ji17)).toNat * 4)).block, (ad149.add (((ji17)).toNat * 4)).off + 3, none⟩ = some (.int .i64 ((rd_T81 t145 (ji17)).f3))) (ds := []) (bq 0 15) (by kernel_rfl) rfl rfl ⟨hx149_0, hx149_1, hx149_2, hx149_3, hx150_0, hx150_1, hx150_2, hx150_3⟩ (fun hHeld => ?_); refine with_tabW spec_LeapsIn.tab6 spec_LeapsIn.bits6 (fun HT_ HW_ => ?_); generalize wc.drew = w26 at q2 q1 HB hx149_0 hx149_1 hx149_2 hx149_3 hx150_0 hx150_1 hx150_2 hx150_3 hHeld ⊢; refine pure_ (i := 0) (N := some 24) (v := ?_) (a' := ?_) (bq 1 15) rfl rfl (any_of HT_.out (by kernel_rfl)) (fun _ _ _ h => h) (Or.inl ⟨by rfl, ?_⟩) ?_ ?_; rotate_left; (intro w'; go_simp; with_reducible rfl); rotate_left; (exact pb); refine pure_ (i := 1) (N := some 25) (v := ?_) (a' := ?_) (bq 3 15) rfl rfl (any_of HT_.out (by kernel_rfl)) (fun _ _ _ h => h) (Or.inl ⟨by rfl, ?_⟩) ?_ ?_; rotate_left; (intro w'; go_simp; with_reducible rfl); rotate_left; (exact pb); refine pure_ (i := 2) (N := some 26) (v := ?_) (a' := ?_) (bq 7 15) rfl rfl (any_of HT_.out (by kernel_rfl)) (fun _ _ _ h => h) (Or.inl ⟨by rfl, ?_⟩) ?_ ?_; rotate_left; (intro w'; go_simp; with_reducible rfl); rotate_left; (exact pb); refine pure_ (i := 3) (N := some 27) (v := ?_) (a' := ?_) (bq 15 15) rfl rfl (any_of HT_.out (by kernel_rfl)) (fun _ _ _ h => h) (Or.inl ⟨by rfl, ?_⟩) ?_ ?_; rotate_left; (intro w'; go_simp; with_reducible rfl); rotate_left; (exact pb)
                 refine pure_ (i := 5) (N := some 29) (v := ?_) (a' := ?_) (bq 47 15) rfl rfl (any_of HT_.out (by kernel_rfl)) (fun _ _ _ h => h) (Or.inl ⟨by rfl, ?_⟩) ?_ ?_; rotate_left; (intro w'; go_simp; with_reducible rfl); rotate_left; (exact pb); refine pure_ (i := 6) (N := some 30) (v := ?_) (a' := ?_) (bq 111 15) rfl rfl (any_of HT_.out (by kernel_rfl)) (fun _ _ _ h => h) (Or.inl ⟨by rfl, ?_⟩) ?_ ?_; rotate_left; (intro w'; go_simp; with_reducible rfl); rotate_left; (exact pb); refine pure_ (i := 7) (N := some 31) (v := ?_) (a' := ?_) (bq 239 15) rfl rfl (any_of HT_.out (by kernel_rfl)) (fun _ _ _ h => h) (Or.inl ⟨by rfl, ?_⟩) ?_ ?_; rotate_left; (intro w'; go_simp; with_reducible rfl); rotate_left; (exact pb); refine pure_ (i := 8) (N := some 32) (v := ?_) (a' := ?_) (bq 495 15) rfl rfl (any_of HT_.out (by kernel_rfl)) (fun _ _ _ h => h) (Or.inl ⟨by rfl, ?_⟩) ?_ ?_; rotate_left; (intro w'; go_simp; with_reducible rfl); rotate_left; (exact pb); refine pure_ (i := 9) (N := some 33) (v := ?_) (a' := ?_) (bq 1007 15) rfl rfl (any_of HT_.out (by kernel_rfl)) (fun _ _ _ h => h) (Or.inl ⟨by rfl, ?_⟩) ?_ ?_; rotate_left; (intro w'; go_simp; with_reducible rfl); rotate_left; (exact pb); refine pure_ (i := 13) (N := some 37) (v := ?_) (a' := ?_) (bq 9199 15) rfl rfl (any_of HT_.out (by kernel_rfl)) (fun _ _ _ h => h) (Or.inl ⟨by rfl, ?_⟩) ?_ ?_; rotate_left; (intro w'; go_simp; with_reducible rfl); rotate_left; (exact pb); refine take_ (i := 4) (N := some 28) (v := ?_) (a' := ?_) (bq 9215 15) rfl rfl (take_ofW HT_.out HW_.out (by kernel_rfl)) (fun _ _ _ h => h) (Or.inl ⟨by rfl, ?_⟩) hHeld ?_ ?_; rotate_left; (rintro w' ⟨s0, s1, s2, s3, s4, s5, s6, s7⟩; go_simp; with_reducible rfl); rotate_left; (exact pb); refine take_ (i := 10) (N := some 34) (v := ?_) (a' := ?_) (bq 10239 15) rfl rfl (take_ofW HT_.out HW_.out (by kernel_rfl)) (fun _ _ _ h => h) (Or.inl ⟨by rfl, ?_⟩) hHeld ?_ ?_; rotate_left; (rintro w' ⟨s0, s1, s2, s3, s4, s5, s6, s7⟩; go_simp; with_reducible rfl); rotate_left; (exact pb); refine pure_ (i := 11) (N := some 35) (v := ?_) (a' := ?_) (bq 12287 15) rfl rfl (any_of HT_.out (by kernel_rfl)) (fun _ _ _ h => h) (Or.inl ⟨by rfl, ?_⟩) ?_ ?_; rotate_left; (intro w'; go_simp; with_reducible rfl); rotate_left; (exact pb); refine one_ (i := 12) (N := some 36) (bq 16383 15) rfl rfl (one_of HT_.out (by kernel_rfl)) (by decide) (fun K hK => ?_); refine goes_ Try.func65 (by kernel_rfl) rfl #[.int .i64 (wrap64 (((rd_T81 t145 x9_1).f2) - ((rd_T81 t145 (ji17)).f2)))] (by rfl) rfl rfl (by (try simp only [List.map_toArray, List.map_cons, List.map_nil]); first | done | (simp only [hji17]; rfl) | rfl | (simp only [List.length_drop, List.length_take]; rfl)) ?_; (with_reducible refine (spec_l4Abs.calls (wrap64 (((rd_T81 t145 x9_1).f2) - ((rd_T81 t145 (ji17)).f2))) t151 _ A20.out).mono ?_); rintro e w' ⟨rfl, ⟨nd, rfl⟩⟩; refine ⟨_, rfl, ?_⟩
                 refine hK.out _ _ ⟨hHeld.1, hHeld.2.1, hHeld.2.2.1, hHeld.2.2.2.1, hHeld.2.2.2.2.1, hHeld.2.2.2.2.2.1, hHeld.2.2.2.2.2.2.1, hHeld.2.2.2.2.2.2.2⟩ (fun hHeld => ?_); clear hK K; refine norm_ (a' := ?_) ?_ ?_; rotate_left; ((show Act.put _ (some 36) _ = _); simp only [Act.put, List.setIfInBounds_toArray, List.set_cons_zero, List.set_cons_succ, i64_w, i32_w]; rfl); refine pure_ (i := 14) (N := some 38) (v := ?_) (a' := ?_) (bq 32767 15) rfl rfl (any_of HT_.out (by kernel_rfl)) (fun _ _ _ h => h) (Or.inl ⟨by rfl, ?_⟩) ?_ ?_; rotate_left; (intro w'; go_simp; with_reducible rfl); rotate_left; (exact pb); refine done_ (done_of HT_.out (by kernel_rfl)) ?_; (try go_wp2); (go_roundg kj7)
                 case measure => have := HK1.out; have := HJ7.out; omega
                 case rel => exact ⟨(x7_1), (wrap64 (x9_1 + 1)), (by first | rfl | (simp; done) | (simp [*]; done)), (by first | exact H' | (have H2_ := H'; (try simp only [← hji17] at H2_); (try simp only [← hji17]); exact H2_)), ⟨by have := HK1.out; have := HJ7.out; omega⟩, ⟨by refine ra ?_; exact q2.out⟩, ⟨by refine ra ?_; exact q1.out⟩, ⟨by exact (q4_4)⟩⟩
             · rw [if_neg c19] at H
               exact absurd H (by simp)
           · rw [if_neg c18] at H
             exact absurd H (by simp)
         · rw [if_neg c16] at H
           exact absurd H (by simp)
       · rw [if_neg c15] at H
         exact absurd H (by simp)
     · replace c14 := Bool.eq_false_iff.mpr c14
       subst c14; (have H1 : (some x7_1) = some r := by rw [if_neg (show ¬ (false = true) by decide)] at H; exact H); clear H; have H := H1; clear H1; obtain rfl := Option.some.inj H; (go_wp2); go_ret; (exact ⟨_, by first | rfl | (simp [errW_none, errW_some] <;> rfl) | (simp [*, errW_none, errW_some] <;> rfl), by refine ra ?_; exact q2.out, by exact (q4_4)⟩)
end Go.Proofs.Ytlkcbmcbmanmiaa.PFnExactFaultsIn
