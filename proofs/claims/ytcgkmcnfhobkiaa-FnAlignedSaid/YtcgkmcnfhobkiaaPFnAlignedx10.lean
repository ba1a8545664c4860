-- Written for this claim by a program of this repository (wip/tools/print2.py), out of the translation; Lean checks it.
import Derived.Test.YtcgkmcnfhobkiaaPFnAlignedx0
namespace Go.Proofs.Ytcgkmcnfhobkiaa.PFnAligned
open Go.RowKit Go.Proofs.YtcgkmcnfhobkiaaW.PrintWords Go.Proofs.YtcgkmcnfhobkiaaW.PrintLast Go.Proofs.YtcgkmcnfhobkiaaW.PrintMore
attribute [local go_sem] max2_int min2_int max_two min_two max_three min_three max_four min_four   -- for this text's walks alone
set_option linter.unusedVariables false
set_option linter.unusedSimpArgs false
-- SHORT
theorem q4_10 {p : Prop} (f : p := by repeat (first | (with_reducible first | exact HB.out | apply below_alloc | apply pw_below_drewN | apply below_drew1) | exact HB.out)) : p := f
theorem gz0_10 {p : Prop} (f : p := by repeat (first | (with_reducible first | exact HB.out | apply below_alloc | apply pw_below_drewN | apply below_drew1 | refine below_set ?_ GB28.out) | exact HB.out)) : p := f
theorem q0_10 {p : Prop} (h : p) : Aside0 p := ⟨h⟩
/-! ### impl_CommonLength: function 31 -/
mutual
def impl_CommonLength.j0 : Nat → List Int → List Int → Bool → Option (Int)
 | 0, _, _, _ => none
 | k + 1, x0, x1, x18 => if x18 = true then (some (-1)) else (if 0 ≤ (wrap64 ((x1.length : Int) + 1)) then (if (wrap64 ((x1.length : Int) + 1) : Int).toNat ≤ 35184372088832 then (impl_CommonLength.l0 k x1 (List.replicate (wrap64 ((x1.length : Int) + 1) : Int).toNat 0) x0 (x0.length : Int) 0) else (none)) else (none))
def impl_CommonLength.l0 : Nat → List Int → List Int → List Int → Int → Int → Option (Int)
 | 0, _, _, _, _, _ => none
 | k + 1, x1, x5, x23, x24, x25 => if x25 < x24 then (if 0 ≤ x25 then (if x25 < (x23.length : Int) then (if 0 ≤ (wrap64 ((x1.length : Int) + 1)) then (if (wrap64 ((x1.length : Int) + 1) : Int).toNat ≤ 35184372088832 then (impl_CommonLength.l1 k x1 x5 (rd x23 x25) (List.replicate (wrap64 ((x1.length : Int) + 1) : Int).toNat 0) x23 x24 x25 x1 (x1.length : Int) 0) else (none)) else (none)) else (none)) else (none)) else (if 0 ≤ (x1.length : Int) then (if (x1.length : Int) < (x5.length : Int) then (some (rd x5 (x1.length : Int))) else (none)) else (none))
def impl_CommonLength.l1 : Nat → List Int → List Int → Int → List Int → List Int → Int → Int → List Int → Int → Int → Option (Int)
 | 0, _, _, _, _, _, _, _, _, _, _ => none
 | k + 1, x1, x5, x7, x8, x23, x24, x25, x33, x34, x35 => if x35 < x34 then (if 0 ≤ x35 then (if x35 < (x33.length : Int) then (if x35 < (x8.length : Int) then (if 0 ≤ (wrap64 (x35 + 1)) then (if (wrap64 (x35 + 1)) < (x5.length : Int) then (if (wrap64 (x35 + 1)) < (x8.length : Int) then ((some (x8.set ((wrap64 (x35 + 1)) : Int).toNat (mx (rd x8 x35) (rd x5 (wrap64 (x35 + 1)))) : List Int)).bind fun y391 => (if x7 = (rd x33 x35) then (if x35 < (x5.length : Int) then (impl_CommonLength.l1 k x1 x5 x7 (y391.set ((wrap64 (x35 + 1)) : Int).toNat (wrap64 ((rd x5 x35) + 1))) x23 x24 x25 x33 x34 (wrap64 (x35 + 1))) else (none)) else (impl_CommonLength.l1 k x1 x5 x7 y391 x23 x24 x25 x33 x34 (wrap64 (x35 + 1))))) else (none)) else (none)) else (none)) else (none)) else (none)) else (none)) else (impl_CommonLength.l0 k x1 x8 x23 x24 (wrap64 (x25 + 1)))
end
def impl_CommonLength.f (k : Nat) (l0 : List Int) (l1 : List Int) : Option (Int) := if (l0.length : Int) > 40 then (impl_CommonLength.j0 k l0 l1 true) else (impl_CommonLength.j0 k l0 l1 (decide ((l1.length : Int) > 40)))
theorem impl_CommonLength.mono_l : ∀ k, (∀ y0 y1 y2, LeO (impl_CommonLength.j0 k y0 y1 y2) (impl_CommonLength.j0 (k + 1) y0 y1 y2)) ∧ (∀ y0 y1 y2 y3 y4, LeO (impl_CommonLength.l0 k y0 y1 y2 y3 y4) (impl_CommonLength.l0 (k + 1) y0 y1 y2 y3 y4)) ∧ (∀ y0 y1 y2 y3 y4 y5 y6 y7 y8 y9, LeO (impl_CommonLength.l1 k y0 y1 y2 y3 y4 y5 y6 y7 y8 y9) (impl_CommonLength.l1 (k + 1) y0 y1 y2 y3 y4 y5 y6 y7 y8 y9))
 | 0 => ⟨fun _ _ _ r h => by simp [impl_CommonLength.j0] at h, fun _ _ _ _ _ r h => by simp [impl_CommonLength.l0] at h, fun _ _ _ _ _ _ _ _ _ _ r h => by simp [impl_CommonLength.l1] at h⟩
 | k + 1 => by
  obtain ⟨ih0, ih1, ih2⟩ := impl_CommonLength.mono_l k; refine ⟨?_, ?_, ?_⟩; (intro y0 y1 y2; unfold impl_CommonLength.j0; (repeat' (with_reducible first | exact ih0 _ _ _ | exact ih1 _ _ _ _ _ | exact ih2 _ _ _ _ _ _ _ _ _ _ | exact LeO.refl _ | exact LeO.none _ | refine LeO.ite ?_ ?_ | refine LeO.bind ?_ (fun _ => ?_)))); (intro y0 y1 y2 y3 y4; unfold impl_CommonLength.l0; (repeat' (with_reducible first | exact ih0 _ _ _ | exact ih1 _ _ _ _ _ | exact ih2 _ _ _ _ _ _ _ _ _ _ | exact LeO.refl _ | exact LeO.none _ | refine LeO.ite ?_ ?_ | refine LeO.bind ?_ (fun _ => ?_))))
  · intro y0 y1 y2 y3 y4 y5 y6 y7 y8 y9
    unfold impl_CommonLength.l1; (repeat' (with_reducible first | exact ih0 _ _ _ | exact ih1 _ _ _ _ _ | exact ih2 _ _ _ _ _ _ _ _ _ _ | exact LeO.refl _ | exact LeO.none _ | refine LeO.ite ?_ ?_ | refine LeO.bind ?_ (fun _ => ?_)))
theorem impl_CommonLength.mono : ∀ a0 a1 k, LeO (impl_CommonLength.f k a0 a1) (impl_CommonLength.f (k + 1) a0 a1) := by
 intro a0 a1 k; obtain ⟨ih0, ih1, ih2⟩ := impl_CommonLength.mono_l k; unfold impl_CommonLength.f; (repeat' (with_reducible first | exact ih0 _ _ _ | exact ih1 _ _ _ _ _ | exact ih2 _ _ _ _ _ _ _ _ _ _ | exact LeO.refl _ | exact LeO.none _ | refine LeO.ite ?_ ?_ | refine LeO.bind ?_ (fun _ => ?_)))
def impl_CommonLength.T11 : Bool × List (List Nat × List Nat) := (true, [([], []), ([], []), ([1], [1]), ([], []), ([], []), ([3, 4], [3, 4]), ([5], [5]), ([], []), ([], []), ([8], [8]), ([7, 9], [7, 9]), ([10], [10]), ([6, 11], [6, 11]), ([0, 2, 0, 1, 2, 3, 4, 5, 6, 7, 8, 9, 10, 11, 12], [0, 2]), ([13, 12, 0, 1, 2, 3, 4, 5, 6, 7, 8, 9, 10, 11, 12], [12, 13])])
def impl_CommonLength.B11 : List Nat := [0, 0, 2, 0, 0, 24, 56, 0, 0, 256, 896, 1920, 4088, 8191, 16383]
theorem impl_CommonLength.tab11 : rtab .any (opsOf Try.f31 11) = impl_CommonLength.T11 := by kernel_rfl
theorem impl_CommonLength.bits11 : waitsOk impl_CommonLength.T11.2 impl_CommonLength.B11 = true := by kernel_rfl
set_option maxHeartbeats 8000000 in
set_option maxRecDepth 100000 in
theorem impl_CommonLength.calls (k : Nat) (A0 : Option Addr) (c0 : Nat) (l0 : List Int) (A1 : Option Addr) (c1 : Nat) (l1 : List Int) (r : Int) (w : World) (hr0 : Kd.C (Kd.int .i64) w A0 l0.length l0) (hc0 : l0.length ≤ c0) (hr1 : Kd.C (Kd.int .i64) w A1 l1.length l1) (hc1 : l1.length ≤ c1) (h : impl_CommonLength.f k l0 l1 = some r) :
 Calls Try.prog 31 #[.slice A0 l0.length c0, .slice A1 l1.length c1] w fun e w' => e = .returned (.int .i64 r) ∧ Below w.heap.size w w' := by
 have HR0 := q0_10 hr0; have HC0 := q0_10 hc0; clear hr0 hc0; have HR1 := q0_10 hr1; have HC1 := q0_10 hc1; clear hr1 hc1; have HB := q0_10 (Below.refl w.heap.size w); (have H : (if (l0.length : Int) > 40 then (impl_CommonLength.j0 k l0 l1 true) else (impl_CommonLength.j0 k l0 l1 (decide ((l1.length : Int) > 40)))) = some r := h); clear h; have HC3 := q0_10 H; clear H; go_enter Try.func31, Try.ntmps31; (go_upto_region 1 with (fail)); (go_cut [18] (fun v18 wc => ∃ (kq : Nat) (x18_2 : Bool), v18 = .bool x18_2 ∧ Aside0 (impl_CommonLength.j0 kq l0 l1 x18_2 = some r) ∧ Aside0 (kq ≤ k) ∧ Aside0 (Below w.heap.size w wc)))
 case first =>
  have H := HC3.out; clear HC3
  by_cases c4 : (l0.length : Int) > 40
  · rw [if_pos c4] at H
    (have c4b0 : decide (40 < (l0.length : Int)) = true := decide_eq_true c4); (have c4b1 : decide (40 < l0.length) = true := decide_eq_true (by omega)); clear c4; ((first | rw [c4b0] | (simp only [i64_w, i32_w]; rw [c4b0]) | skip)); (have H' := q0_10 H); clear H; (go_wp2); (go_meet)
    case rel => exact ⟨_, (true), (by first | rfl | (simp; done) | (simp [*]; done)), H', ⟨by first | omega | exact Nat.le_refl _⟩, ⟨by exact (q4_10)⟩⟩
  · rw [if_neg c4] at H
    (have c4b0 : decide (40 < (l0.length : Int)) = false := decide_eq_false c4); (have c4b1 : decide (40 < l0.length) = false := decide_eq_false (by omega)); clear c4; ((first | rw [c4b0] | (simp only [i64_w, i32_w]; rw [c4b0]) | skip)); (have H' := q0_10 H); clear H; (go_wp2); (go_meet)
    case rel => exact ⟨_, (decide ((l1.length : Int) > 40)), (by first | rfl | (simp; done) | (simp [*]; done)), H', ⟨by first | omega | exact Nat.le_refl _⟩, ⟨by exact (q4_10)⟩⟩
 case rest =>
  clear HC3; (try clear c1); (try clear p2); (try clear c3); (try clear c4); (try clear c4b0); (try clear c4b1); obtain ⟨kq, x18_2, rfl, HA, HJ2, HB⟩ := hcut
  cases kq with
  | zero => exact absurd HA.out (by simp [impl_CommonLength.j0])
  | succ kj2 =>
   have H := HA.out; clear HA; (simp only [impl_CommonLength.j0] at H)
   by_cases c5 : x18_2 = true
   · subst c5
     rw [if_pos rfl] at H; obtain rfl := Option.some.inj H; (go_wp2); go_ret; (exact ⟨by first | rfl | (simp [errW_none, errW_some] <;> rfl) | (simp [*, errW_none, errW_some] <;> rfl), by exact (q4_10)⟩)
   · replace c5 := Bool.eq_false_iff.mpr c5
     subst c5; rw [if_neg (show ¬ (false = true) by decide)] at H; obtain ⟨ji6, hji6⟩ : ∃ j_ : Int, (wrap64 ((l1.length : Int) + 1)) = j_ := ⟨_, rfl⟩; (replace H : (if 0 ≤ (ji6) then (if (ji6 : Int).toNat ≤ 35184372088832 then (impl_CommonLength.l0 kj2 l1 (List.replicate (ji6 : Int).toNat 0) l0 (l0.length : Int) 0) else (none)) else (none)) = some r := by first | (rw [hji6] at H; exact H) | (simp only [hji6] at H ⊢; exact H)); (have hji6w : (IntKind.i64.wrap ((l1.length : Int) + 1)) = ji6 := (i64_w _).trans hji6)
     by_cases c7 : 0 ≤ (ji6)
     · rw [if_pos c7] at H
       have c7b0 := eq_true c7; (have c7b1 : decide (0 ≤ (ji6)) = true := decide_eq_true c7); clear c7
       by_cases c8 : (ji6 : Int).toNat ≤ 35184372088832
       · rw [if_pos c8] at H
         have c8b0 := eq_true c8; (have c8b1 : decide ((ji6 : Int).toNat ≤ 35184372088832) = true := decide_eq_true c8); clear c8; obtain ⟨y380, hy380⟩ : ∃ y_ : List Int, y_ = (List.replicate (ji6 : Int).toNat 0) := ⟨_, rfl⟩; (first | rw [Option.bind_some, ← hy380] at H | rw [← hy380] at H | replace H := (Option.bind_some _ _).symm.trans H | skip); have Ny380 := q0_10 hy380; clear hy380; (have H' := q0_10 H); clear H; (go_wp2_with (first | ((with_reducible refine gate_dst (N := 22) rfl ?_); (try (refine gate_guard (by rfl) ?_; dsimp only)); refine Kd.R_make (Kd.int .i64) _ 3 rfl (N := 22) rfl 25 _ _ rfl ji6 rfl rfl Try.underlying25 (.int .i64 0) 8 info3 rfl (by decide) (by omega) 0 (ok := fun _ => True) (okp := fun _ => True) rfl (fun _ hk => hk) trivial (od) (Nat.le_trans (Nat.mul_le_mul_right _ (od : ji6.toNat ≤ 35184372088832)) (by omega)) (Below.refl _ _) (Nat.le_refl _) ?_; intro v381 w9 ho10 hb hg_ hnew_; clear hg_ hnew_; (first | rw [← Ny380.out] at ho10 | (simp only [Int.reduceToNat] at ho10; rw [← Ny380.out] at ho10)); have q8 := q0_10 (Kd.R_lower ho10 (below_size (q4_10))); replace HB := q0_10 (below_step (q4_10) hb); clear hb ho10))); (go_loopg [5, 25] kj2 (fun kq v5 v25 w' => ∃ (x5_2 : List Int) (x25_2 : Int), v25 = .int .i64 x25_2 ∧ Aside0 (impl_CommonLength.l0 kq l1 x5_2 l0 (l0.length : Int) x25_2 = some r) ∧ Aside0 (kq ≤ kj2) ∧ Aside0 (Kd.R (Kd.int .i64) 3 w' w.heap.size (fun _ => True) v5 x5_2) ∧ Aside0 (Below w.heap.size w w')))
         case atStart => exact ⟨(y380), (0), (by first | rfl | (simp; done) | (simp [*]; done)), H', ⟨Nat.le_refl _⟩, ⟨by refine ra ?_; exact q8.out⟩, ⟨by exact (q4_10)⟩⟩
         case round =>
          clear H'; (try clear c1); (try clear p2); (try clear c3); (try clear c4); (try clear c4b0); (try clear c4b1); (try clear c5); (try clear p6); (try clear c7); (try clear c7b0); (try clear c7b1); (try clear c8); (try clear c8b0); (try clear c8b1); (try clear p2); obtain ⟨x5_2, x25_2, rfl, HA, HK2, q1, HB⟩ := hrel
          cases gk with
          | zero => exact absurd HA.out (by simp [impl_CommonLength.l0])
          | succ k2 =>
           have H := HA.out; clear HA; (simp only [impl_CommonLength.l0] at H)
           by_cases c11 : x25_2 < (l0.length : Int)
           · rw [if_pos c11] at H
             (have c11b0 : decide (x25_2 < (l0.length : Int)) = true := decide_eq_true c11); clear c11
             by_cases c12 : 0 ≤ x25_2
             · rw [if_pos c12] at H
               (have c12b0 : decide (0 ≤ x25_2) = true := decide_eq_true c12); clear c12
               by_cases c13 : x25_2 < (l0.length : Int)
               · rw [if_pos c13] at H
                 (have c13b0 : decide (x25_2 < (l0.length : Int)) = true := decide_eq_true c13); clear c13; obtain ⟨ji14, hji14⟩ : ∃ j_ : Int, (wrap64 ((l1.length : Int) + 1)) = j_ := ⟨_, rfl⟩; (have hs_ : ji14 = ji6 := hji14.symm.trans hji6); subst hs_; (replace H : (if 0 ≤ (ji14) then (if (ji14 : Int).toNat ≤ 35184372088832 then (impl_CommonLength.l1 k2 l1 x5_2 (rd l0 x25_2) (List.replicate (ji14 : Int).toNat 0) l0 (l0.length : Int) x25_2 l1 (l1.length : Int) 0) else (none)) else (none)) = some r := by first | (rw [hji14] at H; exact H) | (simp only [hji14] at H ⊢; exact H)); (have hji14w : (IntKind.i64.wrap ((l1.length : Int) + 1)) = ji14 := (i64_w _).trans hji14)
                 by_cases c15 : 0 ≤ (ji14)
                 · rw [if_pos c15] at H
                   have c15b0 := eq_true c15; (have c15b1 : decide (0 ≤ (ji14)) = true := decide_eq_true c15); clear c15
                   by_cases c16 : (ji14 : Int).toNat ≤ 35184372088832
                   · rw [if_pos c16] at H
                     have c16b0 := eq_true c16; (have c16b1 : decide ((ji14 : Int).toNat ≤ 35184372088832) = true := decide_eq_true c16); clear c16; obtain ⟨y385, hy385⟩ : ∃ y_ : List Int, y_ = (List.replicate (ji14 : Int).toNat 0) := ⟨_, rfl⟩; (first | rw [Option.bind_some, ← hy385] at H | rw [← hy385] at H | replace H := (Option.bind_some _ _).symm.trans H | skip); have Ny385 := q0_10 hy385; clear hy385; (have H' := q0_10 H); clear H; (have p384 : 0 ≤ (x25_2 : Int) := od); (have q384 : x25_2 < (l0.length : Int) := od); obtain ⟨ad384, e384, hx384_0⟩ := Kd.at_int HR0.out x25_2 p384 q384
                     cases e384
                     replace hx384_0 := hxB HB hx384_0; replace p384 := eq_true p384; replace q384 := eq_true q384; (go_wp2_with (first | ((with_reducible refine gate_dst (N := 32) rfl ?_); (try (refine gate_guard (by rfl) ?_; dsimp only)); refine Kd.R_make (Kd.int .i64) _ 3 rfl (N := 32) rfl 25 _ _ rfl ji14 rfl rfl Try.underlying25 (.int .i64 0) 8 info3 rfl (by decide) (by omega) 0 (ok := fun _ => True) (okp := fun _ => True) rfl (fun _ hk => hk) trivial (od) (Nat.le_trans (Nat.mul_le_mul_right _ (od : ji14.toNat ≤ 35184372088832)) (by omega)) (Below.refl _ _) (Nat.le_refl _) ?_; intro v386 w17 ho18 hb hg_ hnew_; clear hg_ hnew_; (first | rw [← Ny385.out] at ho18 | (simp only [Int.reduceToNat] at ho18; rw [← Ny385.out] at ho18)); have q9 := q0_10 (Kd.R_lower (Kd.R_new' ho18 (Kd.R_lt (ra q1.out))) (below_size (q4_10))); replace q1 := q0_10 (Kd.R_elder' (ra q1.out) (Kd.R_base ho18) hb); replace HB := q0_10 (below_step (q4_10) hb); clear hb ho18))); (go_loopg [35] k2 (fun kq v35 w' => ∃ (x8_3 : List Int) (x35_3 : Int), v35 = .int .i64 x35_3 ∧ Aside0 (impl_CommonLength.l1 kq l1 x5_2 (rd l0 x25_2) x8_3 l0 (l0.length : Int) x25_2 l1 (l1.length : Int) x35_3 = some r) ∧ Aside0 (kq ≤ k2) ∧ Aside0 (Kd.R (Kd.int .i64) 3 w' w.heap.size (fun k_ => some k_ ≠ (v386 : Value).ownBlock) u5 x5_2) ∧ Aside0 (Kd.R (Kd.int .i64) 3 w' w.heap.size (fun k_ => some k_ ≠ (u5 : Value).ownBlock) v386 x8_3) ∧ Aside0 (Below w.heap.size w w')))
                     case atStart => exact ⟨(y385), (0), (by first | rfl | (simp; done) | (simp [*]; done)), H', ⟨Nat.le_refl _⟩, ⟨by refine ra ?_; exact Kd.R_mono q1.out (fun _ hk => hk.2)⟩, ⟨by refine ra ?_; exact Kd.R_mono q9.out (fun _ hk => hk.2)⟩, ⟨by exact (q4_10)⟩⟩
                     case round =>
                      clear H'; (try clear c1); (try clear p2); (try clear c3); (try clear p3); (try clear q3); (try clear hx3); (try clear c4); (try clear c4b0); (try clear c4b1); (try clear c5); (try clear p6); (try clear c7); (try clear c7b0); (try clear c7b1); (try clear c8); (try clear c8b0); (try clear c8b1); (try clear c11); (try clear c11b0); (try clear c12); (try clear c12b0); (try clear c13); (try clear c13b0); (try clear c15); (try clear c15b0); (try clear c15b1); (try clear c16); (try clear c16b0); (try clear c16b1); (try clear hx384_0); (try clear p2); (try clear p384); (try clear p6); (try clear q384); obtain ⟨x8_3, x35_3, rfl, HA, HK3, q1, q2, HB⟩ := hrel
                      cases gk with
                      | zero => exact absurd HA.out (by simp [impl_CommonLength.l1])
                      | succ k3 =>
                       have H := HA.out; clear HA; (simp only [impl_CommonLength.l1] at H)
                       by_cases c19 : x35_3 < (l1.length : Int)
                       · rw [if_pos c19] at H
                         (have c19b0 : decide (x35_3 < (l1.length : Int)) = true := decide_eq_true c19); clear c19
                         by_cases c20 : 0 ≤ x35_3
                         · rw [if_pos c20] at H
                           (have c20b0 : decide (0 ≤ x35_3) = true := decide_eq_true c20); clear c20
                           by_cases c21 : x35_3 < (l1.length : Int)
                           · rw [if_pos c21] at H
                             (have c21b0 : decide (x35_3 < (l1.length : Int)) = true := decide_eq_true c21); clear c21
                             by_cases c22 : x35_3 < (x8_3.length : Int)
                             · rw [if_pos c22] at H
                               (have c22b0 : decide (x35_3 < (x8_3.length : Int)) = true := decide_eq_true c22); clear c22; obtain ⟨ji23, hji23⟩ : ∃ j_ : Int, (wrap64 (x35_3 + 1)) = j_ := ⟨_, rfl⟩; (replace H : (if 0 ≤ (ji23) then (if (ji23) < (x5_2.length : Int) then (if (ji23) < (x8_3.length : Int) then ((some (x8_3.set ((ji23) : Int).toNat (mx (rd x8_3 x35_3) (rd x5_2 (ji23))) : List Int)).bind fun y391 => (if (rd l0 x25_2) = (rd l1 x35_3) then (if x35_3 < (x5_2.length : Int) then (impl_CommonLength.l1 k3 l1 x5_2 (rd l0 x25_2) (y391.set ((ji23) : Int).toNat (wrap64 ((rd x5_2 x35_3) + 1))) l0 (l0.length : Int) x25_2 l1 (l1.length : Int) ji23) else (none)) else (impl_CommonLength.l1 k3 l1 x5_2 (rd l0 x25_2) y391 l0 (l0.length : Int) x25_2 l1 (l1.length : Int) ji23))) else (none)) else (none)) else (none)) = some r := by first | (rw [hji23] at H; exact H) | (simp only [hji23] at H ⊢; exact H)); (have hji23w : (IntKind.i64.wrap (x35_3 + 1)) = ji23 := (i64_w _).trans hji23)
                               by_cases c24 : 0 ≤ (ji23)
                               · rw [if_pos c24] at H
                                 (have c24b0 : decide (0 ≤ (ji23)) = true := decide_eq_true c24); clear c24
                                 by_cases c25 : (ji23) < (x5_2.length : Int)
                                 · rw [if_pos c25] at H
                                   (have c25b0 : decide ((ji23) < (x5_2.length : Int)) = true := decide_eq_true c25); clear c25; obtain ⟨ji26, hji26⟩ : ∃ j_ : Int, (mx (rd x8_3 x35_3) (rd x5_2 (ji23))) = j_ := ⟨_, rfl⟩; (replace H : (if (ji23) < (x8_3.length : Int) then ((some (x8_3.set ((ji23) : Int).toNat (ji26) : List Int)).bind fun y391 => (if (rd l0 x25_2) = (rd l1 x35_3) then (if x35_3 < (x5_2.length : Int) then (impl_CommonLength.l1 k3 l1 x5_2 (rd l0 x25_2) (y391.set ((ji23) : Int).toNat (wrap64 ((rd x5_2 x35_3) + 1))) l0 (l0.length : Int) x25_2 l1 (l1.length : Int) ji23) else (none)) else (impl_CommonLength.l1 k3 l1 x5_2 (rd l0 x25_2) y391 l0 (l0.length : Int) x25_2 l1 (l1.length : Int) ji23))) else (none)) = some r := by first | (rw [hji26] at H; exact H) | (simp only [hji26] at H ⊢; exact H)); (have hji26_ : (if (rd x8_3 x35_3) < (rd x5_2 (ji23)) then (rd x5_2 (ji23)) else (rd x8_3 x35_3)) = ji26 := hji26)
                                   by_cases c27 : (ji23) < (x8_3.length : Int)
                                   · rw [if_pos c27] at H
                                     (have c27b0 : decide ((ji23) < (x8_3.length : Int)) = true := decide_eq_true c27); clear c27; obtain ⟨y391, hy391⟩ : ∃ y_ : List Int, y_ = (x8_3.set ((ji23) : Int).toNat (ji26)) := ⟨_, rfl⟩; (first | rw [Option.bind_some, ← hy391] at H | rw [← hy391] at H | replace H := (Option.bind_some _ _).symm.trans H | skip); have Ny391 := q0_10 hy391; clear hy391
                                     by_cases c29 : (rd l0 x25_2) = (rd l1 x35_3)
                                     · rw [if_pos c29] at H
                                       (have c29b0 : ((rd l0 x25_2) == (rd l1 x35_3)) = true := beq_iff_eq.mpr c29); (have c29b1 : ((rd l0 x25_2) != (rd l1 x35_3)) = false := bne_eq_false_iff_eq.mpr c29); clear c29
                                       by_cases c30 : x35_3 < (x5_2.length : Int)
                                       · rw [if_pos c30] at H
                                         (have c30b0 : decide (x35_3 < (x5_2.length : Int)) = true := decide_eq_true c30); clear c30; obtain ⟨y393, hy393⟩ : ∃ y_ : List Int, y_ = (y391.set ((ji23) : Int).toNat (wrap64 ((rd x5_2 x35_3) + 1))) := ⟨_, rfl⟩; (first | rw [Option.bind_some, ← hy393] at H | rw [← hy393] at H | replace H := (Option.bind_some _ _).symm.trans H | skip); have Ny393 := q0_10 hy393; clear hy393; (have H' := q0_10 H); clear H; (have p388 : 0 ≤ (x35_3 : Int) := od); (have q388 : x35_3 < (l1.length : Int) := od); obtain ⟨ad388, e388, hx388_0⟩ := Kd.at_int HR1.out x35_3 p388 q388
                                         cases e388
                                         replace hx388_0 := hxB HB hx388_0; replace p388 := eq_true p388; replace q388 := eq_true q388; (try go_wp2); replace q1 := q0_10 (Kd.R_drew q1.out); replace q2 := q0_10 (Kd.R_drew q2.out); replace HB := q0_10 (below_drew1 HB.out); obtain ⟨qb, q5, eo33⟩ := Kd.R_slice q2.out; ((first | subst eo33 | (injection eo33 with f1_ f2_ f3_; have f4_ := f1_.symm; have f5_ := f3_.symm; clear f1_ f2_ f3_; subst f4_; subst f5_))); (have p389 : 0 ≤ (x35_3 : Int) := od); (have q389 : x35_3 < (x8_3.length : Int) := od); obtain ⟨ad389, e389, hx389_0⟩ := Kd.at_int (Kd.R_reads' q2.out).2.2 x35_3 p389 q389
                                         cases e389
                                         replace p389 := eq_true p389; replace q389 := eq_true q389; obtain ⟨qc, q7, eo34⟩ := Kd.R_slice q1.out; ((first | subst eo34 | (injection eo34 with f1_ f2_ f3_; have f4_ := f1_.symm; have f5_ := f3_.symm; clear f1_ f2_ f3_; subst f4_; subst f5_))); (have p390 : 0 ≤ ((ji23) : Int) := od); (have q390 : (ji23) < (x5_2.length : Int) := od); obtain ⟨ad390, e390, hx390_0⟩ := Kd.at_int (Kd.R_reads' q1.out).2.2 (ji23) p390 q390
                                         cases e390
                                         replace p390 := eq_true p390; replace q390 := eq_true q390; (have p28 : 0 ≤ ((ji23) : Int) := od); (have q28 : ((ji23) : Int) < ((x8_3.length : Int) : Int) := od); obtain ⟨go28, qa, eo28, q6, gl28, cl28, HG28⟩ := Kd.R_form q2.out (by omega); ((first | cases eo28 | (injection eo28 with ea_ en_ ec_; (first | subst ea_ | (injection ea_ with ea_; subst ea_)); subst ec_; clear en_))); have GB28 := q0_10 q6; have GG28 := q0_10 HG28; clear q6 gl28 HG28; ((first | simp only [add_plain] at hx389_0 | skip)); obtain ⟨hx28_0, hf28_0⟩ := Kd.R_celln 0 q2.out ((ji23) : Int) p28 q28; replace p28 := eq_true p28; replace q28 := eq_true q28; have HP35 := Kd.R_putn q2.out ((ji23) : Int) ji26; rw [← Ny391.out] at HP35; have HQ35 := q0_10 HP35; clear HP35; refine start_ (n := 15) (S := fun w' => w'.cell? ⟨go28, (x35_3).toNat, none⟩ = some (.int .i64 (rd x8_3 x35_3)) ∧ w'.cell? (ad390.add ((ji23)).toNat) = some (.int .i64 (rd x5_2 (ji23)))) (ds := [14]) (bq 0 15) (by kernel_rfl) rfl rfl ⟨hx389_0, hx390_0⟩ (fun hHeld => ?_); refine with_tabW impl_CommonLength.tab11 impl_CommonLength.bits11 (fun HT_ HW_ => ?_); generalize wr.drew = w32 at q1 q2 HB GG28 HQ35 hf28_0 hx28_0 hx389_0 hx390_0 hHeld ⊢; refine pu 0 40 (bq 1 15) HT_ ?_; refine pu 1 41 (bq 3 15) HT_ ?_; refine pu 2 42 (bq 7 15) HT_ ?_; refine pu 3 43 (bq 15 15) HT_ ?_; refine pu 4 44 (bq 31 15) HT_ ?_; refine pu 5 45 (bq 63 15) HT_ ?_; refine pu 7 47 (bq 191 15) HT_ ?_
                                         refine pu 8 48 (bq 447 15) HT_ ?_; refine pu 9 49 (bq 959 15) HT_ ?_; refine pu 10 50 (bq 1983 15) HT_ ?_; refine tk 6 46 (bq 2047 15) HT_ HW_ hHeld ?_; refine tk 11 51 (bq 4095 15) HT_ HW_ hHeld ?_; refine pu 12 52 (bq 8191 15) HT_ ?_; refine pu 13 53 (bq 16383 15) HT_ ?_; refine last_ (i := 14) (N := none) (bq 32767 15) rfl rfl (one_of HT_.out (by kernel_rfl)) (by decide) (fun K hK => ?_); refine skip_ (w1 := ?_) (by rfl) rfl ?_ ?_; rotate_left; (go_simp; rfl); refine hK.out _ _ ?_; clear hK K; refine done_ (done_of HT_.out (by kernel_rfl)) ?_; (have n0_ : Aside0 (Kd.R (Kd.int .i64) 3 (w32.setCell ⟨go28, ((ji23) : Int).toNat, none⟩ (.int .i64 ji26)) w.heap.size (fun k_ => some k_ ≠ (.slice (some ⟨go28, 0, none⟩) x8_3.length q5 : Value).ownBlock) (.slice (some ad390) x5_2.length q7) x5_2) := ⟨by refine ra ?_; exact Kd.R_mono (Kd.R_far (p := ⟨go28, ((ji23) : Int).toNat, none⟩) (Kd.R_mono q1.out (fun k_ hk => (⟨hk, fun e_ => hk (by rw [e_]; rfl)⟩ : _ ∧ k_ ≠ go28))) (fun _ hk => hk.2) (.int .i64 ji26)) (fun _ hk => hk.1)⟩); (have n1_ : Aside0 (Kd.R (Kd.int .i64) 3 (w32.setCell ⟨go28, ((ji23) : Int).toNat, none⟩ (.int .i64 ji26)) w.heap.size (fun k_ => some k_ ≠ (.slice (some ad390) x5_2.length q7 : Value).ownBlock) (.slice (some ⟨go28, 0, none⟩) x8_3.length q5) y391) := ⟨by refine ra ?_; exact HQ35.out⟩)
                                         (have n2_ : Aside0 (Below w.heap.size w (w32.setCell ⟨go28, ((ji23) : Int).toNat, none⟩ (.int .i64 ji26))) := ⟨gz0_10⟩); ((try clear q1)); ((try clear q2)); ((try clear HB)); generalize (w32.setCell ⟨go28, ((ji23) : Int).toNat, none⟩ (.int .i64 ji26)) = w36 at n0_ n1_ n2_ ⊢; have q1 := n0_; have q2 := n1_; have HB := n2_; clear n0_ n1_ n2_; (have p392 : 0 ≤ (x35_3 : Int) := od); (have q392 : x35_3 < (x5_2.length : Int) := od); obtain ⟨ad392, e392, hx392_0⟩ := Kd.at_int (Kd.R_reads' q1.out).2.2 x35_3 p392 q392; obtain rfl : ad390 = ad392 := (by injection e392); replace p392 := eq_true p392; replace q392 := eq_true q392; (have p31 : 0 ≤ ((ji23) : Int) := od); (have q31 : ((ji23) : Int) < ((x8_3.length : Int) : Int) := od); replace p31 := eq_true p31; replace q31 := eq_true q31; obtain ⟨hy37_, hz37_⟩ := Kd.R_celln 0 q2.out ((ji23) : Int) (od) (od); have HP37 := Kd.R_putg q2.out ((ji23) : Int) (wrap64 ((rd x5_2 x35_3) + 1)); (try go_wp2_with (first | ((with_reducible refine gate_store (t := 3) (p := 65) rfl ?_); refine store_event (t := 3) (p := 65) (v := ?vo_w38) (w1 := (w36.setCell ⟨go28, ((ji23) : Int).toNat, none⟩ (.int .i64 (wrap64 ((rd x5_2 x35_3) + 1))))) ?hg ?ho ?hn ?hr ?_; (case ho => rfl); (case hg => rfl); (case hn => rfl); (case hr => first | (go_simp; done) | (go_simp; rfl)); intro w38 hw; have hg : w36.grownBy w38 (some go28) := (by rw [hw]; exact HP37.2); have hp_ : Kd.R (Kd.int .i64) 3 w38 w.heap.size (fun k_ => some k_ ≠ (.slice (some ad390) x5_2.length q7 : Value).ownBlock) (.slice (some ⟨go28, 0, none⟩) x8_3.length q5) y393 := (by rw [hw, Ny393.out]; exact HP37.1); clear HP37; replace q1 := q0_10 (Kd.R_after (v := (.slice (some ⟨go28, 0, none⟩) x8_3.length q5)) (v1 := (.slice (some ⟨go28, 0, none⟩) x8_3.length q5)) (ok := (fun _ => True)) (by refine ra ?_; exact Kd.R_mono q1.out (fun _ hk => ⟨trivial, hk⟩)) hg (.inl rfl)); replace q2 := q0_10 (hp_); replace HB := q0_10 ((by rw [hw]; exact below_set (HB.out) GB28.out : Below w.heap.size w w38)); clear hg hw hp_))); (go_roundg k3)
                                         case measure => have := HJ2.out; have := HK2.out; have := HK3.out; omega
                                         case rel => exact ⟨(y393), (ji23), (by first | rfl | (simp; done) | (simp only [← hji23] <;> (first | rfl | simp)) | (simp [*]; done)), (by first | exact H' | (have H2_ := H'; (try simp only [← hji14, ← hji23, ← hji26] at H2_); (try simp only [← hji14, ← hji23, ← hji26]); exact H2_)), ⟨by have := HJ2.out; have := HK2.out; have := HK3.out; omega⟩, ⟨by refine ra ?_; exact Kd.R_mono q1.out (fun _ hk => hk.2)⟩, ⟨by refine ra ?_; exact q2.out⟩, ⟨by exact (q4_10)⟩⟩
                                       · rw [if_neg c30] at H
                                         exact absurd H (by simp)
                                     · rw [if_neg c29] at H
                                       (have c29b0 : ((rd l0 x25_2) == (rd l1 x35_3)) = false := beq_eq_false_iff_ne.mpr c29); (have c29b1 : ((rd l0 x25_2) != (rd l1 x35_3)) = true := bne_iff_ne.mpr c29); (have H' := q0_10 H); clear H; (have p388 : 0 ≤ (x35_3 : Int) := od); (have q388 : x35_3 < (l1.length : Int) := od); obtain ⟨ad388, e388, hx388_0⟩ := Kd.at_int HR1.out x35_3 p388 q388
                                       cases e388
                                       replace hx388_0 := hxB HB hx388_0; replace p388 := eq_true p388; replace q388 := eq_true q388; (try go_wp2); replace q1 := q0_10 (Kd.R_drew q1.out); replace q2 := q0_10 (Kd.R_drew q2.out); replace HB := q0_10 (below_drew1 HB.out); obtain ⟨qd, qe, eo40⟩ := Kd.R_slice q2.out; ((first | subst eo40 | (injection eo40 with f1_ f2_ f3_; have f4_ := f1_.symm; have f5_ := f3_.symm; clear f1_ f2_ f3_; subst f4_; subst f5_))); (have p389 : 0 ≤ (x35_3 : Int) := od); (have q389 : x35_3 < (x8_3.length : Int) := od); obtain ⟨ad389, e389, hx389_0⟩ := Kd.at_int (Kd.R_reads' q2.out).2.2 x35_3 p389 q389
                                       cases e389
                                       replace p389 := eq_true p389; replace q389 := eq_true q389; obtain ⟨qf, qg, eo41⟩ := Kd.R_slice q1.out; ((first | subst eo41 | (injection eo41 with f1_ f2_ f3_; have f4_ := f1_.symm; have f5_ := f3_.symm; clear f1_ f2_ f3_; subst f4_; subst f5_))); (have p390 : 0 ≤ ((ji23) : Int) := od); (have q390 : (ji23) < (x5_2.length : Int) := od); obtain ⟨ad390, e390, hx390_0⟩ := Kd.at_int (Kd.R_reads' q1.out).2.2 (ji23) p390 q390
                                       cases e390
                                       replace p390 := eq_true p390; replace q390 := eq_true q390; (have p28 : 0 ≤ ((ji23) : Int) := od); (have q28 : ((ji23) : Int) < ((x8_3.length : Int) : Int) := od); obtain ⟨go28, qa, eo28, q6, gl28, cl28, HG28⟩ := Kd.R_form q2.out (by omega); ((first | cases eo28 | (injection eo28 with ea_ en_ ec_; (first | subst ea_ | (injection ea_ with ea_; subst ea_)); subst ec_; clear en_))); have GB28 := q0_10 q6; have GG28 := q0_10 HG28; clear q6 gl28 HG28; ((first | simp only [add_plain] at hx389_0 | skip)); obtain ⟨hx28_0, hf28_0⟩ := Kd.R_celln 0 q2.out ((ji23) : Int) p28 q28; replace p28 := eq_true p28; replace q28 := eq_true q28; have HP42 := Kd.R_putn q2.out ((ji23) : Int) ji26; rw [← Ny391.out] at HP42; have HQ42 := q0_10 HP42; clear HP42; refine start_ (n := 15) (S := fun w' => w'.cell? ⟨go28, (x35_3).toNat, none⟩ = some (.int .i64 (rd x8_3 x35_3)) ∧ w'.cell? (ad390.add ((ji23)).toNat) = some (.int .i64 (rd x5_2 (ji23)))) (ds := [14]) (bq 0 15) (by kernel_rfl) rfl rfl ⟨hx389_0, hx390_0⟩ (fun hHeld => ?_); refine with_tabW impl_CommonLength.tab11 impl_CommonLength.bits11 (fun HT_ HW_ => ?_); generalize wr.drew = w39 at q1 q2 HB GG28 HQ42 hf28_0 hx28_0 hx389_0 hx390_0 hHeld ⊢; refine pu 0 40 (bq 1 15) HT_ ?_; refine pu 1 41 (bq 3 15) HT_ ?_; refine pu 2 42 (bq 7 15) HT_ ?_; refine pu 3 43 (bq 15 15) HT_ ?_; refine pu 4 44 (bq 31 15) HT_ ?_; refine pu 5 45 (bq 63 15) HT_ ?_; refine pu 7 47 (bq 191 15) HT_ ?_
                                       refine pu 8 48 (bq 447 15) HT_ ?_; refine pu 9 49 (bq 959 15) HT_ ?_; refine pu 10 50 (bq 1983 15) HT_ ?_; refine tk 6 46 (bq 2047 15) HT_ HW_ hHeld ?_; refine tk 11 51 (bq 4095 15) HT_ HW_ hHeld ?_; refine pu 12 52 (bq 8191 15) HT_ ?_; refine pu 13 53 (bq 16383 15) HT_ ?_; refine last_ (i := 14) (N := none) (bq 32767 15) rfl rfl (one_of HT_.out (by kernel_rfl)) (by decide) (fun K hK => ?_); refine skip_ (w1 := ?_) (by rfl) rfl ?_ ?_; rotate_left; (go_simp; rfl); refine hK.out _ _ ?_; clear hK K; refine done_ (done_of HT_.out (by kernel_rfl)) ?_; (try go_wp2); (go_roundg k3)
                                       case measure => have := HJ2.out; have := HK2.out; have := HK3.out; omega
                                       case rel => exact ⟨(y391), (ji23), (by first | rfl | (simp; done) | (simp only [← hji23] <;> (first | rfl | simp)) | (simp [*]; done)), (by first | exact H' | (have H2_ := H'; (try simp only [← hji14, ← hji23, ← hji26] at H2_); (try simp only [← hji14, ← hji23, ← hji26]); exact H2_)), ⟨by have := HJ2.out; have := HK2.out; have := HK3.out; omega⟩, ⟨by refine ra ?_; exact Kd.R_mono (Kd.R_far (p := ⟨go28, ((ji23) : Int).toNat, none⟩) (Kd.R_mono q1.out (fun k_ hk => (⟨hk, fun e_ => hk (by rw [e_]; rfl)⟩ : _ ∧ k_ ≠ go28))) (fun _ hk => hk.2) (.int .i64 ji26)) (fun _ hk => hk.1)⟩, ⟨by refine ra ?_; exact HQ42.out⟩, ⟨gz0_10⟩⟩
                                   · rw [if_neg c27] at H
                                     exact absurd H (by simp)
                                 · rw [if_neg c25] at H
                                   exact absurd H (by simp)
                               · rw [if_neg c24] at H
                                 exact absurd H (by simp)
                             · rw [if_neg c22] at H
                               exact absurd H (by simp)
                           · rw [if_neg c21] at H
                             exact absurd H (by simp)
                         · rw [if_neg c20] at H
                           exact absurd H (by simp)
                       · rw [if_neg c19] at H
                         (have c19b0 : decide (x35_3 < (l1.length : Int)) = false := decide_eq_false c19); clear c19; (have H' := q0_10 H); clear H; (go_wp2); (go_roundg k3)
                         case measure => have := HJ2.out; have := HK2.out; have := HK3.out; omega
                         case rel => exact ⟨(x8_3), (wrap64 (x25_2 + 1)), (by first | rfl | (simp; done) | (simp [*]; done)), (by first | exact H' | (have H2_ := H'; (try simp only [← hji14] at H2_); (try simp only [← hji14]); exact H2_)), ⟨by have := HJ2.out; have := HK2.out; have := HK3.out; omega⟩, ⟨by refine ra ?_; exact Kd.R_mono q2.out (fun _ hk => trivial)⟩, ⟨by exact (q4_10)⟩⟩
                   · rw [if_neg c16] at H
                     exact absurd H (by simp)
                 · rw [if_neg c15] at H
                   exact absurd H (by simp)
               · rw [if_neg c13] at H
                 exact absurd H (by simp)
             · rw [if_neg c12] at H
               exact absurd H (by simp)
           · rw [if_neg c11] at H
             (have c11b0 : decide (x25_2 < (l0.length : Int)) = false := decide_eq_false c11); clear c11
             by_cases c43 : 0 ≤ (l1.length : Int)
             · rw [if_pos c43] at H
               (have c43b0 : decide (0 ≤ (l1.length : Int)) = true := decide_eq_true c43); (have c43b1 : decide (0 ≤ l1.length) = true := decide_eq_true (by omega)); clear c43
               by_cases c44 : (l1.length : Int) < (x5_2.length : Int)
               · rw [if_pos c44] at H
                 (have c44b0 : decide ((l1.length : Int) < (x5_2.length : Int)) = true := decide_eq_true c44); (have c44b1 : decide (l1.length < x5_2.length) = true := decide_eq_true (Int.ofNat_lt.mp c44)); clear c44; obtain rfl := Option.some.inj H; obtain ⟨qh, qi, eo45⟩ := Kd.R_slice q1.out; subst eo45; (have p383 : 0 ≤ ((l1.length : Int) : Int) := od); (have q383 : (l1.length : Int) < (x5_2.length : Int) := od); obtain ⟨ad383, e383, hx383_0⟩ := Kd.at_int (Kd.R_reads' q1.out).2.2 (l1.length : Int) p383 q383
                 cases e383
                 ((try simp only [Go.IntWalk.toNatUp] at hx383_0)); replace p383 := eq_true p383; replace q383 := eq_true q383; (go_wp2); go_ret; (exact ⟨by first | rfl | (simp [errW_none, errW_some] <;> rfl) | (simp only [← hji6]; first | rfl | (simp [errW_none, errW_some] <;> rfl)) | (simp [*, errW_none, errW_some] <;> rfl), by exact (q4_10)⟩)
               · rw [if_neg c44] at H
                 exact absurd H (by simp)
             · rw [if_neg c43] at H
               exact absurd H (by simp)
       · rw [if_neg c8] at H
         exact absurd H (by simp)
     · rw [if_neg c7] at H
       exact absurd H (by simp)
end Go.Proofs.Ytcgkmcnfhobkiaa.PFnAligned
