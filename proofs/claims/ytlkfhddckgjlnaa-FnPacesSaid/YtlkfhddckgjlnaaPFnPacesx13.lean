-- Written for this claim by a program of this repository (wip/tools/print2.py), out of the translation; Lean checks it.
import Derived.Test.YtlkfhddckgjlnaaPFnPacesx0
import Derived.Test.YtlkfhddckgjlnaaPFnPacesx2
import Derived.Test.YtlkfhddckgjlnaaPFnPacesx3
import Derived.Test.YtlkfhddckgjlnaaPFnPacesx5
namespace Go.Proofs.Ytlkfhddckgjlnaa.PFnPaces
open Go.RowKit Go.Proofs.YtlkfhddckgjlnaaW.PrintWords Go.Proofs.YtlkfhddckgjlnaaW.PrintLast Go.Proofs.YtlkfhddckgjlnaaW.PrintMore
attribute [local go_sem] max2_int min2_int max_two min_two max_three min_three max_four min_four   -- for this text's walks alone
set_option linter.unusedVariables false
set_option linter.unusedSimpArgs false
-- SHORT
theorem qd_13 {p : Prop} (f : p := by repeat (first | (with_reducible first | exact HB.out | apply below_alloc | apply pw_below_drewN | apply below_drew1) | exact HB.out)) : p := f
theorem q8_13 {p : Prop} (f : p := by repeat (first | (with_reducible first | exact HB.out | apply below_alloc | apply pw_below_drewN | apply below_drew1 | refine below_set ?_ qm.out) | exact HB.out)) : p := f
theorem qh_13 {p : Prop} (f : p := by repeat (first | (with_reducible first | exact HB.out | apply below_alloc | apply pw_below_drewN | apply below_drew1 | refine below_set ?_ qn.out) | exact HB.out)) : p := f
theorem qe_13 {p : Prop} (f : p := by repeat (first | (with_reducible first | exact HB.out | apply below_alloc | apply pw_below_drewN | apply below_drew1 | refine below_set ?_ qm.out | refine below_set ?_ ql.out) | exact HB.out)) : p := f
theorem q0_13 {p : Prop} (h : p) : Aside0 p := ⟨h⟩
/-! ### impl_IsSteady: function 13 -/
mutual
def impl_IsSteady.j0 : Nat → List (S35) → Int → Bool → Option (Bool)
 | 0, _, _, _ => none
 | k + 1, x0, x1, x18 => if x18 = true then (some false) else (impl_IsSteady.l0 k x0 x1 (([] : List (S35))) 1)
def impl_IsSteady.l0 : Nat → List (S35) → Int → List (S35) → Int → Option (Bool)
 | 0, _, _, _, _ => none
 | k + 1, x0, x1, x5, x6 => if x6 < (x0.length : Int) then (if 0 ≤ x6 then (if 0 ≤ (wrap64 (x6 - 1)) then (if (wrap64 (x6 - 1)) < (x0.length : Int) then (if x5.length < 8796093022208 then (impl_IsSteady.l0 k x0 x1 (x5 ++ [(⟨wrap64 (((rd_T35 x0 x6).f0) - ((rd_T35 x0 (wrap64 (x6 - 1))).f0)), wrap64 (((rd_T35 x0 x6).f1) - ((rd_T35 x0 (wrap64 (x6 - 1))).f1))⟩ : S35)]) (wrap64 (x6 + 1))) else (none)) else (none)) else (none)) else (none)) else (impl_IsSteady.l1 k x1 x5 x5 (x5.length : Int) 0)
def impl_IsSteady.l1 : Nat → Int → List (S35) → List (S35) → Int → Int → Option (Bool)
 | 0, _, _, _, _, _ => none
 | k + 1, x1, x5, x54, x55, x56 => if x56 < x55 then (if 0 ≤ x56 then (if x56 < (x54.length : Int) then (impl_IsSteady.l2 k x1 x5 x54 x55 x56 x5 (x5.length : Int) 0 ((rd_T35 x54 x56).f0) ((rd_T35 x54 x56).f1)) else (none)) else (none)) else (some true)
def impl_IsSteady.l2 : Nat → Int → List (S35) → List (S35) → Int → Int → List (S35) → Int → Int → Int → Int → Option (Bool)
 | 0, _, _, _, _, _, _, _, _, _, _ => none
 | k + 1, x1, x5, x54, x55, x56, x60, x61, x62, x363000, x363001 => if x62 < x61 then (if 0 ≤ x62 then (if x62 < (x60.length : Int) then (if (wrap64 ((wrap64 (100 * x363001)) * ((rd_T35 x60 x62).f0))) > (wrap64 ((wrap64 ((wrap64 (100 + x1)) * ((rd_T35 x60 x62).f1))) * x363000)) then (some false) else (impl_IsSteady.l2 k x1 x5 x54 x55 x56 x60 x61 (wrap64 (x62 + 1)) x363000 x363001)) else (none)) else (none)) else (impl_IsSteady.l1 k x1 x5 x54 x55 (wrap64 (x56 + 1)))
end
def impl_IsSteady.f (k : Nat) (l0 : List (S35)) (a1 : Int) : Option (Bool) := (impl_ArePoints.f k l0).bind fun t349 => (if t349 = true then ((impl_InRange.f a1 0 1000).bind fun t350 => (impl_IsSteady.j0 k l0 a1 (!t350))) else (impl_IsSteady.j0 k l0 a1 true))
theorem impl_IsSteady.mono_l : ∀ k, (∀ y0 y1 y2, LeO (impl_IsSteady.j0 k y0 y1 y2) (impl_IsSteady.j0 (k + 1) y0 y1 y2)) ∧ (∀ y0 y1 y2 y3, LeO (impl_IsSteady.l0 k y0 y1 y2 y3) (impl_IsSteady.l0 (k + 1) y0 y1 y2 y3)) ∧ (∀ y0 y1 y2 y3 y4, LeO (impl_IsSteady.l1 k y0 y1 y2 y3 y4) (impl_IsSteady.l1 (k + 1) y0 y1 y2 y3 y4)) ∧ (∀ y0 y1 y2 y3 y4 y5 y6 y7 y8 y9, LeO (impl_IsSteady.l2 k y0 y1 y2 y3 y4 y5 y6 y7 y8 y9) (impl_IsSteady.l2 (k + 1) y0 y1 y2 y3 y4 y5 y6 y7 y8 y9))
 | 0 => ⟨fun _ _ _ r h => by simp [impl_IsSteady.j0] at h, fun _ _ _ _ r h => by simp [impl_IsSteady.l0] at h, fun _ _ _ _ _ r h => by simp [impl_IsSteady.l1] at h, fun _ _ _ _ _ _ _ _ _ _ r h => by simp [impl_IsSteady.l2] at h⟩
 | k + 1 => by
  obtain ⟨ih0, ih1, ih2, ih3⟩ := impl_IsSteady.mono_l k; refine ⟨?_, ?_, ?_, ?_⟩
  · intro y0 y1 y2
    unfold impl_IsSteady.j0
    repeat' first
    | (with_reducible exact ih0 _ _ _)
    | (with_reducible exact ih1 _ _ _ _)
    | (with_reducible exact ih2 _ _ _ _ _)
    | (with_reducible exact ih3 _ _ _ _ _ _ _ _ _ _)
    | (with_reducible exact impl_ArePoints.mono _ _)
    | (with_reducible exact LeO.refl _)
    | (with_reducible exact LeO.none _)
    | (with_reducible refine LeO.ite ?_ ?_)
    | (with_reducible refine LeO.bind ?_ (fun _ => ?_))
    | exact ih0 _ _ _
    | exact ih1 _ _ _ _
    | exact ih2 _ _ _ _ _
    | exact ih3 _ _ _ _ _ _ _ _ _ _
    | exact impl_ArePoints.mono _ _
    | exact LeO.none _
    | refine LeO.ite ?_ ?_
    | refine LeO.bind ?_ (fun _ => ?_)
  · intro y0 y1 y2 y3
    unfold impl_IsSteady.l0
    repeat' first
    | (with_reducible exact ih0 _ _ _)
    | (with_reducible exact ih1 _ _ _ _)
    | (with_reducible exact ih2 _ _ _ _ _)
    | (with_reducible exact ih3 _ _ _ _ _ _ _ _ _ _)
    | (with_reducible exact impl_ArePoints.mono _ _)
    | (with_reducible exact LeO.refl _)
    | (with_reducible exact LeO.none _)
    | (with_reducible refine LeO.ite ?_ ?_)
    | (with_reducible refine LeO.bind ?_ (fun _ => ?_))
    | exact ih0 _ _ _
    | exact ih1 _ _ _ _
    | exact ih2 _ _ _ _ _
    | exact ih3 _ _ _ _ _ _ _ _ _ _
    | exact impl_ArePoints.mono _ _
    | exact LeO.none _
    | refine LeO.ite ?_ ?_
    | refine LeO.bind ?_ (fun _ => ?_)
  · intro y0 y1 y2 y3 y4
    unfold impl_IsSteady.l1
    repeat' first
    | (with_reducible exact ih0 _ _ _)
    | (with_reducible exact ih1 _ _ _ _)
    | (with_reducible exact ih2 _ _ _ _ _)
    | (with_reducible exact ih3 _ _ _ _ _ _ _ _ _ _)
    | (with_reducible exact impl_ArePoints.mono _ _)
    | (with_reducible exact LeO.refl _)
    | (with_reducible exact LeO.none _)
    | (with_reducible refine LeO.ite ?_ ?_)
    | (with_reducible refine LeO.bind ?_ (fun _ => ?_))
    | exact ih0 _ _ _
    | exact ih1 _ _ _ _
    | exact ih2 _ _ _ _ _
    | exact ih3 _ _ _ _ _ _ _ _ _ _
    | exact impl_ArePoints.mono _ _
    | exact LeO.none _
    | refine LeO.ite ?_ ?_
    | refine LeO.bind ?_ (fun _ => ?_)
  · intro y0 y1 y2 y3 y4 y5 y6 y7 y8 y9
    unfold impl_IsSteady.l2
    repeat' first
    | (with_reducible exact ih0 _ _ _)
    | (with_reducible exact ih1 _ _ _ _)
    | (with_reducible exact ih2 _ _ _ _ _)
    | (with_reducible exact ih3 _ _ _ _ _ _ _ _ _ _)
    | (with_reducible exact impl_ArePoints.mono _ _)
    | (with_reducible exact LeO.refl _)
    | (with_reducible exact LeO.none _)
    | (with_reducible refine LeO.ite ?_ ?_)
    | (with_reducible refine LeO.bind ?_ (fun _ => ?_))
    | exact ih0 _ _ _
    | exact ih1 _ _ _ _
    | exact ih2 _ _ _ _ _
    | exact ih3 _ _ _ _ _ _ _ _ _ _
    | exact impl_ArePoints.mono _ _
    | exact LeO.none _
    | refine LeO.ite ?_ ?_
    | refine LeO.bind ?_ (fun _ => ?_)
theorem impl_IsSteady.mono : ∀ a0 a1 k, LeO (impl_IsSteady.f k a0 a1) (impl_IsSteady.f (k + 1) a0 a1) := by
 intro a0 a1 k; obtain ⟨ih0, ih1, ih2, ih3⟩ := impl_IsSteady.mono_l k; unfold impl_IsSteady.f
 repeat' first
  | (with_reducible exact ih0 _ _ _)
  | (with_reducible exact ih1 _ _ _ _)
  | (with_reducible exact ih2 _ _ _ _ _)
  | (with_reducible exact ih3 _ _ _ _ _ _ _ _ _ _)
  | (with_reducible exact impl_ArePoints.mono _ _)
  | (with_reducible exact LeO.refl _)
  | (with_reducible exact LeO.none _)
  | (with_reducible refine LeO.ite ?_ ?_)
  | (with_reducible refine LeO.bind ?_ (fun _ => ?_))
  | exact ih0 _ _ _
  | exact ih1 _ _ _ _
  | exact ih2 _ _ _ _ _
  | exact ih3 _ _ _ _ _ _ _ _ _ _
  | exact impl_ArePoints.mono _ _
  | exact LeO.none _
  | refine LeO.ite ?_ ?_
  | refine LeO.bind ?_ (fun _ => ?_)
def impl_IsSteady.T7 : Bool × List (List Nat × List Nat) := (true, [([], []), ([], []), ([], []), ([1, 2], [1, 2]), ([3], [3]), ([4], [4]), ([], []), ([], []), ([7], [7]), ([6, 8], [6, 8]), ([9], [9]), ([10], [10]), ([5, 11], [5, 11]), ([], []), ([], []), ([13, 14], [13, 14]), ([15], [15]), ([16], [16]), ([], []), ([], []), ([19], [19]), ([18, 20], [18, 20]), ([21], [21]), ([22], [22]), ([17, 23], [17, 23]), ([12, 24], [12, 24]), ([25], [25]), ([0, 26], [0, 26]), ([27, 27, 0, 1, 2, 3, 4, 5, 6, 7, 8, 9, 10, 11, 12, 13, 14, 15, 16, 17, 18, 19, 20, 21, 22, 23, 24, 25, 26, 27], [0, 27])])
def impl_IsSteady.B7 : List Nat := [0, 0, 0, 6, 14, 30, 0, 0, 128, 448, 960, 1984, 4094, 0, 0, 24576, 57344, 122880, 0, 0, 524288, 1835008, 3932160, 8126464, 16769024, 33554430, 67108862, 134217727, 268435455]
theorem impl_IsSteady.tab7 : rtab .any (opsOf Try.f13 7) = impl_IsSteady.T7 := by kernel_rfl
theorem impl_IsSteady.bits7 : waitsOk impl_IsSteady.T7.2 impl_IsSteady.B7 = true := by kernel_rfl
set_option maxHeartbeats 8000000 in
set_option maxRecDepth 100000 in
theorem impl_IsSteady.calls (k : Nat) (A0 : Option Addr) (c0 : Nat) (l0 : List (S35)) (a1 : Int) (r : Bool) (w : World) (hr0 : Kd.C k35 w A0 l0.length l0) (hc0 : l0.length ≤ c0) (h : impl_IsSteady.f k l0 a1 = some r) :
 Calls Try.prog 13 #[.slice A0 l0.length c0, .int .i64 a1] w fun e w' => e = .returned (.bool r) ∧ Below w.heap.size w w' := by
 have hu35 := Try.underlying35; have HR0 := q0_13 hr0; have HC0 := q0_13 hc0; clear hr0 hc0; have HB := q0_13 (Below.refl w.heap.size w); (have H : ((impl_ArePoints.f k l0).bind fun t349 => (if t349 = true then ((impl_InRange.f a1 0 1000).bind fun t350 => (impl_IsSteady.j0 k l0 a1 (!t350))) else (impl_IsSteady.j0 k l0 a1 true))) = some r := h); clear h; have HC3 := q0_13 H; clear H; go_enter Try.func13, Try.ntmps13; (go_upto_region 1 with (fail)); (go_cut [18] (fun v18 wc => ∃ (kq : Nat) (x18_2 : Bool), v18 = .bool x18_2 ∧ Aside0 (impl_IsSteady.j0 kq l0 a1 x18_2 = some r) ∧ Aside0 (kq ≤ k) ∧ Aside0 (Below w.heap.size w wc)))
 case first =>
  have H := HC3.out; clear HC3; replace H := Option.bind_eq_some_iff.mp H; obtain ⟨t349, A40, H⟩ := H; replace H : (if t349 = true then ((impl_InRange.f a1 0 1000).bind fun t350 => (impl_IsSteady.j0 k l0 a1 (!t350))) else (impl_IsSteady.j0 k l0 a1 true)) = some r := H; have A4 := q0_13 A40; clear A40
  by_cases c5 : t349 = true
  · subst c5
    have H1 : ((impl_InRange.f a1 0 1000).bind fun t350 => (impl_IsSteady.j0 k l0 a1 (!t350))) = some r := by rw [if_pos rfl] at H; exact H
    clear H; have H := H1; clear H1; replace H := Option.bind_eq_some_iff.mp H; obtain ⟨t350, A60, H⟩ := H; replace H : (impl_IsSteady.j0 k l0 a1 (!t350)) = some r := H; have A6 := q0_13 A60; clear A60; (have H' := q0_13 H); clear H; (go_wp2_with (first | ((with_reducible refine gate_callee (f := 14) rfl ?_); refine goesL_ (some 12) rfl rfl Try.func14 (by kernel_rfl) rfl #[.slice A0 l0.length c0] rfl ma ?_; (with_reducible refine (impl_ArePoints.calls k _ _ l0 true _ ?side1 ?side2 A4.out).mono ?_); (case side1 => exact ca (Kd.C_below HR0.out HB.out)); (case side2 => exact HC0.out); rintro e w7 ⟨rfl, hb⟩; refine ⟨_, rfl, ?_⟩; have n0_ := q0_13 (below_step (qd_13) hb); clear HB; have HB := n0_; clear n0_; (try clear hb); (try clear hb2); (try clear hk); (try clear hi)) | (go_at_call 36; (with_reducible refine (impl_InRange.calls a1 0 1000 t350 _ A6.out).mono ?_); rintro e w' ⟨rfl, ⟨nd, rfl⟩⟩))); (go_meet)
    case rel => exact ⟨_, (!t350), (by first | rfl | (simp; done) | (simp [*]; done)), H', ⟨by first | omega | exact Nat.le_refl _⟩, ⟨by exact (qd_13)⟩⟩
  · replace c5 := Bool.eq_false_iff.mpr c5
    subst c5; (have H1 : (impl_IsSteady.j0 k l0 a1 true) = some r := by rw [if_neg (show ¬ (false = true) by decide)] at H; exact H); clear H; have H := H1; clear H1; (have H' := q0_13 H); clear H; (go_wp2_with (first | ((with_reducible refine gate_callee (f := 14) rfl ?_); refine goesL_ (some 12) rfl rfl Try.func14 (by kernel_rfl) rfl #[.slice A0 l0.length c0] rfl ma ?_; (with_reducible refine (impl_ArePoints.calls k _ _ l0 false _ ?side1 ?side2 A4.out).mono ?_); (case side1 => exact ca (Kd.C_below HR0.out HB.out)); (case side2 => exact HC0.out); rintro e w8 ⟨rfl, hb⟩; refine ⟨_, rfl, ?_⟩; have n0_ := q0_13 (below_step (qd_13) hb); clear HB; have HB := n0_; clear n0_; (try clear hb); (try clear hb2); (try clear hk); (try clear hi)))); (go_meet)
    case rel => exact ⟨_, (true), (by first | rfl | (simp; done) | (simp [*]; done)), H', ⟨by first | omega | exact Nat.le_refl _⟩, ⟨by exact (qd_13)⟩⟩
 case rest =>
  clear HC3; (try clear c1); (try clear p2); (try clear c5); obtain ⟨kq, x18_2, rfl, HA, HJ2, HB⟩ := hcut
  cases kq with
  | zero => exact absurd HA.out (by simp [impl_IsSteady.j0])
  | succ kj2 =>
   have H := HA.out; clear HA; (simp only [impl_IsSteady.j0] at H)
   by_cases c9 : x18_2 = true
   · subst c9
     have H1 : (some false) = some r := by rw [if_pos rfl] at H; exact H
     clear H; have H := H1; clear H1; obtain rfl := Option.some.inj H; (go_wp2); go_ret; (exact ⟨by first | rfl | (simp [errW_none, errW_some] <;> rfl) | (simp [*, errW_none, errW_some] <;> rfl), by exact (qd_13)⟩)
   · replace c9 := Bool.eq_false_iff.mpr c9
     subst c9; (have H1 : (impl_IsSteady.l0 kj2 l0 a1 (([] : List (S35))) 1) = some r := by rw [if_neg (show ¬ (false = true) by decide)] at H; exact H); clear H; have H := H1; clear H1; obtain ⟨y351, hy351⟩ : ∃ y_ : List (S35), y_ = (([] : List (S35))) := ⟨_, rfl⟩; (replace H : (impl_IsSteady.l0 kj2 l0 a1 y351 1) = some r := by first | (rw [hy351]; with_reducible exact H) | (have H2_ := (Option.bind_some _ _).symm.trans H; rw [hy351]; with_reducible exact H2_) | (have H2_ := (Option.bind_some _ _).symm.trans H; with_reducible exact H2_) | with_reducible exact H | (rw [hy351]; exact H) | exact H); have Ny351 := q0_13 hy351; clear hy351; (have H' := q0_13 H); clear H; (go_wp2_with (first | ((with_reducible refine gate_dst (N := 19) rfl ?_); refine Kd.R_lit k35 _ 35 ?hg (N := 19) ?hd (xs := ([] : List (S35))) (inner := []) (ok := fun _ => True) (okp := fun _ => True) ?hr ?hp (fun _ hk => hk) trivial (Below.refl _ _) (Nat.le_refl _) (by simp) ?_; (case hd => rfl); (case hg => rfl); (case hr => first | (go_simp; done) | (go_simp; rfl)); (case hp => exact (Reps.none _ _)); intro v352 w10 ho11 hb hg_ hnew_; clear hg_ hnew_; (first | rw [← Ny351.out] at ho11 | (simp only [Int.reduceToNat] at ho11; rw [← Ny351.out] at ho11)); have n0_ := q0_13 (Kd.R_lower ho11 (below_size (qd_13))); have n1_ := q0_13 (below_step (qd_13) hb); clear HB; have qi := n0_; have HB := n1_; clear n0_ n1_; clear hb ho11))); (go_loopg [5, 6] kj2 (fun kq v5 v6 w' => ∃ (x5_2 : List (S35)) (x6_2 : Int), v6 = .int .i64 x6_2 ∧ Aside0 (impl_IsSteady.l0 kq l0 a1 x5_2 x6_2 = some r) ∧ Aside0 (kq ≤ kj2) ∧ Aside0 (Kd.R k35 35 w' w.heap.size (fun _ => True) v5 x5_2) ∧ Aside0 (Below w.heap.size w w')))
     case atStart => exact ⟨(y351), (1), (by first | rfl | (simp; done) | (simp [*]; done)), H', ⟨Nat.le_refl _⟩, ⟨by refine ra ?_; exact qi.out⟩, ⟨by exact (qd_13)⟩⟩
     case round =>
      clear H'; (try clear c1); (try clear p2); (try clear c5); (try clear c9); (try clear p2); obtain ⟨x5_2, x6_2, rfl, HA, HK2, q5, HB⟩ := hrel
      cases gk with
      | zero => exact absurd HA.out (by simp [impl_IsSteady.l0])
      | succ k2 =>
       have H := HA.out; clear HA; (simp only [impl_IsSteady.l0] at H)
       by_cases c12 : x6_2 < (l0.length : Int)
       · rw [if_pos c12] at H
         (have c12b0 : decide (x6_2 < (l0.length : Int)) = true := decide_eq_true c12); clear c12
         by_cases c13 : 0 ≤ x6_2
         · rw [if_pos c13] at H
           (have c13b0 : decide (0 ≤ x6_2) = true := decide_eq_true c13); clear c13; obtain ⟨ji14, hji14⟩ : ∃ j_ : Int, (wrap64 (x6_2 - 1)) = j_ := ⟨_, rfl⟩; (replace H : (if 0 ≤ (ji14) then (if (ji14) < (l0.length : Int) then (if x5_2.length < 8796093022208 then (impl_IsSteady.l0 k2 l0 a1 (x5_2 ++ [(⟨wrap64 (((rd_T35 l0 x6_2).f0) - ((rd_T35 l0 (ji14)).f0)), wrap64 (((rd_T35 l0 x6_2).f1) - ((rd_T35 l0 (ji14)).f1))⟩ : S35)]) (wrap64 (x6_2 + 1))) else (none)) else (none)) else (none)) = some r := by first | (rw [hji14] at H; exact H) | (simp only [hji14] at H ⊢; exact H)); (have hji14w : (IntKind.i64.wrap (x6_2 - 1)) = ji14 := (i64_w _).trans hji14)
           by_cases c15 : 0 ≤ (ji14)
           · rw [if_pos c15] at H
             (have c15b0 : decide (0 ≤ (ji14)) = true := decide_eq_true c15); clear c15
             by_cases c16 : (ji14) < (l0.length : Int)
             · rw [if_pos c16] at H
               (have c16b0 : decide ((ji14) < (l0.length : Int)) = true := decide_eq_true c16); clear c16
               by_cases c17 : x5_2.length < 8796093022208
               · rw [if_pos c17] at H
                 have LMc17 := q0_13 c17; clear c17; obtain ⟨y358, hy358⟩ : ∃ y_ : List (S35), y_ = (x5_2 ++ [(⟨wrap64 (((rd_T35 l0 x6_2).f0) - ((rd_T35 l0 (ji14)).f0)), wrap64 (((rd_T35 l0 x6_2).f1) - ((rd_T35 l0 (ji14)).f1))⟩ : S35)]) := ⟨_, rfl⟩; (replace H : (impl_IsSteady.l0 k2 l0 a1 y358 (wrap64 (x6_2 + 1))) = some r := by first | (rw [hy358]; with_reducible exact H) | (have H2_ := (Option.bind_some _ _).symm.trans H; rw [hy358]; with_reducible exact H2_) | (have H2_ := (Option.bind_some _ _).symm.trans H; with_reducible exact H2_) | with_reducible exact H | (rw [hy358]; exact H) | exact H); have Ny358 := q0_13 hy358; clear hy358; (have H' := q0_13 H); clear H; (try go_wp2); have n0_ := q0_13 (Kd.R_drew q5.out); have n1_ := q0_13 (below_drew1 HB.out); clear q5 HB; have q5 := n0_; have HB := n1_; clear n0_ n1_; (have p354 : 0 ≤ (x6_2 : Int) := of_decide_eq_true (by first | (with_reducible assumption) | assumption)); (have q354 : x6_2 < (l0.length : Int) := of_decide_eq_true (by first | (with_reducible assumption) | assumption)); obtain ⟨ad354, e354, hx354_0, hx354_1⟩ := at_T35 HR0.out x6_2 p354 q354; have hw354_1 := hx354_1; have hw354_0 := hx354_0
                 cases e354
                 replace hx354_0 := (HB.out.cell (World.block_lt_of_cell? w _ hx354_0)).trans hx354_0; replace hx354_1 := (HB.out.cell (World.block_lt_of_cell? w _ hx354_1)).trans hx354_1; replace p354 := eq_true p354; replace q354 := eq_true q354; (have p355 : 0 ≤ ((ji14) : Int) := of_decide_eq_true (by first | (with_reducible assumption) | assumption)); (have q355 : (ji14) < (l0.length : Int) := of_decide_eq_true (by first | (with_reducible assumption) | assumption)); obtain ⟨ad355, e355, hx355_0, hx355_1⟩ := at_T35 HR0.out (ji14) p355 q355; have hw355_1 := hx355_1; have hw355_0 := hx355_0; obtain rfl : ad354 = ad355 := (by injection e355); replace hx355_0 := (HB.out.cell (World.block_lt_of_cell? w _ hx355_0)).trans hx355_0; replace hx355_1 := (HB.out.cell (World.block_lt_of_cell? w _ hx355_1)).trans hx355_1; replace p355 := eq_true p355; replace q355 := eq_true q355; (have p356 : 0 ≤ (x6_2 : Int) := of_decide_eq_true (by first | (with_reducible assumption) | assumption)); (have q356 : x6_2 < (l0.length : Int) := of_decide_eq_true (by first | (with_reducible assumption) | assumption)); obtain ⟨ad356, e356, hx356_0, hx356_1⟩ := at_T35 HR0.out x6_2 p356 q356; have hw356_1 := hx356_1; have hw356_0 := hx356_0; obtain rfl : ad354 = ad356 := (by injection e356); replace hx356_0 := (HB.out.cell (World.block_lt_of_cell? w _ hx356_0)).trans hx356_0; replace hx356_1 := (HB.out.cell (World.block_lt_of_cell? w _ hx356_1)).trans hx356_1; replace p356 := eq_true p356; replace q356 := eq_true q356; (have p357 : 0 ≤ ((ji14) : Int) := of_decide_eq_true (by first | (with_reducible assumption) | assumption)); (have q357 : (ji14) < (l0.length : Int) := of_decide_eq_true (by first | (with_reducible assumption) | assumption)); obtain ⟨ad357, e357, hx357_0, hx357_1⟩ := at_T35 HR0.out (ji14) p357 q357; have hw357_1 := hx357_1; have hw357_0 := hx357_0; obtain rfl : ad354 = ad357 := (by injection e357); replace hx357_0 := (HB.out.cell (World.block_lt_of_cell? w _ hx357_0)).trans hx357_0; replace hx357_1 := (HB.out.cell (World.block_lt_of_cell? w _ hx357_1)).trans hx357_1; replace p357 := eq_true p357; replace q357 := eq_true q357
                 refine start_ (n := 29) (S := fun w' => w'.cell? (ad354.add ((x6_2).toNat * 2)) = some (.int .i64 ((rd_T35 l0 x6_2).f0)) ∧ w'.cell? ⟨(ad354.add ((x6_2).toNat * 2)).block, (ad354.add ((x6_2).toNat * 2)).off + 1, none⟩ = some (.int .i64 ((rd_T35 l0 x6_2).f1)) ∧ w'.cell? (ad354.add (((ji14)).toNat * 2)) = some (.int .i64 ((rd_T35 l0 (ji14)).f0)) ∧ w'.cell? ⟨(ad354.add (((ji14)).toNat * 2)).block, (ad354.add (((ji14)).toNat * 2)).off + 1, none⟩ = some (.int .i64 ((rd_T35 l0 (ji14)).f1)) ∧ w'.cell? (ad354.add ((x6_2).toNat * 2)) = some (.int .i64 ((rd_T35 l0 x6_2).f0)) ∧ w'.cell? ⟨(ad354.add ((x6_2).toNat * 2)).block, (ad354.add ((x6_2).toNat * 2)).off + 1, none⟩ = some (.int .i64 ((rd_T35 l0 x6_2).f1)) ∧ w'.cell? (ad354.add (((ji14)).toNat * 2)) = some (.int .i64 ((rd_T35 l0 (ji14)).f0)) ∧ w'.cell? ⟨(ad354.add (((ji14)).toNat * 2)).block, (ad354.add (((ji14)).toNat * 2)).off + 1, none⟩ = some (.int .i64 ((rd_T35 l0 (ji14)).f1))) (ds := []) (bq 0 29) (by kernel_rfl) rfl rfl ⟨((HB.out.cell (World.block_lt_of_cell? w _ hw354_0)).trans hw354_0), ((HB.out.cell (World.block_lt_of_cell? w _ hw354_1)).trans hw354_1), ((HB.out.cell (World.block_lt_of_cell? w _ hw355_0)).trans hw355_0), ((HB.out.cell (World.block_lt_of_cell? w _ hw355_1)).trans hw355_1), ((HB.out.cell (World.block_lt_of_cell? w _ hw356_0)).trans hw356_0), ((HB.out.cell (World.block_lt_of_cell? w _ hw356_1)).trans hw356_1), ((HB.out.cell (World.block_lt_of_cell? w _ hw357_0)).trans hw357_0), ((HB.out.cell (World.block_lt_of_cell? w _ hw357_1)).trans hw357_1)⟩ (fun hHeld => ?_); refine with_tabW impl_IsSteady.tab7 impl_IsSteady.bits7 (fun HT_ HW_ => ?_); generalize wr.drew = w18 at q5 HB hx354_0 hx354_1 hx355_0 hx355_1 hx356_0 hx356_1 hx357_0 hx357_1 hHeld ⊢; refine pure_ (i := 0) (N := some 26) (v := ?_) (a' := ?_) (bq 1 29) rfl rfl (any_of HT_.out (by kernel_rfl)) (fun _ _ _ h => h) (Or.inl ⟨by rfl, ?_⟩) ?_ ?_; rotate_left; (intro w'; go_simp; with_reducible rfl); rotate_left; (exact pb); refine pure_ (i := 1) (N := some 27) (v := ?_) (a' := ?_) (bq 3 29) rfl rfl (any_of HT_.out (by kernel_rfl)) (fun _ _ _ h => h) (Or.inl ⟨by rfl, ?_⟩) ?_ ?_; rotate_left; (intro w'; go_simp; with_reducible rfl); rotate_left; (exact pb); refine pure_ (i := 2) (N := some 28) (v := ?_) (a' := ?_) (bq 7 29) rfl rfl (any_of HT_.out (by kernel_rfl)) (fun _ _ _ h => h) (Or.inl ⟨by rfl, ?_⟩) ?_ ?_; rotate_left; (intro w'; go_simp; with_reducible rfl); rotate_left; (exact pb); refine pure_ (i := 3) (N := some 29) (v := ?_) (a' := ?_) (bq 15 29) rfl rfl (any_of HT_.out (by kernel_rfl)) (fun _ _ _ h => h) (Or.inl ⟨by rfl, ?_⟩) ?_ ?_; rotate_left; (intro w'; go_simp; with_reducible rfl); rotate_left; (exact pb); refine pure_ (i := 4) (N := some 30) (v := ?_) (a' := ?_) (bq 31 29) rfl rfl (any_of HT_.out (by kernel_rfl)) (fun _ _ _ h => h) (Or.inl ⟨by rfl, ?_⟩) ?_ ?_; rotate_left; (intro w'; go_simp; with_reducible rfl); rotate_left; (exact pb)
                 refine pure_ (i := 6) (N := some 32) (v := ?_) (a' := ?_) (bq 95 29) rfl rfl (any_of HT_.out (by kernel_rfl)) (fun _ _ _ h => h) (Or.inl ⟨by rfl, ?_⟩) ?_ ?_; rotate_left; (intro w'; go_simp; with_reducible rfl); rotate_left; (exact pb); refine pure_ (i := 7) (N := some 33) (v := ?_) (a' := ?_) (bq 223 29) rfl rfl (any_of HT_.out (by kernel_rfl)) (fun _ _ _ h => h) (Or.inl ⟨by rfl, ?_⟩) ?_ ?_; rotate_left; (intro w'; go_simp; with_reducible rfl); rotate_left; (exact pb); refine pure_ (i := 8) (N := some 34) (v := ?_) (a' := ?_) (bq 479 29) rfl rfl (any_of HT_.out (by kernel_rfl)) (fun _ _ _ h => h) (Or.inl ⟨by rfl, ?_⟩) ?_ ?_; rotate_left; (intro w'; go_simp; with_reducible rfl); rotate_left; (exact pb); refine pure_ (i := 9) (N := some 35) (v := ?_) (a' := ?_) (bq 991 29) rfl rfl (any_of HT_.out (by kernel_rfl)) (fun _ _ _ h => h) (Or.inl ⟨by rfl, ?_⟩) ?_ ?_; rotate_left; (intro w'; go_simp; with_reducible rfl); rotate_left; (exact pb); refine pure_ (i := 10) (N := some 36) (v := ?_) (a' := ?_) (bq 2015 29) rfl rfl (any_of HT_.out (by kernel_rfl)) (fun _ _ _ h => h) (Or.inl ⟨by rfl, ?_⟩) ?_ ?_; rotate_left; (intro w'; go_simp; with_reducible rfl); rotate_left; (exact pb); refine pure_ (i := 13) (N := some 39) (v := ?_) (a' := ?_) (bq 10207 29) rfl rfl (any_of HT_.out (by kernel_rfl)) (fun _ _ _ h => h) (Or.inl ⟨by rfl, ?_⟩) ?_ ?_; rotate_left; (intro w'; go_simp; with_reducible rfl); rotate_left; (exact pb); refine pure_ (i := 14) (N := some 40) (v := ?_) (a' := ?_) (bq 26591 29) rfl rfl (any_of HT_.out (by kernel_rfl)) (fun _ _ _ h => h) (Or.inl ⟨by rfl, ?_⟩) ?_ ?_; rotate_left; (intro w'; go_simp; with_reducible rfl); rotate_left; (exact pb); refine pure_ (i := 15) (N := some 41) (v := ?_) (a' := ?_) (bq 59359 29) rfl rfl (any_of HT_.out (by kernel_rfl)) (fun _ _ _ h => h) (Or.inl ⟨by rfl, ?_⟩) ?_ ?_; rotate_left; (intro w'; go_simp; with_reducible rfl); rotate_left; (exact pb); refine pure_ (i := 16) (N := some 42) (v := ?_) (a' := ?_) (bq 124895 29) rfl rfl (any_of HT_.out (by kernel_rfl)) (fun _ _ _ h => h) (Or.inl ⟨by rfl, ?_⟩) ?_ ?_; rotate_left; (intro w'; go_simp; with_reducible rfl); rotate_left; (exact pb); refine pure_ (i := 18) (N := some 44) (v := ?_) (a' := ?_) (bq 387039 29) rfl rfl (any_of HT_.out (by kernel_rfl)) (fun _ _ _ h => h) (Or.inl ⟨by rfl, ?_⟩) ?_ ?_; rotate_left; (intro w'; go_simp; with_reducible rfl); rotate_left; (exact pb); refine pure_ (i := 19) (N := some 45) (v := ?_) (a' := ?_) (bq 911327 29) rfl rfl (any_of HT_.out (by kernel_rfl)) (fun _ _ _ h => h) (Or.inl ⟨by rfl, ?_⟩) ?_ ?_; rotate_left; (intro w'; go_simp; with_reducible rfl); rotate_left; (exact pb); refine pure_ (i := 20) (N := some 46) (v := ?_) (a' := ?_) (bq 1959903 29) rfl rfl (any_of HT_.out (by kernel_rfl)) (fun _ _ _ h => h) (Or.inl ⟨by rfl, ?_⟩) ?_ ?_; rotate_left; (intro w'; go_simp; with_reducible rfl); rotate_left; (exact pb)
                 refine pure_ (i := 21) (N := some 47) (v := ?_) (a' := ?_) (bq 4057055 29) rfl rfl (any_of HT_.out (by kernel_rfl)) (fun _ _ _ h => h) (Or.inl ⟨by rfl, ?_⟩) ?_ ?_; rotate_left; (intro w'; go_simp; with_reducible rfl); rotate_left; (exact pb); refine pure_ (i := 22) (N := some 48) (v := ?_) (a' := ?_) (bq 8251359 29) rfl rfl (any_of HT_.out (by kernel_rfl)) (fun _ _ _ h => h) (Or.inl ⟨by rfl, ?_⟩) ?_ ?_; rotate_left; (intro w'; go_simp; with_reducible rfl); rotate_left; (exact pb); refine take_ (i := 5) (N := some 31) (v := ?_) (a' := ?_) (bq 8251391 29) rfl rfl (take_ofW HT_.out HW_.out (by kernel_rfl)) (fun _ _ _ h => h) (Or.inl ⟨by rfl, ?_⟩) hHeld ?_ ?_; rotate_left; (rintro w' ⟨s0, s1, s2, s3, s4, s5, s6, s7⟩; go_simp; with_reducible rfl); rotate_left; (exact pb); refine take_ (i := 11) (N := some 37) (v := ?_) (a' := ?_) (bq 8253439 29) rfl rfl (take_ofW HT_.out HW_.out (by kernel_rfl)) (fun _ _ _ h => h) (Or.inl ⟨by rfl, ?_⟩) hHeld ?_ ?_; rotate_left; (rintro w' ⟨s0, s1, s2, s3, s4, s5, s6, s7⟩; go_simp; with_reducible rfl); rotate_left; (exact pb); refine pure_ (i := 12) (N := some 38) (v := ?_) (a' := ?_) (bq 8257535 29) rfl rfl (any_of HT_.out (by kernel_rfl)) (fun _ _ _ h => h) (Or.inl ⟨by rfl, ?_⟩) ?_ ?_; rotate_left; (intro w'; go_simp; with_reducible rfl); rotate_left; (exact pb); refine take_ (i := 17) (N := some 43) (v := ?_) (a' := ?_) (bq 8388607 29) rfl rfl (take_ofW HT_.out HW_.out (by kernel_rfl)) (fun _ _ _ h => h) (Or.inl ⟨by rfl, ?_⟩) hHeld ?_ ?_; rotate_left; (rintro w' ⟨s0, s1, s2, s3, s4, s5, s6, s7⟩; go_simp; with_reducible rfl); rotate_left; (exact pb); refine take_ (i := 23) (N := some 49) (v := ?_) (a' := ?_) (bq 16777215 29) rfl rfl (take_ofW HT_.out HW_.out (by kernel_rfl)) (fun _ _ _ h => h) (Or.inl ⟨by rfl, ?_⟩) hHeld ?_ ?_; rotate_left; (rintro w' ⟨s0, s1, s2, s3, s4, s5, s6, s7⟩; go_simp; with_reducible rfl); rotate_left; (exact pb); refine pure_ (i := 24) (N := some 50) (v := ?_) (a' := ?_) (bq 33554431 29) rfl rfl (any_of HT_.out (by kernel_rfl)) (fun _ _ _ h => h) (Or.inl ⟨by rfl, ?_⟩) ?_ ?_; rotate_left; (intro w'; go_simp; with_reducible rfl); rotate_left; (exact pb); refine pure_ (i := 25) (N := some 51) (v := ?_) (a' := ?_) (bq 67108863 29) rfl rfl (any_of HT_.out (by kernel_rfl)) (fun _ _ _ h => h) (Or.inl ⟨by rfl, ?_⟩) ?_ ?_; rotate_left; (intro w'; go_simp; with_reducible rfl); rotate_left; (exact pb); refine one_ (i := 26) (N := some 52) (bq 134217727 29) rfl rfl (one_of HT_.out (by kernel_rfl)) (by decide) (fun K hK => ?_); refine value_ (w1 := ?_) (v := ?_) (by rfl) rfl ?_ ?_; rotate_left 2
                 · go_simp
                   (constructor); (rfl); (rfl)
                 refine hK.out _ _ ⟨(World.cell?_alloc_lt _ _ _ (World.block_lt_of_cell? _ _ (((HB.out.cell (World.block_lt_of_cell? w _ hw354_0)).trans hw354_0)))).trans (((HB.out.cell (World.block_lt_of_cell? w _ hw354_0)).trans hw354_0)), (World.cell?_alloc_lt _ _ _ (World.block_lt_of_cell? _ _ (((HB.out.cell (World.block_lt_of_cell? w _ hw354_1)).trans hw354_1)))).trans (((HB.out.cell (World.block_lt_of_cell? w _ hw354_1)).trans hw354_1)), (World.cell?_alloc_lt _ _ _ (World.block_lt_of_cell? _ _ (((HB.out.cell (World.block_lt_of_cell? w _ hw355_0)).trans hw355_0)))).trans (((HB.out.cell (World.block_lt_of_cell? w _ hw355_0)).trans hw355_0)), (World.cell?_alloc_lt _ _ _ (World.block_lt_of_cell? _ _ (((HB.out.cell (World.block_lt_of_cell? w _ hw355_1)).trans hw355_1)))).trans (((HB.out.cell (World.block_lt_of_cell? w _ hw355_1)).trans hw355_1)), (World.cell?_alloc_lt _ _ _ (World.block_lt_of_cell? _ _ (((HB.out.cell (World.block_lt_of_cell? w _ hw356_0)).trans hw356_0)))).trans (((HB.out.cell (World.block_lt_of_cell? w _ hw356_0)).trans hw356_0)), (World.cell?_alloc_lt _ _ _ (World.block_lt_of_cell? _ _ (((HB.out.cell (World.block_lt_of_cell? w _ hw356_1)).trans hw356_1)))).trans (((HB.out.cell (World.block_lt_of_cell? w _ hw356_1)).trans hw356_1)), (World.cell?_alloc_lt _ _ _ (World.block_lt_of_cell? _ _ (((HB.out.cell (World.block_lt_of_cell? w _ hw357_0)).trans hw357_0)))).trans (((HB.out.cell (World.block_lt_of_cell? w _ hw357_0)).trans hw357_0)), (World.cell?_alloc_lt _ _ _ (World.block_lt_of_cell? _ _ (((HB.out.cell (World.block_lt_of_cell? w _ hw357_1)).trans hw357_1)))).trans (((HB.out.cell (World.block_lt_of_cell? w _ hw357_1)).trans hw357_1))⟩ (fun hHeld => ?_); clear hK K; refine norm_ (a' := ?_) ?_ ?_; rotate_left; ((show Act.put _ (some 52) _ = _); simp only [Act.put, List.setIfInBounds_toArray, List.set_cons_zero, List.set_cons_succ, i64_w, i32_w]; rfl); refine one_ (i := 27) (N := some 53) (bq 268435455 29) rfl rfl (one_of HT_.out (by kernel_rfl)) (by decide) (fun K hK => ?_); refine Kd.R_append_step k35 (w0 := w) w.heap.size (by rfl) (.tmp 26) (.tmp 52) 24 35 (.agg #[(.int .i64 0), (.int .i64 0)]) 16 rfl Try.underlying24 info35 rfl (by decide) (by omega) u5 x5_2 (⟨wrap64 (((rd_T35 l0 x6_2).f0) - ((rd_T35 l0 (ji14)).f0)), wrap64 (((rd_T35 l0 x6_2).f1) - ((rd_T35 l0 (ji14)).f1))⟩ : S35) [.int .i64 (wrap64 (((rd_T35 l0 x6_2).f0) - ((rd_T35 l0 (ji14)).f0))), .int .i64 (wrap64 (((rd_T35 l0 x6_2).f1) - ((rd_T35 l0 (ji14)).f1)))] (fun _ => True) (fun _ => False) rfl rfl ?aP (fun _ hk => hk.elim) ?aF ?aO ?aB ?aS ?aL ?_; ((case aP => exact k35_mkM _ _ _ (⟨wrap64 (((rd_T35 l0 x6_2).f0) - ((rd_T35 l0 (ji14)).f0)), wrap64 (((rd_T35 l0 x6_2).f1) - ((rd_T35 l0 (ji14)).f1))⟩ : S35))); ((case aB => exact (qd_13))); ((case aF => exact (fun _ _ => trivial))); ((case aO => exact (ra q5.out))); ((case aS => exact (below_size (qd_13)))); ((case aL => have := LMc17.out; omega)); intro v359 w19 ho hb hg hat; rw [← Ny358.out] at ho; have n0_ := q0_13 (hb)
                 have n1_ := q0_13 (ho); clear HB q5; have HB := n0_; have qj := n1_; clear n0_ n1_ ho hb hg hat; refine hK.out _ _ ⟨((HB.out.cell (World.block_lt_of_cell? w _ hw354_0)).trans hw354_0), ((HB.out.cell (World.block_lt_of_cell? w _ hw354_1)).trans hw354_1), ((HB.out.cell (World.block_lt_of_cell? w _ hw355_0)).trans hw355_0), ((HB.out.cell (World.block_lt_of_cell? w _ hw355_1)).trans hw355_1), ((HB.out.cell (World.block_lt_of_cell? w _ hw356_0)).trans hw356_0), ((HB.out.cell (World.block_lt_of_cell? w _ hw356_1)).trans hw356_1), ((HB.out.cell (World.block_lt_of_cell? w _ hw357_0)).trans hw357_0), ((HB.out.cell (World.block_lt_of_cell? w _ hw357_1)).trans hw357_1)⟩ (fun hHeld => ?_); clear hK K; refine norm_ (a' := ?_) ?_ ?_; rotate_left; ((show Act.put _ (some 53) _ = _); simp only [Act.put, List.setIfInBounds_toArray, List.set_cons_zero, List.set_cons_succ, i64_w, i32_w]; rfl); refine pure_ (i := 28) (N := some 5) (v := ?_) (a' := ?_) (bq 536870911 29) rfl rfl (any_of HT_.out (by kernel_rfl)) (fun _ _ _ h => h) (Or.inl ⟨by rfl, ?_⟩) ?_ ?_; rotate_left; (intro w'; go_simp; with_reducible rfl); rotate_left; (exact pb); refine done_ (done_of HT_.out (by kernel_rfl)) ?_; (try go_wp2); (go_roundg k2)
                 case measure => have := HJ2.out; have := HK2.out; omega
                 case rel => exact ⟨(y358), (wrap64 (x6_2 + 1)), (by first | rfl | (simp; done) | (simp [*]; done)), (by first | exact H' | (have H2_ := H'; (try simp only [← hji14] at H2_); (try simp only [← hji14]); exact H2_)), ⟨by have := HJ2.out; have := HK2.out; omega⟩, ⟨by refine ra ?_; exact qj.out⟩, ⟨by exact (qd_13)⟩⟩
               · rw [if_neg c17] at H
                 exact absurd H (by simp)
             · rw [if_neg c16] at H
               exact absurd H (by simp)
           · rw [if_neg c15] at H
             exact absurd H (by simp)
         · rw [if_neg c13] at H
           exact absurd H (by simp)
       · rw [if_neg c12] at H
         (have c12b0 : decide (x6_2 < (l0.length : Int)) = false := decide_eq_false c12); clear c12; (have H' := q0_13 H); clear H; obtain ⟨qk, qg, eo20⟩ := Kd.R_slice q5.out; subst eo20; (go_wp2); (go_loopg [56] k2 (fun kq v56 w' => ∃ (x56_3 : Int), v56 = .int .i64 x56_3 ∧ Aside0 (impl_IsSteady.l1 kq a1 x5_2 x5_2 (x5_2.length : Int) x56_3 = some r) ∧ Aside0 (kq ≤ k2) ∧ Aside0 (Kd.R k35 35 w' w.heap.size (fun _ => True) (.slice qk x5_2.length qg) x5_2) ∧ Aside0 (Kd.R k35 35 w' w.heap.size (fun _ => True) (.slice qk x5_2.length qg) x5_2) ∧ Aside0 (Below w.heap.size w w')))
         case atStart => exact ⟨(0), (by first | rfl | (simp; done) | (simp [*]; done)), H', ⟨Nat.le_refl _⟩, ⟨by refine ra ?_; exact q5.out⟩, ⟨by refine ra ?_; exact q5.out⟩, ⟨by exact (qd_13)⟩⟩
         case round =>
          clear H'; (try clear c1); (try clear p2); (try clear p3); (try clear q3); (try clear hx3); (try clear c5); (try clear p6); (try clear c9); (try clear c12); (try clear c12b0); (try clear c13); (try clear c13b0); (try clear c14); (try clear c15); (try clear c15b0); (try clear c16); (try clear c16b0); (try clear c17); (try clear hx354_0); (try clear hx354_1); (try clear hx355_0); (try clear hx355_1); (try clear hx356_0); (try clear hx356_1); (try clear hx357_0); (try clear hx357_1); (try clear p2); (try clear p354); (try clear p355); (try clear p356); (try clear p357); (try clear q354); (try clear q355); (try clear q356); (try clear q357); obtain ⟨x56_3, rfl, HA, HK3, q5, q6, HB⟩ := hrel
          cases gk with
          | zero => exact absurd HA.out (by simp [impl_IsSteady.l1])
          | succ k3 =>
           have H := HA.out; clear HA; (simp only [impl_IsSteady.l1] at H)
           by_cases c21 : x56_3 < (x5_2.length : Int)
           · rw [if_pos c21] at H
             (have c21b0 : decide (x56_3 < (x5_2.length : Int)) = true := decide_eq_true c21); clear c21
             by_cases c22 : 0 ≤ x56_3
             · rw [if_pos c22] at H
               (have c22b0 : decide (0 ≤ x56_3) = true := decide_eq_true c22); clear c22
               by_cases c23 : x56_3 < (x5_2.length : Int)
               · rw [if_pos c23] at H
                 (have c23b0 : decide (x56_3 < (x5_2.length : Int)) = true := decide_eq_true c23); clear c23; (have H' := q0_13 H); clear H; (have p361 : 0 ≤ (x56_3 : Int) := of_decide_eq_true (by first | (with_reducible assumption) | assumption)); (have q361 : x56_3 < (x5_2.length : Int) := of_decide_eq_true (by first | (with_reducible assumption) | assumption)); obtain ⟨ad361, e361, hx361_0, hx361_1⟩ := at_T35 (Kd.R_reads' q6.out).2.2 x56_3 p361 q361
                 cases e361
                 replace p361 := eq_true p361; replace q361 := eq_true q361; (go_wp2_with (first | ((with_reducible refine gate_dst (N := 8) rfl ?_); refine box_event ?hg (N := 8) ?hd (cs := #[.int .i64 0, .int .i64 0]) (t := 35) ?hr ?_; (case hd => rfl); (case hg => rfl); (case hr => first | (go_simp; done) | (go_simp; rfl)); intro q2 hg w24 hbox hb; have n0_ := q0_13 (Kd.R_below (Kd.R_elderB (ra q5.out) q2 (Nat.le_of_eq hg.symm)) hb); have n1_ := q0_13 (Kd.R_below (Kd.R_elderB (ra q6.out) q2 (Nat.le_of_eq hg.symm)) hb); have n2_ := q0_13 (below_step (qd_13) hb); have n3_ := q0_13 (hbox); have n4_ := q0_13 ((by rw [hg]; exact (below_size (qd_13)) : w.heap.size ≤ q2)); have n5_ := q0_13 ((by rw [hg]; exact (below_size (qd_13)) : w.heap.size ≤ q2)); clear q5; clear q6; clear HB; have q5 := n0_; have q6 := n1_; have HB := n2_; have q4 := n3_; have GW362 := n4_; have qm := n5_; clear n0_ n1_ n2_ n3_ n4_ n5_; clear hb hbox hg; have hcz25_0 : w24.cell? ⟨q2, 0, none⟩ = some (.int .i64 0) := (blk_cell q4.out 0).trans rfl; have hcz25_1 : w24.cell? ⟨q2, 1, none⟩ = some (.int .i64 0) := (blk_cell q4.out 1).trans rfl; have hfz25_0 := blk_frozen q4.out 0; have hfz25_1 := blk_frozen q4.out 1))); (go_loopg [62] k3 (fun kq v62 w' => ∃ (x62_4 : Int), v62 = .int .i64 x62_4 ∧ Aside0 (impl_IsSteady.l2 kq a1 x5_2 x5_2 (x5_2.length : Int) x56_3 x5_2 (x5_2.length : Int) x62_4 ((rd_T35 x5_2 x56_3).f0) ((rd_T35 x5_2 x56_3).f1) = some r) ∧ Aside0 (kq ≤ k3) ∧ Aside0 (Kd.R k35 35 w' w.heap.size (fun k_ => k_ ≠ q2) (.slice (some ad361) x5_2.length qg) x5_2) ∧ Aside0 (Kd.R k35 35 w' w.heap.size (fun k_ => k_ ≠ q2) (.slice (some ad361) x5_2.length qg) x5_2) ∧ Aside0 (Kd.R k35 35 w' w.heap.size (fun k_ => k_ ≠ q2) (.slice (some ad361) x5_2.length qg) x5_2) ∧ Aside0 (w'.heap[q2]? = some (.cells #[.int .i64 ((rd_T35 x5_2 x56_3).f0), .int .i64 ((rd_T35 x5_2 x56_3).f1)] 35 (0, 0))) ∧ Aside0 (Below w.heap.size w w')))
                 case atStart => exact ⟨(0), (by first | rfl | (simp; done) | (simp [*]; done)), H', ⟨Nat.le_refl _⟩, ⟨by refine ra ?_; exact Kd.R_mono (Kd.R_far (p := ⟨q2, 1, none⟩) (Kd.R_far (p := ⟨q2, 0, none⟩) (Kd.R_mono q5.out (fun k_ hk => (⟨hk, hk.2⟩ : _ ∧ k_ ≠ q2))) (fun _ hk => hk.2) (.int .i64 ((rd_T35 x5_2 x56_3).f0))) (fun _ hk => hk.2) (.int .i64 ((rd_T35 x5_2 x56_3).f1))) (fun _ hk => hk.1.2)⟩, ⟨by refine ra ?_; exact Kd.R_mono (Kd.R_far (p := ⟨q2, 1, none⟩) (Kd.R_far (p := ⟨q2, 0, none⟩) (Kd.R_mono q6.out (fun k_ hk => (⟨hk, hk.2⟩ : _ ∧ k_ ≠ q2))) (fun _ hk => hk.2) (.int .i64 ((rd_T35 x5_2 x56_3).f0))) (fun _ hk => hk.2) (.int .i64 ((rd_T35 x5_2 x56_3).f1))) (fun _ hk => hk.1.2)⟩, ⟨by refine ra ?_; exact Kd.R_mono (Kd.R_far (p := ⟨q2, 1, none⟩) (Kd.R_far (p := ⟨q2, 0, none⟩) (Kd.R_mono q5.out (fun k_ hk => (⟨hk, hk.2⟩ : _ ∧ k_ ≠ q2))) (fun _ hk => hk.2) (.int .i64 ((rd_T35 x5_2 x56_3).f0))) (fun _ hk => hk.2) (.int .i64 ((rd_T35 x5_2 x56_3).f1))) (fun _ hk => hk.1.2)⟩, ⟨by refine ba ?_; refine blk_put (cs := #[.int .i64 ((rd_T35 x5_2 x56_3).f0), .int .i64 0]) ?_ 1 _ rfl; refine ba ?_; refine blk_put (cs := #[.int .i64 0, .int .i64 0]) ?_ 0 _ rfl; refine ba ?_; exact q4.out⟩, ⟨by exact (q8_13)⟩⟩
                 case round =>
                  clear H'; (try clear c1); (try clear c2); (try clear p2); (try clear p3); (try clear q3); (try clear hx3); (try clear c5); (try clear p6); (try clear c9); (try clear c12); (try clear c12b0); (try clear c13); (try clear c13b0); (try clear c14); (try clear c15); (try clear c15b0); (try clear c16); (try clear c16b0); (try clear c17); (try clear c21); (try clear c21b0); (try clear c22); (try clear c22b0); (try clear c23); (try clear c23b0); (try clear hcz25_0); (try clear hcz25_1); (try clear hfz25_0); (try clear hfz25_1); (try clear hx354_0); (try clear hx354_1); (try clear hx355_0); (try clear hx355_1); (try clear hx356_0); (try clear hx356_1); (try clear hx357_0); (try clear hx357_1); (try clear hx361_0); (try clear hx361_1); (try clear p2); (try clear p3); (try clear p354); (try clear p355); (try clear p356); (try clear p357); (try clear p361); (try clear p6); (try clear q3); (try clear q354); (try clear q355); (try clear q356); (try clear q357); (try clear q361); obtain ⟨x62_4, rfl, HA, HK4, q5, q6, q9, q4, HB⟩ := hrel
                  cases gk with
                  | zero => exact absurd HA.out (by simp [impl_IsSteady.l2])
                  | succ k4 =>
                   have H := HA.out; clear HA; (simp only [impl_IsSteady.l2] at H)
                   by_cases c26 : x62_4 < (x5_2.length : Int)
                   · rw [if_pos c26] at H
                     (have c26b0 : decide (x62_4 < (x5_2.length : Int)) = true := decide_eq_true c26); clear c26
                     by_cases c27 : 0 ≤ x62_4
                     · rw [if_pos c27] at H
                       (have c27b0 : decide (0 ≤ x62_4) = true := decide_eq_true c27); clear c27
                       by_cases c28 : x62_4 < (x5_2.length : Int)
                       · rw [if_pos c28] at H
                         (have c28b0 : decide (x62_4 < (x5_2.length : Int)) = true := decide_eq_true c28); clear c28
                         by_cases c29 : (wrap64 ((wrap64 (100 * ((rd_T35 x5_2 x56_3).f1))) * ((rd_T35 x5_2 x62_4).f0))) > (wrap64 ((wrap64 ((wrap64 (100 + a1)) * ((rd_T35 x5_2 x62_4).f1))) * ((rd_T35 x5_2 x56_3).f0)))
                         · rw [if_pos c29] at H
                           (have c29b0 : decide ((wrap64 ((wrap64 ((wrap64 (100 + a1)) * ((rd_T35 x5_2 x62_4).f1))) * ((rd_T35 x5_2 x56_3).f0))) < (wrap64 ((wrap64 (100 * ((rd_T35 x5_2 x56_3).f1))) * ((rd_T35 x5_2 x62_4).f0)))) = true := decide_eq_true c29); clear c29; obtain rfl := Option.some.inj H; (have p363 : 0 ≤ (x62_4 : Int) := of_decide_eq_true (by first | (with_reducible assumption) | assumption)); (have q363 : x62_4 < (x5_2.length : Int) := of_decide_eq_true (by first | (with_reducible assumption) | assumption)); obtain ⟨ad363, e363, hx363_0, hx363_1⟩ := at_T35 (Kd.R_reads' q9.out).2.2 x62_4 p363 q363; obtain rfl : ad361 = ad363 := (by injection e363); replace p363 := eq_true p363; replace q363 := eq_true q363; (go_wp2_with (first | ((with_reducible refine gate_dst (N := 10) rfl ?_); refine box_event ?hg (N := 10) ?hd (cs := #[.int .i64 0, .int .i64 0]) (t := 35) ?hr ?_; (case hd => rfl); (case hg => rfl); (case hr => first | (go_simp; done) | (go_simp; rfl)); intro q1 hg w30 hbox hb; have n0_ := q0_13 (Kd.R_below (Kd.R_elderB (ra q5.out) q1 (Nat.le_of_eq hg.symm)) hb); have n1_ := q0_13 (Kd.R_below (Kd.R_elderB (ra q6.out) q1 (Nat.le_of_eq hg.symm)) hb); have n2_ := q0_13 (Kd.R_below (Kd.R_elderB (ra q9.out) q1 (Nat.le_of_eq hg.symm)) hb); have n3_ := q0_13 (bb q4.out hb); have n4_ := q0_13 (below_step (q8_13) hb); have n5_ := q0_13 (hbox); have n6_ := q0_13 ((by rw [hg]; exact (below_size (q8_13)) : w.heap.size ≤ q1)); have n7_ := q0_13 ((by rw [hg]; exact (below_size (q8_13)) : w.heap.size ≤ q1)); have n8_ := q0_13 ((by rw [hg]; exact Nat.ne_of_lt (bl q4.out) : q2 ≠ q1)); have n9_ := q0_13 ((by rw [hg]; exact Nat.ne_of_gt (bl q4.out) : q1 ≠ q2)); clear q5; clear q6; clear q9; clear q4; clear HB; have q5 := n0_; have q6 := n1_; have q9 := n2_; have q4 := n3_; have HB := n4_; have qa := n5_; have GW364 := n6_; have ql := n7_; have q7 := n8_; have qb := n9_; clear n0_ n1_ n2_ n3_ n4_ n5_ n6_ n7_ n8_ n9_; clear hb hbox hg; have hnb31 := qb.out; have hnc31 := q7.out; have hcz32_0 : w30.cell? ⟨q1, 0, none⟩ = some (.int .i64 0) := (blk_cell qa.out 0).trans rfl; have hcz32_1 : w30.cell? ⟨q1, 1, none⟩ = some (.int .i64 0) := (blk_cell qa.out 1).trans rfl; have hfz32_0 := blk_frozen qa.out 0; have hfz32_1 := blk_frozen qa.out 1; have hcz33_0 : w30.cell? ⟨q2, 0, none⟩ = some (.int .i64 ((rd_T35 x5_2 x56_3).f0)) := (blk_cell q4.out 0).trans rfl; have hcz33_1 : w30.cell? ⟨q2, 1, none⟩ = some (.int .i64 ((rd_T35 x5_2 x56_3).f1)) := (blk_cell q4.out 1).trans rfl; have hfz33_0 := blk_frozen q4.out 0; have hfz33_1 := blk_frozen q4.out 1))); go_ret; (exact ⟨by first | rfl | (simp [errW_none, errW_some] <;> rfl) | (simp [*, errW_none, errW_some] <;> rfl), by exact (qe_13)⟩)
                         · rw [if_neg c29] at H
                           (have c29b0 : decide ((wrap64 ((wrap64 ((wrap64 (100 + a1)) * ((rd_T35 x5_2 x62_4).f1))) * ((rd_T35 x5_2 x56_3).f0))) < (wrap64 ((wrap64 (100 * ((rd_T35 x5_2 x56_3).f1))) * ((rd_T35 x5_2 x62_4).f0)))) = false := decide_eq_false c29); clear c29; (have H' := q0_13 H); clear H; (have p363 : 0 ≤ (x62_4 : Int) := of_decide_eq_true (by first | (with_reducible assumption) | assumption)); (have q363 : x62_4 < (x5_2.length : Int) := of_decide_eq_true (by first | (with_reducible assumption) | assumption)); obtain ⟨ad363, e363, hx363_0, hx363_1⟩ := at_T35 (Kd.R_reads' q9.out).2.2 x62_4 p363 q363; obtain rfl : ad361 = ad363 := (by injection e363); replace p363 := eq_true p363; replace q363 := eq_true q363; (go_wp2_with (first | ((with_reducible refine gate_dst (N := 10) rfl ?_); refine box_event ?hg (N := 10) ?hd (cs := #[.int .i64 0, .int .i64 0]) (t := 35) ?hr ?_; (case hd => rfl); (case hg => rfl); (case hr => first | (go_simp; done) | (go_simp; rfl)); intro q1 hg w34 hbox hb; have n0_ := q0_13 (Kd.R_below (Kd.R_elderB (ra q5.out) q1 (Nat.le_of_eq hg.symm)) hb); have n1_ := q0_13 (Kd.R_below (Kd.R_elderB (ra q6.out) q1 (Nat.le_of_eq hg.symm)) hb); have n2_ := q0_13 (Kd.R_below (Kd.R_elderB (ra q9.out) q1 (Nat.le_of_eq hg.symm)) hb); have n3_ := q0_13 (bb q4.out hb); have n4_ := q0_13 (below_step (q8_13) hb); have n5_ := q0_13 (hbox); have n6_ := q0_13 ((by rw [hg]; exact (below_size (q8_13)) : w.heap.size ≤ q1)); have n7_ := q0_13 ((by rw [hg]; exact (below_size (q8_13)) : w.heap.size ≤ q1)); have n8_ := q0_13 ((by rw [hg]; exact Nat.ne_of_lt (bl q4.out) : q2 ≠ q1)); have n9_ := q0_13 ((by rw [hg]; exact Nat.ne_of_gt (bl q4.out) : q1 ≠ q2)); clear q5; clear q6; clear q9; clear q4; clear HB; have q5 := n0_; have q6 := n1_; have q9 := n2_; have q4 := n3_; have HB := n4_; have qa := n5_; have GW364 := n6_; have ql := n7_; have q7 := n8_; have qb := n9_; clear n0_ n1_ n2_ n3_ n4_ n5_ n6_ n7_ n8_ n9_; clear hb hbox hg; have hnb35 := qb.out; have hnc35 := q7.out; have hcz36_0 : w34.cell? ⟨q1, 0, none⟩ = some (.int .i64 0) := (blk_cell qa.out 0).trans rfl; have hcz36_1 : w34.cell? ⟨q1, 1, none⟩ = some (.int .i64 0) := (blk_cell qa.out 1).trans rfl; have hfz36_0 := blk_frozen qa.out 0; have hfz36_1 := blk_frozen qa.out 1; have hcz37_0 : w34.cell? ⟨q2, 0, none⟩ = some (.int .i64 ((rd_T35 x5_2 x56_3).f0)) := (blk_cell q4.out 0).trans rfl; have hcz37_1 : w34.cell? ⟨q2, 1, none⟩ = some (.int .i64 ((rd_T35 x5_2 x56_3).f1)) := (blk_cell q4.out 1).trans rfl; have hfz37_0 := blk_frozen q4.out 0; have hfz37_1 := blk_frozen q4.out 1))); (go_roundg k4)
                           case measure => have := HJ2.out; have := HK2.out; have := HK3.out; have := HK4.out; omega
                           case rel => exact ⟨(wrap64 (x62_4 + 1)), (by first | rfl | (simp; done) | (simp [*]; done)), H', ⟨by have := HJ2.out; have := HK2.out; have := HK3.out; have := HK4.out; omega⟩, ⟨by refine ra ?_; exact Kd.R_mono (Kd.R_far (p := ⟨q1, 1, none⟩) (Kd.R_far (p := ⟨q1, 0, none⟩) (Kd.R_mono q5.out (fun k_ hk => (⟨hk, hk.2⟩ : _ ∧ k_ ≠ q1))) (fun _ hk => hk.2) (.int .i64 ((rd_T35 x5_2 x62_4).f0))) (fun _ hk => hk.2) (.int .i64 ((rd_T35 x5_2 x62_4).f1))) (fun _ hk => hk.1.1)⟩, ⟨by refine ra ?_; exact Kd.R_mono (Kd.R_far (p := ⟨q1, 1, none⟩) (Kd.R_far (p := ⟨q1, 0, none⟩) (Kd.R_mono q6.out (fun k_ hk => (⟨hk, hk.2⟩ : _ ∧ k_ ≠ q1))) (fun _ hk => hk.2) (.int .i64 ((rd_T35 x5_2 x62_4).f0))) (fun _ hk => hk.2) (.int .i64 ((rd_T35 x5_2 x62_4).f1))) (fun _ hk => hk.1.1)⟩, ⟨by refine ra ?_; exact Kd.R_mono (Kd.R_far (p := ⟨q1, 1, none⟩) (Kd.R_far (p := ⟨q1, 0, none⟩) (Kd.R_mono q9.out (fun k_ hk => (⟨hk, hk.2⟩ : _ ∧ k_ ≠ q1))) (fun _ hk => hk.2) (.int .i64 ((rd_T35 x5_2 x62_4).f0))) (fun _ hk => hk.2) (.int .i64 ((rd_T35 x5_2 x62_4).f1))) (fun _ hk => hk.1.1)⟩, ⟨by refine ba ?_; refine blk_far ?_ q7.out _; refine ba ?_; refine blk_far ?_ q7.out _; refine ba ?_; exact q4.out⟩, ⟨by exact (qe_13)⟩⟩
                       · rw [if_neg c28] at H
                         exact absurd H (by simp)
                     · rw [if_neg c27] at H
                       exact absurd H (by simp)
                   · rw [if_neg c26] at H
                     (have c26b0 : decide (x62_4 < (x5_2.length : Int)) = false := decide_eq_false c26); clear c26; (have H' := q0_13 H); clear H; (go_wp2); (go_roundg k4)
                     case measure => have := HJ2.out; have := HK2.out; have := HK3.out; have := HK4.out; omega
                     case rel => exact ⟨(wrap64 (x56_3 + 1)), (by first | rfl | (simp; done) | (simp [*]; done)), H', ⟨by have := HJ2.out; have := HK2.out; have := HK3.out; have := HK4.out; omega⟩, ⟨by refine ra ?_; exact Kd.R_mono q5.out (fun _ hk => trivial)⟩, ⟨by refine ra ?_; exact Kd.R_mono q6.out (fun _ hk => trivial)⟩, ⟨by exact (q8_13)⟩⟩
               · rw [if_neg c23] at H
                 exact absurd H (by simp)
             · rw [if_neg c22] at H
               exact absurd H (by simp)
           · rw [if_neg c21] at H
             (have c21b0 : decide (x56_3 < (x5_2.length : Int)) = false := decide_eq_false c21); clear c21; obtain rfl := Option.some.inj H; (go_wp2); go_ret; (exact ⟨by first | rfl | (simp [errW_none, errW_some] <;> rfl) | (simp [*, errW_none, errW_some] <;> rfl), by exact (qd_13)⟩)
/-! ### impl_LastRate: function 15 -/
def impl_LastRate.f (k : Nat) (l0 : List (S35)) : Option (Int × Int × Bool) := (impl_MeanRate.f k l0 1).bind fun bt366 => (some (bt366.1, bt366.2.1, bt366.2.2))
theorem impl_LastRate.mono : ∀ a0 k, LeO (impl_LastRate.f k a0) (impl_LastRate.f (k + 1) a0) := by
 intro a0 k; unfold impl_LastRate.f
 repeat' first
  | (with_reducible exact impl_MeanRate.mono _ _ _)
  | (with_reducible exact LeO.refl _)
  | (with_reducible exact LeO.none _)
  | (with_reducible refine LeO.ite ?_ ?_)
  | (with_reducible refine LeO.bind ?_ (fun _ => ?_))
  | exact impl_MeanRate.mono _ _ _
  | exact LeO.none _
  | refine LeO.ite ?_ ?_
  | refine LeO.bind ?_ (fun _ => ?_)
set_option maxHeartbeats 8000000 in
set_option maxRecDepth 100000 in
theorem impl_LastRate.calls (k : Nat) (A0 : Option Addr) (c0 : Nat) (l0 : List (S35)) (r1 : Int) (r2 : Int) (r3 : Bool) (w : World) (hr0 : Kd.C k35 w A0 l0.length l0) (hc0 : l0.length ≤ c0) (h : impl_LastRate.f k l0 = some (r1, r2, r3)) :
 Calls Try.prog 15 #[.slice A0 l0.length c0] w fun e w' => e = .returned (.tuple #[.agg #[.int .i64 r1, .int .i64 r2], .bool r3]) ∧ Below w.heap.size w w' := by
 have hu30 := Try.underlying30; have HR0 := q0_13 hr0; have HC0 := q0_13 hc0; clear hr0 hc0; have HB := q0_13 (Below.refl w.heap.size w); (have H : ((impl_MeanRate.f k l0 1).bind fun bt366 => (some (bt366.1, bt366.2.1, bt366.2.2))) = some (r1, r2, r3) := h); clear h; replace H := Option.bind_eq_some_iff.mp H; obtain ⟨⟨t366, t367, t368⟩, A20, H⟩ := H; replace H : (some (t366, t367, t368)) = some (r1, r2, r3) := H; have A2 := q0_13 A20; clear A20; (simp only [Option.some.injEq, Prod.mk.injEq] at H); obtain ⟨rfl, rfl, rfl⟩ := H; go_enter Try.func15, Try.ntmps15; (go_wp2_with (first | ((with_reducible refine gate_dst (N := 2) rfl ?_); refine box_event ?hg (N := 2) ?hd (cs := #[.int .i64 0, .int .i64 0]) (t := 30) ?hr ?_; (case hd => rfl); (case hg => rfl); (case hr => first | (go_simp; done) | (go_simp; rfl)); intro qf hg w3 hbox hb; have n0_ := q0_13 (below_step (qd_13) hb); have n1_ := q0_13 (hbox); have n2_ := q0_13 ((by rw [hg]; exact (below_size (qd_13)) : w.heap.size ≤ qf)); have n3_ := q0_13 ((by rw [hg]; exact (below_size (qd_13)) : w.heap.size ≤ qf)); clear HB; have HB := n0_; have qc := n1_; have GW365 := n2_; have qn := n3_; clear n0_ n1_ n2_ n3_; clear hb hbox hg) | ((with_reducible refine gate_callee (f := 10) rfl ?_); refine goesL_ (some 5) rfl rfl Try.func10 (by kernel_rfl) rfl #[.slice A0 l0.length c0, .int .i64 1] rfl ma ?_; (with_reducible refine (impl_MeanRate.calls k _ _ l0 1 t366 t367 t368 _ ?side1 ?side2 A2.out).mono ?_); (case side1 => exact ca (Kd.C_below HR0.out HB.out)); (case side2 => exact HC0.out); rintro e w4 ⟨rfl, hb⟩; refine ⟨_, rfl, ?_⟩; have n0_ := q0_13 (bb qc.out hb); have n1_ := q0_13 (below_step (qh_13) hb); clear qc; clear HB; have qc := n0_; have HB := n1_; clear n0_ n1_; (try clear hb); (try clear hb2); (try clear hk); (try clear hi); have hcz5_0 : w4.cell? ⟨qf, 0, none⟩ = some (.int .i64 0) := (blk_cell qc.out 0).trans rfl; have hcz5_1 : w4.cell? ⟨qf, 1, none⟩ = some (.int .i64 0) := (blk_cell qc.out 1).trans rfl; have hfz5_0 := blk_frozen qc.out 0; have hfz5_1 := blk_frozen qc.out 1))); refine bodyPost_ret (results_ct rfl _ _ qf 30 #[.int .i64 t366, .int .i64 t367] (0, 0) _ rfl (by refine ba ?_; refine blk_put (cs := #[.int .i64 t366, .int .i64 0]) ?_ 1 _ rfl; refine ba ?_; refine blk_put (cs := #[.int .i64 0, .int .i64 0]) ?_ 0 _ rfl; refine ba ?_; exact qc.out) Try.underlying30 rfl (by kernel_rfl)) rfl ?_; (exact ⟨by first | rfl | (simp [errW_none, errW_some] <;> rfl) | (simp [*, errW_none, errW_some] <;> rfl), by exact (qh_13)⟩)
end Go.Proofs.Ytlkfhddckgjlnaa.PFnPaces
