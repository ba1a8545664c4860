-- Written for this claim by a program of this repository (wip/tools/print2.py), out of the translation; Lean checks it.
import Derived.Test.YtpdhhpgdjbeaeaaPFnExactChordAtx0
import Derived.Test.YtpdhhpgdjbeaeaaPFnExactChordAtx2
import Derived.Test.YtpdhhpgdjbeaeaaPFnExactChordAtx3
import Derived.Test.YtpdhhpgdjbeaeaaPFnExactChordAtx5
namespace Go.Proofs.Ytpdhhpgdjbeaeaa.PFnExactChordAt
open Go.RowKit Go.Proofs.YtpdhhpgdjbeaeaaW.PrintWords Go.Proofs.YtpdhhpgdjbeaeaaW.PrintLast Go.Proofs.YtpdhhpgdjbeaeaaW.PrintMore
attribute [local go_sem] max2_int min2_int max_two min_two max_three min_three max_four min_four   -- for this text's walks alone
set_option linter.unusedVariables false
set_option linter.unusedSimpArgs false
-- SHORT
theorem q3_6 {p : Prop} (f : p := by repeat (first | (with_reducible first | exact HB.out | apply below_alloc | apply pw_below_drewN | apply below_drew1) | exact HB.out)) : p := f
theorem qc_6 {p : Prop} (f : p := by repeat (first | (with_reducible first | exact HB.out | apply below_alloc | apply pw_below_drewN | apply below_drew1 | refine below_set ?_ z03.out) | exact HB.out)) : p := f
theorem qj_6 {p : Prop} (f : p := by repeat (first | (with_reducible first | exact HB.out | apply below_alloc | apply pw_below_drewN | apply below_drew1 | refine below_set ?_ z04.out) | exact HB.out)) : p := f
theorem qf_6 {p : Prop} (f : p := by repeat (first | (with_reducible first | exact HB.out | apply below_alloc | apply pw_below_drewN | apply below_drew1 | refine below_set ?_ z04.out | refine below_set ?_ z05.out) | exact HB.out)) : p := f
theorem qr_6 {p : Prop} (f : p := by repeat (first | (with_reducible first | exact HB.out | apply below_alloc | apply pw_below_drewN | apply below_drew1 | refine below_set ?_ z04.out | refine below_set ?_ z05.out | refine below_set ?_ z06.out) | exact HB.out)) : p := f
theorem qv_6 {p : Prop} (f : p := by repeat (first | (with_reducible first | exact HB.out | apply below_alloc | apply pw_below_drewN | apply below_drew1 | refine below_set ?_ z01.out) | exact HB.out)) : p := f
theorem q0_6 {p : Prop} (h : p) : Aside0 p := ⟨h⟩
/-! ### spec_SoundsAt: function 54 -/
mutual
def spec_SoundsAt.l0 : Nat → List (S68) → Int → List Int → Int → Option (List Int)
 | 0, _, _, _, _ => none
 | k + 1, x0, x1, x5, x6 => if x6 < (x0.length : Int) then ((spec_IsScore.f k x0).bind fun t211 => (spec_SoundsAt.j1 k x0 x1 x5 x6 t211)) else (spec_SoundsAt.j1 k x0 x1 x5 x6 false)
def spec_SoundsAt.j1 : Nat → List (S68) → Int → List Int → Int → Bool → Option (List Int)
 | 0, _, _, _, _, _ => none
 | k + 1, x0, x1, x5, x6, x15 => if x15 = true then (if 0 ≤ x6 then (if x6 < (x0.length : Int) then (if ((rd_T68 x0 x6).f0) ≤ x1 then (if x1 < (wrap64 (((rd_T68 x0 x6).f0) + ((rd_T68 x0 x6).f1))) then ((spec_l8Num.f k x5 ((rd_T68 x0 x6).f2)).bind fun t216 => (spec_SoundsAt.l0 k x0 x1 t216 (wrap64 (x6 + 1)))) else (spec_SoundsAt.l0 k x0 x1 x5 (wrap64 (x6 + 1)))) else (spec_SoundsAt.l0 k x0 x1 x5 (wrap64 (x6 + 1)))) else (none)) else (none)) else (some x5)
end
def spec_SoundsAt.f (k : Nat) (l0 : List (S68)) (a1 : Int) : Option (List Int) := spec_SoundsAt.l0 k l0 a1 (([] : List Int)) 0
theorem spec_SoundsAt.mono_l : ∀ k, (∀ y0 y1 y2 y3, LeO (spec_SoundsAt.l0 k y0 y1 y2 y3) (spec_SoundsAt.l0 (k + 1) y0 y1 y2 y3)) ∧ (∀ y0 y1 y2 y3 y4, LeO (spec_SoundsAt.j1 k y0 y1 y2 y3 y4) (spec_SoundsAt.j1 (k + 1) y0 y1 y2 y3 y4))
 | 0 => ⟨fun _ _ _ _ r h => by simp [spec_SoundsAt.l0] at h, fun _ _ _ _ _ r h => by simp [spec_SoundsAt.j1] at h⟩
 | k + 1 => by
  obtain ⟨ih0, ih1⟩ := spec_SoundsAt.mono_l k; refine ⟨?_, ?_⟩
  · intro y0 y1 y2 y3
    unfold spec_SoundsAt.l0
    repeat' first
    | (with_reducible exact ih0 _ _ _ _)
    | (with_reducible exact ih1 _ _ _ _ _)
    | (with_reducible exact spec_IsScore.mono _ _)
    | (with_reducible exact spec_l8Num.mono _ _ _)
    | (with_reducible exact LeO.refl _)
    | (with_reducible exact LeO.none _)
    | (with_reducible refine LeO.ite ?_ ?_)
    | (with_reducible refine LeO.bind ?_ (fun _ => ?_))
    | exact ih0 _ _ _ _
    | exact ih1 _ _ _ _ _
    | exact spec_IsScore.mono _ _
    | exact spec_l8Num.mono _ _ _
    | exact LeO.none _
    | refine LeO.ite ?_ ?_
    | refine LeO.bind ?_ (fun _ => ?_)
  · intro y0 y1 y2 y3 y4
    unfold spec_SoundsAt.j1
    repeat' first
    | (with_reducible exact ih0 _ _ _ _)
    | (with_reducible exact ih1 _ _ _ _ _)
    | (with_reducible exact spec_IsScore.mono _ _)
    | (with_reducible exact spec_l8Num.mono _ _ _)
    | (with_reducible exact LeO.refl _)
    | (with_reducible exact LeO.none _)
    | (with_reducible refine LeO.ite ?_ ?_)
    | (with_reducible refine LeO.bind ?_ (fun _ => ?_))
    | exact ih0 _ _ _ _
    | exact ih1 _ _ _ _ _
    | exact spec_IsScore.mono _ _
    | exact spec_l8Num.mono _ _ _
    | exact LeO.none _
    | refine LeO.ite ?_ ?_
    | refine LeO.bind ?_ (fun _ => ?_)
theorem spec_SoundsAt.mono : ∀ a0 a1 k, LeO (spec_SoundsAt.f k a0 a1) (spec_SoundsAt.f (k + 1) a0 a1) := by
 intro a0 a1 k; obtain ⟨ih0, ih1⟩ := spec_SoundsAt.mono_l k; unfold spec_SoundsAt.f
 repeat' first
  | (with_reducible exact ih0 _ _ _ _)
  | (with_reducible exact ih1 _ _ _ _ _)
  | (with_reducible exact spec_IsScore.mono _ _)
  | (with_reducible exact spec_l8Num.mono _ _ _)
  | (with_reducible exact LeO.refl _)
  | (with_reducible exact LeO.none _)
  | (with_reducible refine LeO.ite ?_ ?_)
  | (with_reducible refine LeO.bind ?_ (fun _ => ?_))
  | exact ih0 _ _ _ _
  | exact ih1 _ _ _ _ _
  | exact spec_IsScore.mono _ _
  | exact spec_l8Num.mono _ _ _
  | exact LeO.none _
  | refine LeO.ite ?_ ?_
  | refine LeO.bind ?_ (fun _ => ?_)
set_option maxHeartbeats 8000000 in
set_option maxRecDepth 100000 in
theorem spec_SoundsAt.calls (k : Nat) (A0 : Option Addr) (c0 : Nat) (l0 : List (S68)) (a1 : Int) (r : List Int) (w : World) (hr0 : Kd.C k68 w A0 l0.length l0) (hc0 : l0.length ≤ c0) (h : spec_SoundsAt.f k l0 a1 = some r) :
 Calls Try.prog 54 #[.slice A0 l0.length c0, .int .i64 a1] w fun e w' => ∃ v0_ : Value, e = .returned (v0_) ∧ Kd.R (Kd.int .i64) 3 w' w.heap.size (fun _ => True) v0_ r ∧ Below w.heap.size w w' := by
 have HR0 := q0_6 hr0; have HC0 := q0_6 hc0; clear hr0 hc0; have HB := q0_6 (Below.refl w.heap.size w); (have H : (spec_SoundsAt.l0 k l0 a1 (([] : List Int)) 0) = some r := h); clear h; obtain ⟨y208, hy208⟩ : ∃ y_ : List Int, y_ = (([] : List Int)) := ⟨_, rfl⟩; (replace H : (spec_SoundsAt.l0 k l0 a1 y208 0) = some r := by first | (rw [hy208]; with_reducible exact H) | (have H2_ := (Option.bind_some _ _).symm.trans H; rw [hy208]; with_reducible exact H2_) | (have H2_ := (Option.bind_some _ _).symm.trans H; with_reducible exact H2_) | with_reducible exact H | (rw [hy208]; exact H) | exact H); have Ny208 := q0_6 hy208; clear hy208; (have H' := q0_6 H); clear H; go_enter Try.func54, Try.ntmps54; (go_wp2_with (first | ((with_reducible refine gate_dst (N := 7) rfl ?_); refine Kd.R_lit (Kd.int .i64) _ 3 ?hg (N := 7) ?hd (xs := ([] : List Int)) (inner := []) (ok := fun _ => True) (okp := fun _ => True) ?hr ?hp (fun _ hk => hk) trivial (Below.refl _ _) (Nat.le_refl _) (by simp) ?_; (case hd => rfl); (case hg => rfl); (case hr => first | (go_simp; done) | (go_simp; rfl)); (case hp => exact (Reps.none _ _)); intro v209 w3 ho4 hb hg_ hnew_; clear hg_ hnew_; (first | rw [← Ny208.out] at ho4 | (simp only [Int.reduceToNat] at ho4; rw [← Ny208.out] at ho4)); have n0_ := q0_6 (Kd.R_lower ho4 (below_size (q3_6))); have n1_ := q0_6 (below_step (q3_6) hb); clear HB; have qs := n0_; have HB := n1_; clear n0_ n1_; clear hb ho4))); (repeat (go_quiet (first | ((with_reducible refine gate_dst (N := 7) rfl ?_); refine Kd.R_lit (Kd.int .i64) _ 3 ?hg (N := 7) ?hd (xs := ([] : List Int)) (inner := []) (ok := fun _ => True) (okp := fun _ => True) ?hr ?hp (fun _ hk => hk) trivial (Below.refl _ _) (Nat.le_refl _) (by simp) ?_; (case hd => rfl); (case hg => rfl); (case hr => first | (go_simp; done) | (go_simp; rfl)); (case hp => exact (Reps.none _ _)); intro v209 w3 ho4 hb hg_ hnew_; clear hg_ hnew_; (first | rw [← Ny208.out] at ho4 | (simp only [Int.reduceToNat] at ho4; rw [← Ny208.out] at ho4)); have n0_ := q0_6 (Kd.R_lower ho4 (below_size (q3_6))); have n1_ := q0_6 (below_step (q3_6) hb); clear HB; have qs := n0_; have HB := n1_; clear n0_ n1_; clear hb ho4)); try go_wp2_with (first | ((with_reducible refine gate_dst (N := 7) rfl ?_); refine Kd.R_lit (Kd.int .i64) _ 3 ?hg (N := 7) ?hd (xs := ([] : List Int)) (inner := []) (ok := fun _ => True) (okp := fun _ => True) ?hr ?hp (fun _ hk => hk) trivial (Below.refl _ _) (Nat.le_refl _) (by simp) ?_; (case hd => rfl); (case hg => rfl); (case hr => first | (go_simp; done) | (go_simp; rfl)); (case hp => exact (Reps.none _ _)); intro v209 w3 ho4 hb hg_ hnew_; clear hg_ hnew_; (first | rw [← Ny208.out] at ho4 | (simp only [Int.reduceToNat] at ho4; rw [← Ny208.out] at ho4)); have n0_ := q0_6 (Kd.R_lower ho4 (below_size (q3_6))); have n1_ := q0_6 (below_step (q3_6) hb); clear HB; have qs := n0_; have HB := n1_; clear n0_ n1_; clear hb ho4))))
 (go_loopg [5, 6] k (fun kq v5 v6 w' => ∃ (x5_1 : List Int) (x6_1 : Int), v6 = .int .i64 x6_1 ∧ Aside0 (spec_SoundsAt.l0 kq l0 a1 x5_1 x6_1 = some r) ∧ Aside0 (kq ≤ k) ∧ Aside0 (Kd.R (Kd.int .i64) 3 w' w.heap.size (fun _ => True) v5 x5_1) ∧ Aside0 (Below w.heap.size w w')))
 case atStart => exact ⟨(y208), (0), (by first | rfl | (simp; done) | (simp [*]; done)), H', ⟨Nat.le_refl _⟩, ⟨by refine ra ?_; exact qs.out⟩, ⟨by exact (q3_6)⟩⟩
 case round =>
  clear H'; (try clear p2); obtain ⟨x5_1, x6_1, rfl, HA, HK1, q1, HB⟩ := hrel
  cases gk with
  | zero => exact absurd HA.out (by simp [spec_SoundsAt.l0])
  | succ k1 =>
   have H := HA.out; clear HA; (simp only [spec_SoundsAt.l0] at H); have HC5 := q0_6 H; clear H; (go_upto_region 3 with (fail)); (repeat (go_quiet (fail); go_upto_region 3 with (fail))); (go_cut [15] (fun v15 wc => ∃ (kq : Nat) (x15_4 : Bool), v15 = .bool x15_4 ∧ Aside0 (spec_SoundsAt.j1 kq l0 a1 x5_1 x6_1 x15_4 = some r) ∧ Aside0 (kq ≤ k1) ∧ Aside0 (Kd.R (Kd.int .i64) 3 wc w.heap.size (fun _ => True) u5 x5_1) ∧ Aside0 (Below w.heap.size w wc)))
   case first =>
    have H := HC5.out; clear HC5
    by_cases c6 : x6_1 < (l0.length : Int)
    · rw [if_pos c6] at H
      (have c6b0 : decide (x6_1 < (l0.length : Int)) = true := decide_eq_true c6); clear c6; ((first | rw [c6b0] | (simp only [i64_w, i32_w]; rw [c6b0]) | skip)); replace H := Option.bind_eq_some_iff.mp H; obtain ⟨t211, A70, H⟩ := H; replace H : (spec_SoundsAt.j1 k1 l0 a1 x5_1 x6_1 t211) = some r := H; have A7 := q0_6 A70; clear A70; (have H' := q0_6 H); clear H; (go_wp2_with (first | (go_at_call 66; (with_reducible refine (spec_IsScore.calls k1 _ _ l0 t211 _ ?side1 ?side2 A7.out).mono ?_); (case side1 => exact ca (Kd.C_below HR0.out HB.out)); (case side2 => exact HC0.out); rintro e w8 ⟨rfl, hb⟩; have n0_ := q0_6 (Kd.R_below (ra q1.out) hb); have n1_ := q0_6 (below_step (q3_6) hb); clear q1; clear HB; have q1 := n0_; have HB := n1_; clear n0_ n1_; (try clear hb); (try clear hb2); (try clear hk); (try clear hi)))); (repeat (go_quiet (first | (go_at_call 66; (with_reducible refine (spec_IsScore.calls k1 _ _ l0 t211 _ ?side1 ?side2 A7.out).mono ?_); (case side1 => exact ca (Kd.C_below HR0.out HB.out)); (case side2 => exact HC0.out); rintro e w8 ⟨rfl, hb⟩; have n0_ := q0_6 (Kd.R_below (ra q1.out) hb); have n1_ := q0_6 (below_step (q3_6) hb); clear q1; clear HB; have q1 := n0_; have HB := n1_; clear n0_ n1_; (try clear hb); (try clear hb2); (try clear hk); (try clear hi))); try go_wp2_with (first | (go_at_call 66; (with_reducible refine (spec_IsScore.calls k1 _ _ l0 t211 _ ?side1 ?side2 A7.out).mono ?_); (case side1 => exact ca (Kd.C_below HR0.out HB.out)); (case side2 => exact HC0.out); rintro e w8 ⟨rfl, hb⟩; have n0_ := q0_6 (Kd.R_below (ra q1.out) hb); have n1_ := q0_6 (below_step (q3_6) hb); clear q1; clear HB; have q1 := n0_; have HB := n1_; clear n0_ n1_; (try clear hb); (try clear hb2); (try clear hk); (try clear hi))))); (go_meet)
      case rel => exact ⟨_, (t211), (by first | rfl | (simp; done) | (simp [*]; done)), H', ⟨by have := HK1.out; first | omega | exact Nat.le_refl _⟩, ⟨by refine ra ?_; exact q1.out⟩, ⟨by exact (q3_6)⟩⟩
    · rw [if_neg c6] at H
      (have c6b0 : decide (x6_1 < (l0.length : Int)) = false := decide_eq_false c6); clear c6; ((first | rw [c6b0] | (simp only [i64_w, i32_w]; rw [c6b0]) | skip)); (have H' := q0_6 H); clear H; (go_wp2); (repeat (go_quiet (fail); try go_wp2)); (go_meet)
      case rel => exact ⟨_, (false), (by first | rfl | (simp; done) | (simp [*]; done)), H', ⟨by have := HK1.out; first | omega | exact Nat.le_refl _⟩, ⟨by refine ra ?_; exact q1.out⟩, ⟨by exact (q3_6)⟩⟩
   case rest =>
    clear HC5; (try clear p2); (try clear c5); (try clear c6); (try clear c6b0); (try clear p2); obtain ⟨kq, x15_4, rfl, HA, HJ4, q1, HB⟩ := hcut
    cases kq with
    | zero => exact absurd HA.out (by simp [spec_SoundsAt.j1])
    | succ kj4 =>
     have H := HA.out; clear HA; (simp only [spec_SoundsAt.j1] at H)
     by_cases c9 : x15_4 = true
     · subst c9
       have H1 : (if 0 ≤ x6_1 then (if x6_1 < (l0.length : Int) then (if ((rd_T68 l0 x6_1).f0) ≤ a1 then (if a1 < (wrap64 (((rd_T68 l0 x6_1).f0) + ((rd_T68 l0 x6_1).f1))) then ((spec_l8Num.f kj4 x5_1 ((rd_T68 l0 x6_1).f2)).bind fun t216 => (spec_SoundsAt.l0 kj4 l0 a1 t216 (wrap64 (x6_1 + 1)))) else (spec_SoundsAt.l0 kj4 l0 a1 x5_1 (wrap64 (x6_1 + 1)))) else (spec_SoundsAt.l0 kj4 l0 a1 x5_1 (wrap64 (x6_1 + 1)))) else (none)) else (none)) = some r := by rw [if_pos rfl] at H; exact H
       clear H; have H := H1; clear H1
       by_cases c10 : 0 ≤ x6_1
       · rw [if_pos c10] at H
         (have c10b0 : decide (0 ≤ x6_1) = true := decide_eq_true c10); clear c10
         by_cases c11 : x6_1 < (l0.length : Int)
         · rw [if_pos c11] at H
           (have c11b0 : decide (x6_1 < (l0.length : Int)) = true := decide_eq_true c11); clear c11
           by_cases c12 : ((rd_T68 l0 x6_1).f0) ≤ a1
           · rw [if_pos c12] at H
             (have c12b0 : decide (((rd_T68 l0 x6_1).f0) ≤ a1) = true := decide_eq_true c12); clear c12
             by_cases c13 : a1 < (wrap64 (((rd_T68 l0 x6_1).f0) + ((rd_T68 l0 x6_1).f1)))
             · rw [if_pos c13] at H
               (have c13b0 : decide (a1 < (wrap64 (((rd_T68 l0 x6_1).f0) + ((rd_T68 l0 x6_1).f1)))) = true := decide_eq_true c13); clear c13; replace H := Option.bind_eq_some_iff.mp H; obtain ⟨t216, A140, H⟩ := H; replace H : (spec_SoundsAt.l0 kj4 l0 a1 t216 (wrap64 (x6_1 + 1))) = some r := H; have A14 := q0_6 A140; clear A140; (have H' := q0_6 H); clear H; (have p212 : 0 ≤ (x6_1 : Int) := of_decide_eq_true (by first | (with_reducible assumption) | assumption)); (have q212 : x6_1 < (l0.length : Int) := of_decide_eq_true (by first | (with_reducible assumption) | assumption)); obtain ⟨ad212, e212, hx212_0, hx212_1, hx212_2, hx212_3⟩ := at_T68 HR0.out x6_1 p212 q212
               cases e212
               replace hx212_0 := (HB.out.cell (World.block_lt_of_cell? w _ hx212_0)).trans hx212_0; replace hx212_1 := (HB.out.cell (World.block_lt_of_cell? w _ hx212_1)).trans hx212_1; replace hx212_2 := (HB.out.cell (World.block_lt_of_cell? w _ hx212_2)).trans hx212_2; replace hx212_3 := (HB.out.cell (World.block_lt_of_cell? w _ hx212_3)).trans hx212_3; replace p212 := eq_true p212; replace q212 := eq_true q212; (have p213 : 0 ≤ (x6_1 : Int) := of_decide_eq_true (by first | (with_reducible assumption) | assumption)); (have q213 : x6_1 < (l0.length : Int) := of_decide_eq_true (by first | (with_reducible assumption) | assumption)); obtain ⟨ad213, e213, hx213_0, hx213_1, hx213_2, hx213_3⟩ := at_T68 HR0.out x6_1 p213 q213; obtain rfl : ad212 = ad213 := (by injection e213); replace hx213_0 := (HB.out.cell (World.block_lt_of_cell? w _ hx213_0)).trans hx213_0; replace hx213_1 := (HB.out.cell (World.block_lt_of_cell? w _ hx213_1)).trans hx213_1; replace hx213_2 := (HB.out.cell (World.block_lt_of_cell? w _ hx213_2)).trans hx213_2; replace hx213_3 := (HB.out.cell (World.block_lt_of_cell? w _ hx213_3)).trans hx213_3; replace p213 := eq_true p213; replace q213 := eq_true q213; (have p214 : 0 ≤ (x6_1 : Int) := of_decide_eq_true (by first | (with_reducible assumption) | assumption)); (have q214 : x6_1 < (l0.length : Int) := of_decide_eq_true (by first | (with_reducible assumption) | assumption)); obtain ⟨ad214, e214, hx214_0, hx214_1, hx214_2, hx214_3⟩ := at_T68 HR0.out x6_1 p214 q214; obtain rfl : ad212 = ad214 := (by injection e214); replace hx214_0 := (HB.out.cell (World.block_lt_of_cell? w _ hx214_0)).trans hx214_0; replace hx214_1 := (HB.out.cell (World.block_lt_of_cell? w _ hx214_1)).trans hx214_1; replace hx214_2 := (HB.out.cell (World.block_lt_of_cell? w _ hx214_2)).trans hx214_2; replace hx214_3 := (HB.out.cell (World.block_lt_of_cell? w _ hx214_3)).trans hx214_3; replace p214 := eq_true p214; replace q214 := eq_true q214; (have p215 : 0 ≤ (x6_1 : Int) := of_decide_eq_true (by first | (with_reducible assumption) | assumption)); (have q215 : x6_1 < (l0.length : Int) := of_decide_eq_true (by first | (with_reducible assumption) | assumption)); obtain ⟨ad215, e215, hx215_0, hx215_1, hx215_2, hx215_3⟩ := at_T68 HR0.out x6_1 p215 q215; obtain rfl : ad212 = ad215 := (by injection e215); replace hx215_0 := (HB.out.cell (World.block_lt_of_cell? w _ hx215_0)).trans hx215_0; replace hx215_1 := (HB.out.cell (World.block_lt_of_cell? w _ hx215_1)).trans hx215_1; replace hx215_2 := (HB.out.cell (World.block_lt_of_cell? w _ hx215_2)).trans hx215_2; replace hx215_3 := (HB.out.cell (World.block_lt_of_cell? w _ hx215_3)).trans hx215_3; replace p215 := eq_true p215; replace q215 := eq_true q215; obtain ⟨z07, z08, eo15⟩ := Kd.R_slice q1.out; subst eo15
               (go_wp2_with (first | (go_at_call 34; (with_reducible refine (spec_l8Num.calls kj4 _ _ x5_1 ((rd_T68 l0 x6_1).f2) t216 _ ?side1 ?side2 A14.out).mono ?_); (case side1 => exact ca (Kd.R_reads' q1.out).2.2); (case side2 => exact (Kd.R_reads' q1.out).2.1); rintro e w16 ⟨v217, rfl, ho0, hb⟩; have n0_ := q0_6 (Kd.R_elder' (ra q1.out) (Kd.R_base ho0) hb); have n1_ := q0_6 (Kd.R_lower (Kd.R_new' ho0 (Kd.R_lt (ra q1.out))) (below_size (q3_6))); have n2_ := q0_6 (below_step (q3_6) hb); clear q1; clear HB; have q1 := n0_; have qt := n1_; have HB := n2_; clear n0_ n1_ n2_; (try clear hb); (try clear hb2); (try clear hk); (try clear hi); (try clear ho0)))); (repeat (go_quiet (first | (go_at_call 34; (with_reducible refine (spec_l8Num.calls kj4 _ _ x5_1 ((rd_T68 l0 x6_1).f2) t216 _ ?side1 ?side2 A14.out).mono ?_); (case side1 => exact ca (Kd.R_reads' q1.out).2.2); (case side2 => exact (Kd.R_reads' q1.out).2.1); rintro e w16 ⟨v217, rfl, ho0, hb⟩; have n0_ := q0_6 (Kd.R_elder' (ra q1.out) (Kd.R_base ho0) hb); have n1_ := q0_6 (Kd.R_lower (Kd.R_new' ho0 (Kd.R_lt (ra q1.out))) (below_size (q3_6))); have n2_ := q0_6 (below_step (q3_6) hb); clear q1; clear HB; have q1 := n0_; have qt := n1_; have HB := n2_; clear n0_ n1_ n2_; (try clear hb); (try clear hb2); (try clear hk); (try clear hi); (try clear ho0))); try go_wp2_with (first | (go_at_call 34; (with_reducible refine (spec_l8Num.calls kj4 _ _ x5_1 ((rd_T68 l0 x6_1).f2) t216 _ ?side1 ?side2 A14.out).mono ?_); (case side1 => exact ca (Kd.R_reads' q1.out).2.2); (case side2 => exact (Kd.R_reads' q1.out).2.1); rintro e w16 ⟨v217, rfl, ho0, hb⟩; have n0_ := q0_6 (Kd.R_elder' (ra q1.out) (Kd.R_base ho0) hb); have n1_ := q0_6 (Kd.R_lower (Kd.R_new' ho0 (Kd.R_lt (ra q1.out))) (below_size (q3_6))); have n2_ := q0_6 (below_step (q3_6) hb); clear q1; clear HB; have q1 := n0_; have qt := n1_; have HB := n2_; clear n0_ n1_ n2_; (try clear hb); (try clear hb2); (try clear hk); (try clear hi); (try clear ho0))))); (go_roundg kj4)
               case measure => have := HK1.out; have := HJ4.out; omega
               case rel => exact ⟨(t216), (wrap64 (x6_1 + 1)), (by first | rfl | (simp; done) | (simp [*]; done)), H', ⟨by have := HK1.out; have := HJ4.out; omega⟩, ⟨by refine ra ?_; exact Kd.R_mono qt.out (fun _ hk => trivial)⟩, ⟨by exact (q3_6)⟩⟩
             · rw [if_neg c13] at H
               (have c13b0 : decide (a1 < (wrap64 (((rd_T68 l0 x6_1).f0) + ((rd_T68 l0 x6_1).f1)))) = false := decide_eq_false c13); clear c13; (have H' := q0_6 H); clear H; (have p212 : 0 ≤ (x6_1 : Int) := of_decide_eq_true (by first | (with_reducible assumption) | assumption)); (have q212 : x6_1 < (l0.length : Int) := of_decide_eq_true (by first | (with_reducible assumption) | assumption)); obtain ⟨ad212, e212, hx212_0, hx212_1, hx212_2, hx212_3⟩ := at_T68 HR0.out x6_1 p212 q212
               cases e212
               replace hx212_0 := (HB.out.cell (World.block_lt_of_cell? w _ hx212_0)).trans hx212_0; replace hx212_1 := (HB.out.cell (World.block_lt_of_cell? w _ hx212_1)).trans hx212_1; replace hx212_2 := (HB.out.cell (World.block_lt_of_cell? w _ hx212_2)).trans hx212_2; replace hx212_3 := (HB.out.cell (World.block_lt_of_cell? w _ hx212_3)).trans hx212_3; replace p212 := eq_true p212; replace q212 := eq_true q212; (have p213 : 0 ≤ (x6_1 : Int) := of_decide_eq_true (by first | (with_reducible assumption) | assumption)); (have q213 : x6_1 < (l0.length : Int) := of_decide_eq_true (by first | (with_reducible assumption) | assumption)); obtain ⟨ad213, e213, hx213_0, hx213_1, hx213_2, hx213_3⟩ := at_T68 HR0.out x6_1 p213 q213; obtain rfl : ad212 = ad213 := (by injection e213); replace hx213_0 := (HB.out.cell (World.block_lt_of_cell? w _ hx213_0)).trans hx213_0; replace hx213_1 := (HB.out.cell (World.block_lt_of_cell? w _ hx213_1)).trans hx213_1; replace hx213_2 := (HB.out.cell (World.block_lt_of_cell? w _ hx213_2)).trans hx213_2; replace hx213_3 := (HB.out.cell (World.block_lt_of_cell? w _ hx213_3)).trans hx213_3; replace p213 := eq_true p213; replace q213 := eq_true q213; (have p214 : 0 ≤ (x6_1 : Int) := of_decide_eq_true (by first | (with_reducible assumption) | assumption)); (have q214 : x6_1 < (l0.length : Int) := of_decide_eq_true (by first | (with_reducible assumption) | assumption)); obtain ⟨ad214, e214, hx214_0, hx214_1, hx214_2, hx214_3⟩ := at_T68 HR0.out x6_1 p214 q214; obtain rfl : ad212 = ad214 := (by injection e214); replace hx214_0 := (HB.out.cell (World.block_lt_of_cell? w _ hx214_0)).trans hx214_0; replace hx214_1 := (HB.out.cell (World.block_lt_of_cell? w _ hx214_1)).trans hx214_1; replace hx214_2 := (HB.out.cell (World.block_lt_of_cell? w _ hx214_2)).trans hx214_2; replace hx214_3 := (HB.out.cell (World.block_lt_of_cell? w _ hx214_3)).trans hx214_3; replace p214 := eq_true p214; replace q214 := eq_true q214; (go_wp2); (repeat (go_quiet (fail); try go_wp2)); (go_roundg kj4)
               case measure => have := HK1.out; have := HJ4.out; omega
               case rel => exact ⟨(x5_1), (wrap64 (x6_1 + 1)), (by first | rfl | (simp; done) | (simp [*]; done)), H', ⟨by have := HK1.out; have := HJ4.out; omega⟩, ⟨by refine ra ?_; exact q1.out⟩, ⟨by exact (q3_6)⟩⟩
           · rw [if_neg c12] at H
             (have c12b0 : decide (((rd_T68 l0 x6_1).f0) ≤ a1) = false := decide_eq_false c12); clear c12; (have H' := q0_6 H); clear H; (have p212 : 0 ≤ (x6_1 : Int) := of_decide_eq_true (by first | (with_reducible assumption) | assumption)); (have q212 : x6_1 < (l0.length : Int) := of_decide_eq_true (by first | (with_reducible assumption) | assumption)); obtain ⟨ad212, e212, hx212_0, hx212_1, hx212_2, hx212_3⟩ := at_T68 HR0.out x6_1 p212 q212
             cases e212
             replace hx212_0 := (HB.out.cell (World.block_lt_of_cell? w _ hx212_0)).trans hx212_0; replace hx212_1 := (HB.out.cell (World.block_lt_of_cell? w _ hx212_1)).trans hx212_1; replace hx212_2 := (HB.out.cell (World.block_lt_of_cell? w _ hx212_2)).trans hx212_2; replace hx212_3 := (HB.out.cell (World.block_lt_of_cell? w _ hx212_3)).trans hx212_3; replace p212 := eq_true p212; replace q212 := eq_true q212; (go_wp2); (repeat (go_quiet (fail); try go_wp2)); (go_roundg kj4)
             case measure => have := HK1.out; have := HJ4.out; omega
             case rel => exact ⟨(x5_1), (wrap64 (x6_1 + 1)), (by first | rfl | (simp; done) | (simp [*]; done)), H', ⟨by have := HK1.out; have := HJ4.out; omega⟩, ⟨by refine ra ?_; exact q1.out⟩, ⟨by exact (q3_6)⟩⟩
         · rw [if_neg c11] at H
           exact absurd H (by simp)
       · rw [if_neg c10] at H
         exact absurd H (by simp)
     · replace c9 := Bool.eq_false_iff.mpr c9
       subst c9; (have H1 : (some x5_1) = some r := by rw [if_neg (show ¬ (false = true) by decide)] at H; exact H); clear H; have H := H1; clear H1; obtain rfl := Option.some.inj H; (go_wp2); (repeat (go_quiet (fail); try go_wp2)); go_ret; (exact ⟨_, by first | rfl | (simp [errW_none, errW_some] <;> rfl) | (simp [*, errW_none, errW_some] <;> rfl), by refine ra ?_; exact q1.out, by exact (q3_6)⟩)
/-! ### spec_ChordAt: function 30 -/
def spec_ChordAt.f (k : Nat) (l0 : List (S68)) (a1 : Int) : Option (Int × Int × Bool) := (spec_SoundsAt.f k l0 a1).bind fun t220 => ((spec_ClassesOf.f k t220).bind fun t223 => ((spec_ChordOf.f k t223).bind fun bt226 => (some (bt226.1, bt226.2.1, bt226.2.2))))
theorem spec_ChordAt.mono : ∀ a0 a1 k, LeO (spec_ChordAt.f k a0 a1) (spec_ChordAt.f (k + 1) a0 a1) := by
 intro a0 a1 k; unfold spec_ChordAt.f
 repeat' first
  | (with_reducible exact spec_ChordOf.mono _ _)
  | (with_reducible exact spec_ClassesOf.mono _ _)
  | (with_reducible exact spec_SoundsAt.mono _ _ _)
  | (with_reducible exact LeO.refl _)
  | (with_reducible exact LeO.none _)
  | (with_reducible refine LeO.ite ?_ ?_)
  | (with_reducible refine LeO.bind ?_ (fun _ => ?_))
  | exact spec_ChordOf.mono _ _
  | exact spec_ClassesOf.mono _ _
  | exact spec_SoundsAt.mono _ _ _
  | exact LeO.none _
  | refine LeO.ite ?_ ?_
  | refine LeO.bind ?_ (fun _ => ?_)
set_option maxHeartbeats 8000000 in
set_option maxRecDepth 100000 in
theorem spec_ChordAt.calls (k : Nat) (A0 : Option Addr) (c0 : Nat) (l0 : List (S68)) (a1 : Int) (r1 : Int) (r2 : Int) (r3 : Bool) (w : World) (hr0 : Kd.C k68 w A0 l0.length l0) (hc0 : l0.length ≤ c0) (h : spec_ChordAt.f k l0 a1 = some (r1, r2, r3)) :
 Calls Try.prog 30 #[.slice A0 l0.length c0, .int .i64 a1] w fun e w' => e = .returned (.tuple #[.agg #[.int .i64 r1, .int .i64 r2], .bool r3]) ∧ Below w.heap.size w w' := by
 have hu30 := Try.underlying30; have HR0 := q0_6 hr0; have HC0 := q0_6 hc0; clear hr0 hc0; have HB := q0_6 (Below.refl w.heap.size w); (have H : ((spec_SoundsAt.f k l0 a1).bind fun t220 => ((spec_ClassesOf.f k t220).bind fun t223 => ((spec_ChordOf.f k t223).bind fun bt226 => (some (bt226.1, bt226.2.1, bt226.2.2))))) = some (r1, r2, r3) := h); clear h; replace H := Option.bind_eq_some_iff.mp H; obtain ⟨t220, A30, H⟩ := H; replace H : ((spec_ClassesOf.f k t220).bind fun t223 => ((spec_ChordOf.f k t223).bind fun bt226 => (some (bt226.1, bt226.2.1, bt226.2.2)))) = some (r1, r2, r3) := H; have A3 := q0_6 A30; clear A30; replace H := Option.bind_eq_some_iff.mp H; obtain ⟨t223, A40, H⟩ := H; replace H : ((spec_ChordOf.f k t223).bind fun bt226 => (some (bt226.1, bt226.2.1, bt226.2.2))) = some (r1, r2, r3) := H; have A4 := q0_6 A40; clear A40; replace H := Option.bind_eq_some_iff.mp H; obtain ⟨⟨t226, t227, t228⟩, A50, H⟩ := H; replace H : (some (t226, t227, t228)) = some (r1, r2, r3) := H; have A5 := q0_6 A50; clear A50; (simp only [Option.some.injEq, Prod.mk.injEq] at H); obtain ⟨rfl, rfl, rfl⟩ := H; go_enter Try.func30, Try.ntmps30
 (go_wp2_with (first | ((with_reducible refine gate_dst (N := 4) rfl ?_); refine box_event ?hg (N := 4) ?hd (cs := #[.int .i64 0, .int .i64 0]) (t := 30) ?hr ?_; (case hd => rfl); (case hg => rfl); (case hr => first | (go_simp; done) | (go_simp; rfl)); intro qi hg w6 hbox hb; have n0_ := q0_6 (below_step (q3_6) hb); have n1_ := q0_6 (hbox); have n2_ := q0_6 ((by rw [hg]; exact (below_size (q3_6)) : w.heap.size ≤ qi)); have n3_ := q0_6 ((by rw [hg]; exact (below_size (q3_6)) : w.heap.size ≤ qi)); clear HB; have HB := n0_; have q5 := n1_; have GW219 := n2_; have z03 := n3_; clear n0_ n1_ n2_ n3_; clear hb hbox hg) | ((with_reducible refine gate_callee (f := 54) rfl ?_); refine goesL_ (some 8) rfl rfl Try.func54 (by kernel_rfl) rfl #[.slice A0 l0.length c0, .int .i64 a1] rfl ma ?_; (with_reducible refine (spec_SoundsAt.calls k _ _ l0 a1 t220 _ ?side1 ?side2 A3.out).mono ?_); (case side1 => exact ca (Kd.C_below HR0.out HB.out)); (case side2 => exact HC0.out); rintro e w7 ⟨v221, rfl, ho0, hb⟩; refine ⟨_, rfl, ?_⟩; have n0_ := q0_6 (Kd.R_lower ho0 (below_size (qc_6))); have n1_ := q0_6 (bb q5.out hb); have n2_ := q0_6 (below_step (qc_6) hb); clear q5; clear HB; have q9 := n0_; have q5 := n1_; have HB := n2_; clear n0_ n1_ n2_; (try clear hb); (try clear hb2); (try clear hk); (try clear hi); (try clear ho0); obtain ⟨Ao8, co8, eo8⟩ := Kd.R_slice q9.out; subst eo8) | ((with_reducible refine gate_callee (f := 9) rfl ?_); refine goesL_ (some 9) rfl rfl Try.func9 (by kernel_rfl) rfl #[.slice Ao8 t220.length co8] rfl ma ?_; (with_reducible refine (spec_ClassesOf.calls k _ _ t220 t223 _ ?side1 ?side2 A4.out).mono ?_); (case side1 => exact ca (Kd.R_reads' q9.out).2.2); (case side2 => exact (Kd.R_reads' q9.out).2.1); rintro e w9 ⟨v224, rfl, ho0, hb⟩; refine ⟨_, rfl, ?_⟩; have n0_ := q0_6 (Kd.R_elder' (ra q9.out) (Kd.R_base ho0) hb); have n1_ := q0_6 (Kd.R_lower (Kd.R_new' ho0 (Kd.R_lt (ra q9.out))) (below_size (qc_6))); have n2_ := q0_6 (bb q5.out hb); have n3_ := q0_6 (below_step (qc_6) hb); clear q9; clear q5; clear HB; have q9 := n0_; have qh := n1_; have q5 := n2_; have HB := n3_; clear n0_ n1_ n2_ n3_; (try clear hb); (try clear hb2); (try clear hk); (try clear hi); (try clear ho0); obtain ⟨z02, qu, eo10⟩ := Kd.R_slice qh.out; subst eo10) | ((with_reducible refine gate_callee (f := 18) rfl ?_); refine goesL_ (some 10) rfl rfl Try.func18 (by kernel_rfl) rfl #[.slice z02 t223.length qu] rfl ma ?_; (with_reducible refine (spec_ChordOf.calls k _ _ t223 t226 t227 t228 _ ?side1 ?side2 A5.out).mono ?_); (case side1 => exact ca (Kd.R_reads' qh.out).2.2); (case side2 => exact (Kd.R_reads' qh.out).2.1); rintro e w11 ⟨rfl, hb⟩; refine ⟨_, rfl, ?_⟩; have n0_ := q0_6 (Kd.R_below (ra q9.out) hb); have n1_ := q0_6 (Kd.R_below (ra qh.out) hb); have n2_ := q0_6 (bb q5.out hb); have n3_ := q0_6 (below_step (qc_6) hb); clear q9; clear qh; clear q5; clear HB; have q9 := n0_; have qh := n1_; have q5 := n2_; have HB := n3_; clear n0_ n1_ n2_ n3_; (try clear hb); (try clear hb2); (try clear hk); (try clear hi); have hcz12_0 : w11.cell? ⟨qi, 0, none⟩ = some (.int .i64 0) := (blk_cell q5.out 0).trans rfl; have hcz12_1 : w11.cell? ⟨qi, 1, none⟩ = some (.int .i64 0) := (blk_cell q5.out 1).trans rfl; have hfz12_0 := blk_frozen q5.out 0; have hfz12_1 := blk_frozen q5.out 1)))
 refine bodyPost_ret (results_ct rfl _ _ qi 30 #[.int .i64 t226, .int .i64 t227] (0, 0) _ rfl (by refine ba ?_; refine blk_put (cs := #[.int .i64 t226, .int .i64 0]) ?_ 1 _ rfl; refine ba ?_; refine blk_put (cs := #[.int .i64 0, .int .i64 0]) ?_ 0 _ rfl; refine ba ?_; exact q5.out) Try.underlying30 rfl (by kernel_rfl)) rfl ?_; (exact ⟨by first | rfl | (simp [errW_none, errW_some] <;> rfl) | (simp [*, errW_none, errW_some] <;> rfl), by exact (qc_6)⟩)
/-! ### laws_toEvent: function 55 -/
def laws_toEvent.f (a0_0 : Int) (a0_1 : Int) (a0_2 : Int) (a0_3 : Int) : Option (Int × Int × Int × Int) := some (a0_0, a0_1, a0_2, a0_3)
set_option maxHeartbeats 8000000 in
set_option maxRecDepth 100000 in
theorem laws_toEvent.calls (a0_0 : Int) (a0_1 : Int) (a0_2 : Int) (a0_3 : Int) (r1 : Int) (r2 : Int) (r3 : Int) (r4 : Int) (w : World) (h : laws_toEvent.f a0_0 a0_1 a0_2 a0_3 = some (r1, r2, r3, r4)) :
 Calls Try.prog 55 #[.agg #[.int .i64 a0_0, .int .i64 a0_1, .int .i64 a0_2, .int .i64 a0_3]] w fun e w' => e = .returned (.agg #[.int .i64 r1, .int .i64 r2, .int .i64 r3, .int .i64 r4]) ∧ Below w.heap.size w w' := by
 have hu70 := Try.underlying70; have hu68 := Try.underlying68; have HB := q0_6 (Below.refl w.heap.size w); (have H : (some (a0_0, a0_1, a0_2, a0_3)) = some (r1, r2, r3, r4) := h); clear h; (simp only [Option.some.injEq, Prod.mk.injEq] at H); obtain ⟨rfl, rfl, rfl, rfl⟩ := H; go_enter Try.func55, Try.ntmps55
 (go_wp2_with (first | ((with_reducible refine gate_dst (N := 1) rfl ?_); refine box_event ?hg (N := 1) ?hd (cs := #[.int .i64 a0_0, .int .i64 a0_1, .int .i64 a0_2, .int .i64 a0_3]) (t := 70) ?hr ?_; (case hd => rfl); (case hg => rfl); (case hr => first | (go_simp; done) | (go_simp; rfl)); intro qa hg w2 hbox hb; have n0_ := q0_6 (below_step (q3_6) hb); have n1_ := q0_6 (hbox); have n2_ := q0_6 ((by rw [hg]; exact (below_size (q3_6)) : w.heap.size ≤ qa)); have n3_ := q0_6 ((by rw [hg]; exact (below_size (q3_6)) : w.heap.size ≤ qa)); clear HB; have HB := n0_; have q2 := n1_; have GW229 := n2_; have z04 := n3_; clear n0_ n1_ n2_ n3_; clear hb hbox hg) | ((with_reducible refine gate_dst (N := 2) rfl ?_); refine box_event ?hg (N := 2) ?hd (cs := #[.int .i64 0, .int .i64 0, .int .i64 0, .int .i64 0]) (t := 68) ?hr ?_; (case hd => rfl); (case hg => rfl); (case hr => first | (go_simp; done) | (go_simp; rfl)); intro q8 hg w3 hbox hb; have n0_ := q0_6 (bb q2.out hb); have n1_ := q0_6 (below_step (qj_6) hb); have n2_ := q0_6 (hbox); have n3_ := q0_6 ((by rw [hg]; exact (below_size (qj_6)) : w.heap.size ≤ q8)); have n4_ := q0_6 ((by rw [hg]; exact (below_size (qj_6)) : w.heap.size ≤ q8)); have n5_ := q0_6 ((by rw [hg]; exact Nat.ne_of_lt (bl q2.out) : qa ≠ q8)); have n6_ := q0_6 ((by rw [hg]; exact Nat.ne_of_gt (bl q2.out) : q8 ≠ qa)); clear q2; clear HB; have q2 := n0_; have HB := n1_; have q6 := n2_; have GW230 := n3_; have z05 := n4_; have qk := n5_; have ql := n6_; clear n0_ n1_ n2_ n3_ n4_ n5_ n6_; clear hb hbox hg) | ((with_reducible refine gate_dst (N := 3) rfl ?_); refine box_event ?hg (N := 3) ?hd (cs := #[.int .i64 0, .int .i64 0, .int .i64 0, .int .i64 0]) (t := 68) ?hr ?_; (case hd => rfl); (case hg => rfl); (case hr => first | (go_simp; done) | (go_simp; rfl)); intro qb hg w4 hbox hb; have n0_ := q0_6 (bb q2.out hb); have n1_ := q0_6 (bb q6.out hb); have n2_ := q0_6 (below_step (qf_6) hb); have n3_ := q0_6 (hbox); have n4_ := q0_6 ((by rw [hg]; exact (below_size (qf_6)) : w.heap.size ≤ qb)); have n5_ := q0_6 ((by rw [hg]; exact (below_size (qf_6)) : w.heap.size ≤ qb)); have n6_ := q0_6 ((by rw [hg]; exact Nat.ne_of_lt (bl q2.out) : qa ≠ qb)); have n7_ := q0_6 ((by rw [hg]; exact Nat.ne_of_gt (bl q2.out) : qb ≠ qa)); have n8_ := q0_6 ((by rw [hg]; exact Nat.ne_of_lt (bl q6.out) : q8 ≠ qb)); have n9_ := q0_6 ((by rw [hg]; exact Nat.ne_of_gt (bl q6.out) : qb ≠ q8)); clear q2; clear q6; clear HB; have q2 := n0_; have q6 := n1_; have HB := n2_; have qg := n3_; have GW231 := n4_; have z06 := n5_; have qm := n6_; have qn := n7_; have q7 := n8_; have qo := n9_; clear n0_ n1_ n2_ n3_ n4_ n5_ n6_ n7_ n8_ n9_; clear hb hbox hg; have hnb5 := qk.out; have hnc5 := ql.out; have hnb6 := qm.out; have hnc6 := qn.out; have hcz7_0 : w4.cell? ⟨qa, 0, none⟩ = some (.int .i64 a0_0) := (blk_cell q2.out 0).trans rfl; have hcz7_1 : w4.cell? ⟨qa, 1, none⟩ = some (.int .i64 a0_1) := (blk_cell q2.out 1).trans rfl; have hcz7_2 : w4.cell? ⟨qa, 2, none⟩ = some (.int .i64 a0_2) := (blk_cell q2.out 2).trans rfl; have hcz7_3 : w4.cell? ⟨qa, 3, none⟩ = some (.int .i64 a0_3) := (blk_cell q2.out 3).trans rfl; have hfz7_0 := blk_frozen q2.out 0; have hfz7_1 := blk_frozen q2.out 1; have hfz7_2 := blk_frozen q2.out 2; have hfz7_3 := blk_frozen q2.out 3; have hnb8 := qo.out; have hnc8 := q7.out; have hcz9_0 : w4.cell? ⟨qb, 0, none⟩ = some (.int .i64 0) := (blk_cell qg.out 0).trans rfl; have hcz9_1 : w4.cell? ⟨qb, 1, none⟩ = some (.int .i64 0) := (blk_cell qg.out 1).trans rfl; have hcz9_2 : w4.cell? ⟨qb, 2, none⟩ = some (.int .i64 0) := (blk_cell qg.out 2).trans rfl; have hcz9_3 : w4.cell? ⟨qb, 3, none⟩ = some (.int .i64 0) := (blk_cell qg.out 3).trans rfl; have hfz9_0 := blk_frozen qg.out 0; have hfz9_1 := blk_frozen qg.out 1; have hfz9_2 := blk_frozen qg.out 2; have hfz9_3 := blk_frozen qg.out 3; have hcz10_0 : w4.cell? ⟨q8, 0, none⟩ = some (.int .i64 0) := (blk_cell q6.out 0).trans rfl; have hcz10_1 : w4.cell? ⟨q8, 1, none⟩ = some (.int .i64 0) := (blk_cell q6.out 1).trans rfl; have hcz10_2 : w4.cell? ⟨q8, 2, none⟩ = some (.int .i64 0) := (blk_cell q6.out 2).trans rfl; have hcz10_3 : w4.cell? ⟨q8, 3, none⟩ = some (.int .i64 0) := (blk_cell q6.out 3).trans rfl; have hfz10_0 := blk_frozen q6.out 0; have hfz10_1 := blk_frozen q6.out 1; have hfz10_2 := blk_frozen q6.out 2; have hfz10_3 := blk_frozen q6.out 3)))
 refine bodyPost_ret (results_cell_row rfl _ _ q8 68 #[.int .i64 a0_0, .int .i64 a0_1, .int .i64 a0_2, .int .i64 a0_3] (0, 0) _ rfl (by refine ba ?_; refine blk_put (cs := #[.int .i64 a0_0, .int .i64 a0_1, .int .i64 a0_2, .int .i64 0]) ?_ 3 _ rfl; refine ba ?_; refine blk_put (cs := #[.int .i64 a0_0, .int .i64 a0_1, .int .i64 0, .int .i64 0]) ?_ 2 _ rfl; refine ba ?_; refine blk_put (cs := #[.int .i64 a0_0, .int .i64 0, .int .i64 0, .int .i64 0]) ?_ 1 _ rfl; refine ba ?_; refine blk_put (cs := #[.int .i64 0, .int .i64 0, .int .i64 0, .int .i64 0]) ?_ 0 _ rfl; refine ba ?_; refine blk_far ?_ q7.out _; refine ba ?_; refine blk_far ?_ q7.out _; refine ba ?_; refine blk_far ?_ q7.out _; refine ba ?_; refine blk_far ?_ q7.out _; refine ba ?_; exact q6.out) Try.underlying68 rfl (by kernel_rfl)) rfl ?_; (exact ⟨by first | rfl | (simp [errW_none, errW_some] <;> rfl) | (simp [*, errW_none, errW_some] <;> rfl), by exact (qr_6)⟩)
/-! ### laws_toEventS: function 31 -/
def laws_toEventS.l0 : Nat → List (S70) → List (S68) → Int → Option ((List (S68)))
 | 0, _, _, _ => none
 | k + 1, x0, x3, x4 => if x4 < (x0.length : Int) then (if 0 ≤ x4 then ((laws_toEvent.f ((rd_T70 x0 x4).f0) ((rd_T70 x0 x4).f1) ((rd_T70 x0 x4).f2) ((rd_T70 x0 x4).f3)).bind fun bt236 => (if x4 < (x3.length : Int) then (laws_toEventS.l0 k x0 (x3.set (x4 : Int).toNat (⟨bt236.1, bt236.2.1, bt236.2.2.1, bt236.2.2.2⟩ : S68)) (wrap64 (x4 + 1))) else (none))) else (none)) else (some x3)
def laws_toEventS.f (k : Nat) (l0 : List (S70)) : Option ((List (S68))) := if 0 ≤ (l0.length : Int) then (if ((l0.length : Int) : Int).toNat ≤ 8796093022208 then (laws_toEventS.l0 k l0 (List.replicate ((l0.length : Int) : Int).toNat z68) 0) else (none)) else (none)
theorem laws_toEventS.mono_l : ∀ k, (∀ y0 y1 y2, LeO (laws_toEventS.l0 k y0 y1 y2) (laws_toEventS.l0 (k + 1) y0 y1 y2))
 | 0 => fun _ _ _ r h => by simp [laws_toEventS.l0] at h
 | k + 1 => by
  have ih0 := laws_toEventS.mono_l k
  · intro y0 y1 y2
    unfold laws_toEventS.l0
    repeat' first
    | (with_reducible exact ih0 _ _ _)
    | (with_reducible exact LeO.refl _)
    | (with_reducible exact LeO.none _)
    | (with_reducible refine LeO.ite ?_ ?_)
    | (with_reducible refine LeO.bind ?_ (fun _ => ?_))
    | exact ih0 _ _ _
    | exact LeO.none _
    | refine LeO.ite ?_ ?_
    | refine LeO.bind ?_ (fun _ => ?_)
theorem laws_toEventS.mono : ∀ a0 k, LeO (laws_toEventS.f k a0) (laws_toEventS.f (k + 1) a0) := by
 intro a0 k; have ih0 := laws_toEventS.mono_l k; unfold laws_toEventS.f
 repeat' first
  | (with_reducible exact ih0 _ _ _)
  | (with_reducible exact LeO.refl _)
  | (with_reducible exact LeO.none _)
  | (with_reducible refine LeO.ite ?_ ?_)
  | (with_reducible refine LeO.bind ?_ (fun _ => ?_))
  | exact ih0 _ _ _
  | exact LeO.none _
  | refine LeO.ite ?_ ?_
  | refine LeO.bind ?_ (fun _ => ?_)
set_option maxHeartbeats 8000000 in
set_option maxRecDepth 100000 in
theorem laws_toEventS.calls (k : Nat) (A0 : Option Addr) (c0 : Nat) (l0 : List (S70)) (r : List (S68)) (w : World) (hr0 : Kd.C k70 w A0 l0.length l0) (hc0 : l0.length ≤ c0) (h : laws_toEventS.f k l0 = some r) :
 Calls Try.prog 31 #[.slice A0 l0.length c0] w fun e w' => ∃ v0_ : Value, e = .returned (v0_) ∧ Kd.R k68 68 w' w.heap.size (fun _ => True) v0_ r ∧ Below w.heap.size w w' := by
 have hu70 := Try.underlying70; have hu68 := Try.underlying68; have HR0 := q0_6 hr0; have HC0 := q0_6 hc0; clear hr0 hc0; have HB := q0_6 (Below.refl w.heap.size w); (have H : (if 0 ≤ (l0.length : Int) then (if ((l0.length : Int) : Int).toNat ≤ 8796093022208 then (laws_toEventS.l0 k l0 (List.replicate ((l0.length : Int) : Int).toNat z68) 0) else (none)) else (none)) = some r := h); clear h
 by_cases c2 : 0 ≤ (l0.length : Int)
 · rw [if_pos c2] at H
   have c2b0 := eq_true c2; (have c2b1 : decide (0 ≤ (l0.length : Int)) = true := decide_eq_true c2); clear c2
   by_cases c3 : ((l0.length : Int) : Int).toNat ≤ 8796093022208
   · rw [if_pos c3] at H
     have c3b0 := eq_true c3; (have c3b1 : decide (((l0.length : Int) : Int).toNat ≤ 8796093022208) = true := decide_eq_true c3); clear c3; obtain ⟨y232, hy232⟩ : ∃ y_ : List (S68), y_ = (List.replicate ((l0.length : Int) : Int).toNat z68) := ⟨_, rfl⟩; (replace H : (laws_toEventS.l0 k l0 y232 0) = some r := by first | (rw [hy232]; with_reducible exact H) | (have H2_ := (Option.bind_some _ _).symm.trans H; rw [hy232]; with_reducible exact H2_) | (have H2_ := (Option.bind_some _ _).symm.trans H; with_reducible exact H2_) | with_reducible exact H | (rw [hy232]; exact H) | exact H); have Ny232 := q0_6 hy232; clear hy232; (have H' := q0_6 H); clear H; go_enter Try.func31, Try.ntmps31; (go_wp2_with (first | ((with_reducible refine gate_dst (N := 7) rfl ?_); refine Kd.R_make k68 _ 68 rfl (N := 7) rfl 49 _ _ rfl (l0.length : Int) rfl rfl Try.underlying49 (.agg #[(.int .i64 0), (.int .i64 0), (.int .i64 0), (.int .i64 0)]) 32 info68 rfl (by decide) (by omega) z68 (ok := fun _ => True) (okp := fun _ => True) (k68_mkM _ _ _ z68 ) (fun _ hk => hk) trivial (of_decide_eq_true (by first | (with_reducible assumption) | assumption)) (Nat.le_trans (Nat.mul_le_mul_right _ (of_decide_eq_true (by first | (with_reducible assumption) | assumption) : (l0.length : Int).toNat ≤ 8796093022208)) (by omega)) (Below.refl _ _) (Nat.le_refl _) ?_; intro v233 w4 ho5 hb hg_ hnew_; clear hg_ hnew_; (first | rw [← Ny232.out] at ho5 | (simp only [Int.reduceToNat] at ho5; rw [← Ny232.out] at ho5)); have n0_ := q0_6 (Kd.R_lower ho5 (below_size (q3_6))); have n1_ := q0_6 (below_step (q3_6) hb); clear HB; have qw := n0_; have HB := n1_; clear n0_ n1_; clear hb ho5))); (go_loopg [4] k (fun kq v4 w' => ∃ (x3_1 : List (S68)) (x4_1 : Int), v4 = .int .i64 x4_1 ∧ Aside0 (laws_toEventS.l0 kq l0 x3_1 x4_1 = some r) ∧ Aside0 (kq ≤ k) ∧ Aside0 (Kd.R k68 68 w' w.heap.size (fun _ => True) v233 x3_1) ∧ Aside0 (Below w.heap.size w w')))
     case atStart => exact ⟨(y232), (0), (by first | rfl | (simp; done) | (simp [*]; done)), H', ⟨Nat.le_refl _⟩, ⟨by refine ra ?_; exact qw.out⟩, ⟨by exact (q3_6)⟩⟩
     case round =>
      clear H'; (try clear c2); (try clear c2b0); (try clear c2b1); (try clear p2); (try clear c3); (try clear c3b0); (try clear c3b1); obtain ⟨x3_1, x4_1, rfl, HA, HK1, q4, HB⟩ := hrel
      cases gk with
      | zero => exact absurd HA.out (by simp [laws_toEventS.l0])
      | succ k1 =>
       have H := HA.out; clear HA; (simp only [laws_toEventS.l0] at H)
       by_cases c6 : x4_1 < (l0.length : Int)
       · rw [if_pos c6] at H
         (have c6b0 : decide (x4_1 < (l0.length : Int)) = true := decide_eq_true c6); clear c6
         by_cases c7 : 0 ≤ x4_1
         · rw [if_pos c7] at H
           (have c7b0 : decide (0 ≤ x4_1) = true := decide_eq_true c7); clear c7; replace H := Option.bind_eq_some_iff.mp H; obtain ⟨⟨t236, t237, t238, t239⟩, A80, H⟩ := H; replace H : (if x4_1 < (x3_1.length : Int) then (laws_toEventS.l0 k1 l0 (x3_1.set (x4_1 : Int).toNat (⟨t236, t237, t238, t239⟩ : S68)) (wrap64 (x4_1 + 1))) else (none)) = some r := H; have A8 := q0_6 A80; clear A80
           by_cases c9 : x4_1 < (x3_1.length : Int)
           · rw [if_pos c9] at H
             (have c9b0 : decide (x4_1 < (x3_1.length : Int)) = true := decide_eq_true c9); clear c9; obtain ⟨y240, hy240⟩ : ∃ y_ : List (S68), y_ = (x3_1.set (x4_1 : Int).toNat (⟨t236, t237, t238, t239⟩ : S68)) := ⟨_, rfl⟩; (replace H : (laws_toEventS.l0 k1 l0 y240 (wrap64 (x4_1 + 1))) = some r := by first | (rw [hy240]; with_reducible exact H) | (have H2_ := (Option.bind_some _ _).symm.trans H; rw [hy240]; with_reducible exact H2_) | (have H2_ := (Option.bind_some _ _).symm.trans H; with_reducible exact H2_) | with_reducible exact H | (rw [hy240]; exact H) | exact H); have Ny240 := q0_6 hy240; clear hy240; (have H' := q0_6 H); clear H; (have p235 : 0 ≤ (x4_1 : Int) := of_decide_eq_true (by first | (with_reducible assumption) | assumption)); (have q235 : x4_1 < (l0.length : Int) := of_decide_eq_true (by first | (with_reducible assumption) | assumption)); obtain ⟨ad235, e235, hx235_0, hx235_1, hx235_2, hx235_3⟩ := at_T70 HR0.out x4_1 p235 q235
             cases e235
             replace hx235_0 := (HB.out.cell (World.block_lt_of_cell? w _ hx235_0)).trans hx235_0; replace hx235_1 := (HB.out.cell (World.block_lt_of_cell? w _ hx235_1)).trans hx235_1; replace hx235_2 := (HB.out.cell (World.block_lt_of_cell? w _ hx235_2)).trans hx235_2; replace hx235_3 := (HB.out.cell (World.block_lt_of_cell? w _ hx235_3)).trans hx235_3; replace p235 := eq_true p235; replace q235 := eq_true q235
             (go_wp2_with (first | ((with_reducible refine gate_callee (f := 55) rfl ?_); refine goesL_ (some 20) rfl rfl Try.func55 (by kernel_rfl) rfl #[.agg #[.int .i64 ((rd_T70 l0 x4_1).f0), .int .i64 ((rd_T70 l0 x4_1).f1), .int .i64 ((rd_T70 l0 x4_1).f2), .int .i64 ((rd_T70 l0 x4_1).f3)]] rfl ma ?_; (with_reducible refine (laws_toEvent.calls ((rd_T70 l0 x4_1).f0) ((rd_T70 l0 x4_1).f1) ((rd_T70 l0 x4_1).f2) ((rd_T70 l0 x4_1).f3) t236 t237 t238 t239 _ A8.out).mono ?_); rintro e w11 ⟨rfl, hb⟩; refine ⟨_, rfl, ?_⟩; have n0_ := q0_6 (Kd.R_below (ra q4.out) hb); have n1_ := q0_6 (below_step (q3_6) hb); clear q4; clear HB; have q4 := n0_; have HB := n1_; clear n0_ n1_; (try clear hb); (try clear hb2); (try clear hk); (try clear hi); have p10 : 0 ≤ (x4_1 : Int) := of_decide_eq_true (by first | (with_reducible assumption) | assumption); have q10 : (x4_1 : Int) < ((x3_1.length : Int) : Int) := of_decide_eq_true (by first | (with_reducible assumption) | assumption); obtain ⟨go10, qu, eo10, qx, gl10, cl10, HG10⟩ := Kd.R_form q4.out (by omega); (first | cases eo10 | (injection eo10 with ea_ en_ ec_; (first | subst ea_ | (injection ea_ with ea_; subst ea_)); subst ec_; clear en_)); have GB10 := q0_6 qx; have GG10 := q0_6 HG10; clear qx gl10 HG10; obtain ⟨ce10, hcl10, hM10, hcc10, hfr10⟩ := Kd.R_elem q4.out z68 (x4_1 : Int) p10 q10; obtain rfl := k68_openM hM10; have hx10_0 : w11.cell? ⟨go10, (x4_1 : Int).toNat * 4, none⟩ = some (.int .i64 ((rd_T68 x3_1 x4_1).f0)) := hcc10 0 _ rfl; have hx10_1 : w11.cell? ⟨go10, (x4_1 : Int).toNat * 4 + 1, none⟩ = some (.int .i64 ((rd_T68 x3_1 x4_1).f1)) := hcc10 1 _ rfl; have hx10_2 : w11.cell? ⟨go10, (x4_1 : Int).toNat * 4 + 2, none⟩ = some (.int .i64 ((rd_T68 x3_1 x4_1).f2)) := hcc10 2 _ rfl; have hx10_3 : w11.cell? ⟨go10, (x4_1 : Int).toNat * 4 + 3, none⟩ = some (.int .i64 ((rd_T68 x3_1 x4_1).f3)) := hcc10 3 _ rfl; have hf10_0 : w11.frozen? ⟨go10, (x4_1 : Int).toNat * 4, none⟩ = false := hfr10 0; have hf10_1 : w11.frozen? ⟨go10, (x4_1 : Int).toNat * 4 + 1, none⟩ = false := hfr10 1; have hf10_2 : w11.frozen? ⟨go10, (x4_1 : Int).toNat * 4 + 2, none⟩ = false := hfr10 2; have hf10_3 : w11.frozen? ⟨go10, (x4_1 : Int).toNat * 4 + 3, none⟩ = false := hfr10 3; clear hcl10 hcc10 hfr10 hM10; replace p10 := eq_true p10; replace q10 := eq_true q10; have HX12 := q0_6 (show Kd.R k68 68 w11 w.heap.size (fun _ => True) (.slice (some ⟨go10, 0, none⟩) x3_1.length qu) x3_1 from (ra q4.out)); obtain ⟨ce12, hcl12, hM12, hcc12, hfr12⟩ := Kd.R_elem HX12.out z68 (x4_1 : Int) (of_decide_eq_true (by first | (with_reducible assumption) | assumption)) (by have h_ : (x4_1 : Int) < ((x3_1.length : Int) : Int) := of_decide_eq_true (by first | (with_reducible assumption) | assumption); first | exact h_ | (have e_ := (Kd.R_reads' q4.out).1; omega) | simpa using h_); obtain rfl := k68_openM hM12; have HP12 := Kd.R_seg HX12.out (x4_1 : Int) (of_decide_eq_true (by first | (with_reducible assumption) | assumption)) (by have h_ : (x4_1 : Int) < ((x3_1.length : Int) : Int) := of_decide_eq_true (by first | (with_reducible assumption) | assumption); first | exact h_ | (have e_ := (Kd.R_reads' q4.out).1; omega) | simpa using h_) (seg := [.int .i64 t236, .int .i64 t237, .int .i64 t238, .int .i64 t239]) (j := 0) hcl12 hcc12 (show 4 ≤ 4 from by decide) (x' := (⟨t236, t237, t238, t239⟩ : S68)) (k68_mkM _ _ _ (⟨t236, t237, t238, t239⟩ : S68) ) (fun _ hk => hk); have hx12_0 := hcc12 0 _ rfl; (try simp only [show (k68).sz = 4 from rfl, Nat.mul_one, Nat.add_zero] at hx12_0); have hf12_0 := hfr12 0; (try simp only [show (k68).sz = 4 from rfl, Nat.mul_one, Nat.add_zero] at hf12_0); have hx12_1 := hcc12 1 _ rfl; (try simp only [show (k68).sz = 4 from rfl, Nat.mul_one, Nat.add_zero] at hx12_1); have hf12_1 := hfr12 1; (try simp only [show (k68).sz = 4 from rfl, Nat.mul_one, Nat.add_zero] at hf12_1); have hx12_2 := hcc12 2 _ rfl; (try simp only [show (k68).sz = 4 from rfl, Nat.mul_one, Nat.add_zero] at hx12_2); have hf12_2 := hfr12 2; (try simp only [show (k68).sz = 4 from rfl, Nat.mul_one, Nat.add_zero] at hf12_2); have hx12_3 := hcc12 3 _ rfl; (try simp only [show (k68).sz = 4 from rfl, Nat.mul_one, Nat.add_zero] at hx12_3); have hf12_3 := hfr12 3; (try simp only [show (k68).sz = 4 from rfl, Nat.mul_one, Nat.add_zero] at hf12_3); clear hcl12 hcc12 hfr12 hM12) | ((with_reducible refine gate_store (t := 68) (p := 21) rfl ?_); refine store_event (t := 68) (p := 21) (v := ?vo_w13) (w1 := ((((w11.setCell ⟨go10, (x4_1 : Int).toNat * 4, none⟩ (.int .i64 t236)).setCell ⟨go10, (x4_1 : Int).toNat * 4 + 1, none⟩ (.int .i64 t237)).setCell ⟨go10, (x4_1 : Int).toNat * 4 + 2, none⟩ (.int .i64 t238)).setCell ⟨go10, (x4_1 : Int).toNat * 4 + 3, none⟩ (.int .i64 t239))) ?hg ?ho ?hn ?hr ?_; (case ho => rfl); (case hg => rfl); (case hn => rfl); (case hr => first | (go_simp; done) | (go_simp; rfl)); intro w13 hw; have hg : w11.grownBy w13 (some go10) := (by rw [hw]; exact HP12.2); have hp_ : Kd.R k68 68 w13 w.heap.size (fun _ => True) (.slice (some ⟨go10, 0, none⟩) x3_1.length qu) y240 := (by rw [hw, Ny240.out]; exact HP12.1); clear HP12; have n0_ := q0_6 (hp_); have n1_ := q0_6 ((by rw [hw]; exact below_set (below_set (below_set (below_set (HB.out) GB10.out) GB10.out) GB10.out) GB10.out : Below w.heap.size w w13)); clear q4; clear HB; have q4 := n0_; have HB := n1_; clear n0_ n1_; clear hg hw hp_)))
             (go_roundg k1)
             case measure => have := HK1.out; omega
             case rel => exact ⟨(y240), (wrap64 (x4_1 + 1)), (by first | rfl | (simp; done) | (simp [*]; done)), H', ⟨by have := HK1.out; omega⟩, ⟨by refine ra ?_; exact q4.out⟩, ⟨by exact (q3_6)⟩⟩
           · rw [if_neg c9] at H
             exact absurd H (by simp)
         · rw [if_neg c7] at H
           exact absurd H (by simp)
       · rw [if_neg c6] at H
         (have c6b0 : decide (x4_1 < (l0.length : Int)) = false := decide_eq_false c6); clear c6; obtain rfl := Option.some.inj H; (go_wp2); go_ret; (exact ⟨_, by first | rfl | (simp [errW_none, errW_some] <;> rfl) | (simp [*, errW_none, errW_some] <;> rfl), by refine ra ?_; exact q4.out, by exact (q3_6)⟩)
   · rw [if_neg c3] at H
     exact absurd H (by simp)
 · rw [if_neg c2] at H
   exact absurd H (by simp)
/-! ### impl_InRange: function 59 -/
def impl_InRange.f (a0 : Int) (a1 : Int) (a2 : Int) : Option (Bool) := if a1 ≤ a0 then (some (decide (a0 ≤ a2))) else (some false)
set_option maxHeartbeats 8000000 in
set_option maxRecDepth 100000 in
theorem impl_InRange.calls (a0 : Int) (a1 : Int) (a2 : Int) (r : Bool) (w : World) (h : impl_InRange.f a0 a1 a2 = some r) :
 Calls Try.prog 59 #[.int .i64 a0, .int .i64 a1, .int .i64 a2] w fun e w' => e = .returned (.bool r) ∧ Drawn0 w w' := by
 (have H : (if a1 ≤ a0 then (some (decide (a0 ≤ a2))) else (some false)) = some r := h); clear h
 by_cases c4 : a1 ≤ a0
 · rw [if_pos c4] at H
   (have c4b0 : decide (a1 ≤ a0) = true := decide_eq_true c4); clear c4; obtain rfl := Option.some.inj H; go_enter Try.func59, Try.ntmps59; (go_wp2); go_ret; exact ⟨by first | rfl | (simp; done) | (simp [*]; done), by repeat (first | exact Drawn0.refl _ | apply Drawn0.step)⟩
 · rw [if_neg c4] at H
   (have c4b0 : decide (a1 ≤ a0) = false := decide_eq_false c4); clear c4; obtain rfl := Option.some.inj H; go_enter Try.func59, Try.ntmps59; (go_wp2); go_ret; exact ⟨by first | rfl | (simp; done) | (simp [*]; done), by repeat (first | exact Drawn0.refl _ | apply Drawn0.step)⟩
/-! ### impl_Mod: function 36 -/
def impl_Mod.f (a0 : Int) (a1 : Int) : Option (Int) := (impl_InRange.f a1 1 1000000000000).bind fun t241 => (if t241 = true then (if a1 = 0 then (none) else (some (Int.tmod (wrap64 ((Int.tmod a0 a1) + a1)) a1))) else (some 0))
set_option maxHeartbeats 8000000 in
set_option maxRecDepth 100000 in
theorem impl_Mod.calls (a0 : Int) (a1 : Int) (r : Int) (w : World) (h : impl_Mod.f a0 a1 = some r) :
 Calls Try.prog 36 #[.int .i64 a0, .int .i64 a1] w fun e w' => e = .returned (.int .i64 r) ∧ Drawn0 w w' := by
 (have H : ((impl_InRange.f a1 1 1000000000000).bind fun t241 => (if t241 = true then (if a1 = 0 then (none) else (some (Int.tmod (wrap64 ((Int.tmod a0 a1) + a1)) a1))) else (some 0))) = some r := h); clear h; replace H := Option.bind_eq_some_iff.mp H; obtain ⟨t241, A30, H⟩ := H; replace H : (if t241 = true then (if a1 = 0 then (none) else (some (Int.tmod (wrap64 ((Int.tmod a0 a1) + a1)) a1))) else (some 0)) = some r := H; have A3 := q0_6 A30; clear A30
 by_cases c4 : t241 = true
 · subst c4
   have H1 : (if a1 = 0 then (none) else (some (Int.tmod (wrap64 ((Int.tmod a0 a1) + a1)) a1))) = some r := by rw [if_pos rfl] at H; exact H
   clear H; have H := H1; clear H1
   by_cases c5 : a1 = 0
   · rw [if_pos c5] at H
     exact absurd H (by simp)
   · rw [if_neg c5] at H
     (have c5b0 : (a1 == 0) = false := beq_eq_false_iff_ne.mpr c5); (have c5b1 : (a1 != 0) = true := bne_iff_ne.mpr c5); obtain rfl := Option.some.inj H; go_enter Try.func36, Try.ntmps36; (go_wp2_with (first | ((with_reducible refine gate_callee (f := 59) rfl ?_); refine goesL_ (some 6) rfl rfl Try.func59 (by kernel_rfl) rfl #[.int .i64 a1, .int .i64 1, .int .i64 1000000000000] rfl ma ?_; (with_reducible refine (impl_InRange.calls a1 1 1000000000000 true _ A3.out).mono ?_); rintro e w' ⟨rfl, ⟨nd, rfl⟩⟩; refine ⟨_, rfl, ?_⟩))); go_ret; exact ⟨by first | rfl | (simp; done) | (simp [*]; done), by repeat (first | exact Drawn0.refl _ | apply Drawn0.step)⟩
 · replace c4 := Bool.eq_false_iff.mpr c4
   subst c4; (have H1 : (some 0) = some r := by rw [if_neg (show ¬ (false = true) by decide)] at H; exact H); clear H; have H := H1; clear H1; obtain rfl := Option.some.inj H; go_enter Try.func36, Try.ntmps36; (go_wp2_with (first | ((with_reducible refine gate_callee (f := 59) rfl ?_); refine goesL_ (some 6) rfl rfl Try.func59 (by kernel_rfl) rfl #[.int .i64 a1, .int .i64 1, .int .i64 1000000000000] rfl ma ?_; (with_reducible refine (impl_InRange.calls a1 1 1000000000000 false _ A3.out).mono ?_); rintro e w' ⟨rfl, ⟨nd, rfl⟩⟩; refine ⟨_, rfl, ?_⟩))); go_ret; exact ⟨by first | rfl | (simp; done) | (simp [*]; done), by repeat (first | exact Drawn0.refl _ | apply Drawn0.step)⟩
/-! ### slices_Sort_int_int: function 37 -/
def slices_Sort_int_int.f (l0 : List Int) : Option (List Int) := if l0.length < 4611686018427387904 then some (ShSort.sorted l0) else none
theorem slices_Sort_int_int.calls (P0_ : Nat → Prop) (u9000_ : Value) (l0 : List Int) (r : List Int) (w0 w : World) (hB : Below w0.heap.size w0 w) (ho0 : Kd.R (Kd.int .i64) 3 w w0.heap.size P0_ u9000_ l0) (h : slices_Sort_int_int.f l0 = some r) :
 Calls Try.prog 37 #[u9000_] w fun e w' => e = .returned (.tuple #[]) ∧ Kd.R (Kd.int .i64) 3 w' w0.heap.size (fun k_ => (P0_ k_ ∨ w.heap.size ≤ k_)) u9000_ r ∧ Below w0.heap.size w0 w' ∧ Kept w w' (fun k_ => P0_ k_) := by
 unfold slices_Sort_int_int.f at h
 by_cases c : l0.length < 4611686018427387904
 · rw [if_pos c] at h
   obtain rfl := Option.some.inj h; exact ShSort.sort_calls Lay.laySort 3 P0_ u9000_ l0 w0 w hB ho0 c
 · rw [if_neg c] at h; cases h
/-! ### slices_Compact_int_int: function 38 -/
def slices_Compact_int_int.f (k : Nat) (l0 : List Int) : Option (List Int) := some (Go.Lib.compact l0)
theorem slices_Compact_int_int.mono : ∀ a0 k, LeO (slices_Compact_int_int.f k a0) (slices_Compact_int_int.f (k + 1) a0) := fun _ _ => LeO.refl _
theorem slices_Compact_int_int.calls (k : Nat) (P0_ : Nat → Prop) (u9000_ : Value) (l0 : List Int) (r : List Int) (w0 w : World) (hB : Below w0.heap.size w0 w) (ho0 : Kd.R (Kd.int .i64) 3 w w0.heap.size P0_ u9000_ l0) (h : slices_Compact_int_int.f k l0 = some r) :
 Calls Try.prog 38 #[u9000_] w fun e w' => ∃ v0_ : Value, e = .returned (v0_) ∧ Kd.R (Kd.int .i64) 3 w' w0.heap.size (fun k_ => (P0_ k_ ∨ w.heap.size ≤ k_)) v0_ r ∧ Below w0.heap.size w0 w' ∧ Kept w w' (fun k_ => P0_ k_) := by
 obtain rfl := Option.some.inj h; exact ShCompact.compact_calls Lay.layCompact _ P0_ u9000_ l0 w0 w hB ho0
/-! ### impl_ClassesOf: function 11 -/
def impl_ClassesOf.l0 : Nat → List Int → List Int → Int → Int → Option (List Int)
 | 0, _, _, _, _ => none
 | k + 1, x3, x7, x8, x9 => if x9 < x8 then (if 0 ≤ x9 then (if x9 < (x7.length : Int) then ((impl_Mod.f (rd x7 x9) 12).bind fun t263 => (if x3.length < 17592186044416 then (impl_ClassesOf.l0 k (x3 ++ [t263]) x7 x8 (wrap64 (x9 + 1))) else (none))) else (none)) else (none)) else ((slices_Sort_int_int.f x3).bind fun t267 => ((slices_Compact_int_int.f k t267).bind fun t268 => (some t268)))
def impl_ClassesOf.f (k : Nat) (l0 : List Int) : Option (List Int) := impl_ClassesOf.l0 k (([] : List Int)) l0 (l0.length : Int) 0
theorem impl_ClassesOf.mono_l : ∀ k, (∀ y0 y1 y2 y3, LeO (impl_ClassesOf.l0 k y0 y1 y2 y3) (impl_ClassesOf.l0 (k + 1) y0 y1 y2 y3))
 | 0 => fun _ _ _ _ r h => by simp [impl_ClassesOf.l0] at h
 | k + 1 => by
  have ih0 := impl_ClassesOf.mono_l k
  · intro y0 y1 y2 y3
    unfold impl_ClassesOf.l0
    repeat' first
    | (with_reducible exact ih0 _ _ _ _)
    | (with_reducible exact slices_Compact_int_int.mono _ _)
    | (with_reducible exact LeO.refl _)
    | (with_reducible exact LeO.none _)
    | (with_reducible refine LeO.ite ?_ ?_)
    | (with_reducible refine LeO.bind ?_ (fun _ => ?_))
    | exact ih0 _ _ _ _
    | exact slices_Compact_int_int.mono _ _
    | exact LeO.none _
    | refine LeO.ite ?_ ?_
    | refine LeO.bind ?_ (fun _ => ?_)
theorem impl_ClassesOf.mono : ∀ a0 k, LeO (impl_ClassesOf.f k a0) (impl_ClassesOf.f (k + 1) a0) := by
 intro a0 k; have ih0 := impl_ClassesOf.mono_l k; unfold impl_ClassesOf.f
 repeat' first
  | (with_reducible exact ih0 _ _ _ _)
  | (with_reducible exact slices_Compact_int_int.mono _ _)
  | (with_reducible exact LeO.refl _)
  | (with_reducible exact LeO.none _)
  | (with_reducible refine LeO.ite ?_ ?_)
  | (with_reducible refine LeO.bind ?_ (fun _ => ?_))
  | exact ih0 _ _ _ _
  | exact slices_Compact_int_int.mono _ _
  | exact LeO.none _
  | refine LeO.ite ?_ ?_
  | refine LeO.bind ?_ (fun _ => ?_)
set_option maxHeartbeats 8000000 in
set_option maxRecDepth 100000 in
theorem impl_ClassesOf.calls (k : Nat) (A0 : Option Addr) (c0 : Nat) (l0 : List Int) (r : List Int) (w : World) (hr0 : Kd.C (Kd.int .i64) w A0 l0.length l0) (hc0 : l0.length ≤ c0) (h : impl_ClassesOf.f k l0 = some r) :
 Calls Try.prog 11 #[.slice A0 l0.length c0] w fun e w' => ∃ v0_ : Value, e = .returned (v0_) ∧ Kd.R (Kd.int .i64) 3 w' w.heap.size (fun _ => True) v0_ r ∧ Below w.heap.size w w' := by
 have HR0 := q0_6 hr0; have HC0 := q0_6 hc0; clear hr0 hc0; have HB := q0_6 (Below.refl w.heap.size w); (have H : (impl_ClassesOf.l0 k (([] : List Int)) l0 (l0.length : Int) 0) = some r := h); clear h; obtain ⟨y259, hy259⟩ : ∃ y_ : List Int, y_ = (([] : List Int)) := ⟨_, rfl⟩; (replace H : (impl_ClassesOf.l0 k y259 l0 (l0.length : Int) 0) = some r := by first | (rw [hy259]; with_reducible exact H) | (have H2_ := (Option.bind_some _ _).symm.trans H; rw [hy259]; with_reducible exact H2_) | (have H2_ := (Option.bind_some _ _).symm.trans H; with_reducible exact H2_) | with_reducible exact H | (rw [hy259]; exact H) | exact H); have Ny259 := q0_6 hy259; clear hy259; (have H' := q0_6 H); clear H; go_enter Try.func11, Try.ntmps11; (go_wp2_with (first | ((with_reducible refine gate_dst (N := 6) rfl ?_); refine Kd.R_lit (Kd.int .i64) _ 3 ?hg (N := 6) ?hd (xs := ([] : List Int)) (inner := []) (ok := fun _ => True) (okp := fun _ => True) ?hr ?hp (fun _ hk => hk) trivial (Below.refl _ _) (Nat.le_refl _) (by simp) ?_; (case hd => rfl); (case hg => rfl); (case hr => first | (go_simp; done) | (go_simp; rfl)); (case hp => exact (Reps.none _ _)); intro v260 w2 ho3 hb hg_ hnew_; clear hg_ hnew_; (first | rw [← Ny259.out] at ho3 | (simp only [Int.reduceToNat] at ho3; rw [← Ny259.out] at ho3)); have n0_ := q0_6 (Kd.R_lower ho3 (below_size (q3_6))); have n1_ := q0_6 (below_step (q3_6) hb); clear HB; have qy := n0_; have HB := n1_; clear n0_ n1_; clear hb ho3))); (go_loopg [3, 9] k (fun kq v3 v9 w' => ∃ (x3_1 : List Int) (x9_1 : Int), v9 = .int .i64 x9_1 ∧ Aside0 (impl_ClassesOf.l0 kq x3_1 l0 (l0.length : Int) x9_1 = some r) ∧ Aside0 (kq ≤ k) ∧ Aside0 (Kd.R (Kd.int .i64) 3 w' w.heap.size (fun _ => True) v3 x3_1) ∧ Aside0 (Below w.heap.size w w')))
 case atStart => exact ⟨(y259), (0), (by first | rfl | (simp; done) | (simp [*]; done)), H', ⟨Nat.le_refl _⟩, ⟨by refine ra ?_; exact qy.out⟩, ⟨by exact (q3_6)⟩⟩
 case round =>
  clear H'; (try clear c1); (try clear p2); obtain ⟨x3_1, x9_1, rfl, HA, HK1, q4, HB⟩ := hrel
  cases gk with
  | zero => exact absurd HA.out (by simp [impl_ClassesOf.l0])
  | succ k1 =>
   have H := HA.out; clear HA; (simp only [impl_ClassesOf.l0] at H)
   by_cases c4 : x9_1 < (l0.length : Int)
   · rw [if_pos c4] at H
     (have c4b0 : decide (x9_1 < (l0.length : Int)) = true := decide_eq_true c4); clear c4
     by_cases c5 : 0 ≤ x9_1
     · rw [if_pos c5] at H
       (have c5b0 : decide (0 ≤ x9_1) = true := decide_eq_true c5); clear c5
       by_cases c6 : x9_1 < (l0.length : Int)
       · rw [if_pos c6] at H
         (have c6b0 : decide (x9_1 < (l0.length : Int)) = true := decide_eq_true c6); clear c6; replace H := Option.bind_eq_some_iff.mp H; obtain ⟨t263, A70, H⟩ := H; replace H : (if x3_1.length < 17592186044416 then (impl_ClassesOf.l0 k1 (x3_1 ++ [t263]) l0 (l0.length : Int) (wrap64 (x9_1 + 1))) else (none)) = some r := H; have A7 := q0_6 A70; clear A70
         by_cases c8 : x3_1.length < 17592186044416
         · rw [if_pos c8] at H
           have LMc8 := q0_6 c8; clear c8; obtain ⟨y264, hy264⟩ : ∃ y_ : List Int, y_ = (x3_1 ++ [t263]) := ⟨_, rfl⟩; (replace H : (impl_ClassesOf.l0 k1 y264 l0 (l0.length : Int) (wrap64 (x9_1 + 1))) = some r := by first | (rw [hy264]; with_reducible exact H) | (have H2_ := (Option.bind_some _ _).symm.trans H; rw [hy264]; with_reducible exact H2_) | (have H2_ := (Option.bind_some _ _).symm.trans H; with_reducible exact H2_) | with_reducible exact H | (rw [hy264]; exact H) | exact H); have Ny264 := q0_6 hy264; clear hy264; (have H' := q0_6 H); clear H; (have p262 : 0 ≤ (x9_1 : Int) := of_decide_eq_true (by first | (with_reducible assumption) | assumption)); (have q262 : x9_1 < (l0.length : Int) := of_decide_eq_true (by first | (with_reducible assumption) | assumption)); obtain ⟨ad262, e262, hx262_0⟩ := Kd.at_int HR0.out x9_1 p262 q262
           cases e262
           replace hx262_0 := (HB.out.cell (World.block_lt_of_cell? w _ hx262_0)).trans hx262_0; replace p262 := eq_true p262; replace q262 := eq_true q262; (go_wp2_with (first | ((with_reducible refine gate_callee (f := 36) rfl ?_); refine goesL_ (some 15) rfl rfl Try.func36 (by kernel_rfl) rfl #[.int .i64 (rd l0 x9_1), .int .i64 12] rfl ma ?_; (with_reducible refine (impl_Mod.calls (rd l0 x9_1) 12 t263 _ A7.out).mono ?_); rintro e w' ⟨rfl, ⟨nd, rfl⟩⟩; refine ⟨_, rfl, ?_⟩) | ((with_reducible refine gate_builtin (b := .append) (xs := #[.tmp 13, .tmp 16]) rfl ?_); at_builtin; refine Kd.R_append (Kd.int .i64) (w0 := w) w.heap.size rfl (.tmp 13) (.tmp 16) 22 3 (.int .i64 0) 8 rfl Try.underlying22 info3 rfl (by decide) (by omega) u3 x3_1 t263 [.int .i64 t263] (fun _ => True) (fun _ => False) rfl rfl ?aP (fun _ hk => hk.elim) ?aF ?aO ?aB ?aS ?aL ?_; (case aP => exact rfl); (case aB => exact (q3_6)); (case aF => exact (fun _ _ => trivial)); (case aO => exact (ra q4.out)); (case aS => exact (below_size (q3_6))); (case aL => have := LMc8.out; omega); intro v265 w9 ho hb hg hat; rw [← Ny264.out] at ho; have n0_ := q0_6 (hb); have n1_ := q0_6 (ho); clear HB; clear q4; have HB := n0_; have qz := n1_; clear n0_ n1_; clear ho hb hg hat))); (go_roundg k1)
           case measure => have := HK1.out; omega
           case rel => exact ⟨(y264), (wrap64 (x9_1 + 1)), (by first | rfl | (simp; done) | (simp [*]; done)), H', ⟨by have := HK1.out; omega⟩, ⟨by refine ra ?_; exact qz.out⟩, ⟨by exact (q3_6)⟩⟩
         · rw [if_neg c8] at H
           exact absurd H (by simp)
       · rw [if_neg c6] at H
         exact absurd H (by simp)
     · rw [if_neg c5] at H
       exact absurd H (by simp)
   · rw [if_neg c4] at H
     (have c4b0 : decide (x9_1 < (l0.length : Int)) = false := decide_eq_false c4); clear c4; replace H := Option.bind_eq_some_iff.mp H; obtain ⟨t267, A100, H⟩ := H; replace H : ((slices_Compact_int_int.f k1 t267).bind fun t268 => (some t268)) = some r := H; have A10 := q0_6 A100; clear A100; replace H := Option.bind_eq_some_iff.mp H; obtain ⟨t268, A110, H⟩ := H; replace H : (some t268) = some r := H; have A11 := q0_6 A110; clear A110; obtain rfl := Option.some.inj H; obtain ⟨qp, qq, eo12⟩ := Kd.R_slice q4.out; subst eo12; (go_wp2_with (first | ((with_reducible refine gate_callee (f := 37) rfl ?_); refine goesL_ (some 20) rfl rfl Try.func37 (by kernel_rfl) rfl #[.slice qp x3_1.length qq] rfl ma ?_; (with_reducible refine (slices_Sort_int_int.calls (fun k_ => some k_ = (.slice qp x3_1.length qq : Value).ownBlock) (.slice qp x3_1.length qq) x3_1 t267 w _ ?side1 ?side2 A10.out).mono ?_); (case side1 => exact (q3_6)); (case side2 => exact Kd.R_tight rfl q4.out); rintro e w13 ⟨rfl, hy0, hb, hkp⟩; refine ⟨_, rfl, ?_⟩; have n0_ := q0_6 (Kd.R_reok rfl hy0 (fun k_ e_ => q4.out.1 k_ e_)); have n1_ := q0_6 (hb); clear q4; clear HB; have q4 := n0_; have HB := n1_; clear n0_ n1_; (try clear hb); (try clear hkp); (try clear hy0)) | ((with_reducible refine gate_callee (f := 38) rfl ?_); refine goesL_ (some 22) rfl rfl Try.func38 (by kernel_rfl) rfl #[.slice qp x3_1.length qq] rfl ma ?_; (with_reducible refine (slices_Compact_int_int.calls k1 (fun k_ => some k_ = (.slice qp x3_1.length qq : Value).ownBlock) (.slice qp x3_1.length qq) t267 t268 w _ ?side1 ?side2 A11.out).mono ?_); (case side1 => exact (q3_6)); (case side2 => exact Kd.R_tight rfl q4.out); rintro e w14 ⟨v269, rfl, ho0, hb, hkp⟩; refine ⟨_, rfl, ?_⟩; have n0_ := q0_6 (Kd.R_mono (ok' := fun k_ => True) ho0 (fun k_ hk_ => trivial)); have n1_ := q0_6 (hb); clear HB; clear q4; have z00 := n0_; have HB := n1_; clear n0_ n1_; (try clear hb); (try clear hkp); (try clear ho0)))); go_ret; (exact ⟨_, by first | rfl | (simp [errW_none, errW_some] <;> rfl) | (simp [*, errW_none, errW_some] <;> rfl), by refine ra ?_; exact z00.out, by exact (q3_6)⟩)
/-! ### impl_IsChord: function 41 -/
def impl_IsChord.f (a0_0 : Int) (a0_1 : Int) : Option (Bool) := (impl_InRange.f a0_0 0 11).bind fun t272 => (if t272 = true then ((impl_InRange.f a0_1 1 5).bind fun t273 => (some t273)) else (some false))
set_option maxHeartbeats 8000000 in
set_option maxRecDepth 100000 in
theorem impl_IsChord.calls (a0_0 : Int) (a0_1 : Int) (r : Bool) (w : World) (h : impl_IsChord.f a0_0 a0_1 = some r) :
 Calls Try.prog 41 #[.agg #[.int .i64 a0_0, .int .i64 a0_1]] w fun e w' => e = .returned (.bool r) ∧ Below w.heap.size w w' := by
 have hu30 := Try.underlying30; have HB := q0_6 (Below.refl w.heap.size w); (have H : ((impl_InRange.f a0_0 0 11).bind fun t272 => (if t272 = true then ((impl_InRange.f a0_1 1 5).bind fun t273 => (some t273)) else (some false))) = some r := h); clear h; replace H := Option.bind_eq_some_iff.mp H; obtain ⟨t272, A20, H⟩ := H; replace H : (if t272 = true then ((impl_InRange.f a0_1 1 5).bind fun t273 => (some t273)) else (some false)) = some r := H; have A2 := q0_6 A20; clear A20
 by_cases c3 : t272 = true
 · subst c3
   have H1 : ((impl_InRange.f a0_1 1 5).bind fun t273 => (some t273)) = some r := by rw [if_pos rfl] at H; exact H
   clear H; have H := H1; clear H1; replace H := Option.bind_eq_some_iff.mp H; obtain ⟨t273, A40, H⟩ := H; replace H : (some t273) = some r := H; have A4 := q0_6 A40; clear A40; obtain rfl := Option.some.inj H; go_enter Try.func41, Try.ntmps41; (go_wp2_with (first | ((with_reducible refine gate_dst (N := 1) rfl ?_); refine box_event ?hg (N := 1) ?hd (cs := #[.int .i64 a0_0, .int .i64 a0_1]) (t := 30) ?hr ?_; (case hd => rfl); (case hg => rfl); (case hr => first | (go_simp; done) | (go_simp; rfl)); intro qd hg w5 hbox hb; have n0_ := q0_6 (below_step (q3_6) hb); have n1_ := q0_6 (hbox); have n2_ := q0_6 ((by rw [hg]; exact (below_size (q3_6)) : w.heap.size ≤ qd)); have n3_ := q0_6 ((by rw [hg]; exact (below_size (q3_6)) : w.heap.size ≤ qd)); clear HB; have HB := n0_; have qe := n1_; have GW271 := n2_; have z01 := n3_; clear n0_ n1_ n2_ n3_; clear hb hbox hg; have hcz6_0 : w5.cell? ⟨qd, 0, none⟩ = some (.int .i64 a0_0) := (blk_cell qe.out 0).trans rfl; have hcz6_1 : w5.cell? ⟨qd, 1, none⟩ = some (.int .i64 a0_1) := (blk_cell qe.out 1).trans rfl; have hfz6_0 := blk_frozen qe.out 0; have hfz6_1 := blk_frozen qe.out 1) | ((with_reducible refine gate_callee (f := 59) rfl ?_); refine goesL_ (some 5) rfl rfl Try.func59 (by kernel_rfl) rfl #[.int .i64 a0_0, .int .i64 0, .int .i64 11] rfl ma ?_; (with_reducible refine (impl_InRange.calls a0_0 0 11 true _ A2.out).mono ?_); rintro e w' ⟨rfl, ⟨nd, rfl⟩⟩; refine ⟨_, rfl, ?_⟩) | (go_at_call 59; (with_reducible refine (impl_InRange.calls a0_1 1 5 t273 _ A4.out).mono ?_); rintro e w' ⟨rfl, ⟨nd, rfl⟩⟩))); go_ret; (exact ⟨by first | rfl | (simp [errW_none, errW_some] <;> rfl) | (simp [*, errW_none, errW_some] <;> rfl), by exact (qv_6)⟩)
 · replace c3 := Bool.eq_false_iff.mpr c3
   subst c3; (have H1 : (some false) = some r := by rw [if_neg (show ¬ (false = true) by decide)] at H; exact H); clear H; have H := H1; clear H1; obtain rfl := Option.some.inj H; go_enter Try.func41, Try.ntmps41; (go_wp2_with (first | ((with_reducible refine gate_dst (N := 1) rfl ?_); refine box_event ?hg (N := 1) ?hd (cs := #[.int .i64 a0_0, .int .i64 a0_1]) (t := 30) ?hr ?_; (case hd => rfl); (case hg => rfl); (case hr => first | (go_simp; done) | (go_simp; rfl)); intro qd hg w7 hbox hb; have n0_ := q0_6 (below_step (q3_6) hb); have n1_ := q0_6 (hbox); have n2_ := q0_6 ((by rw [hg]; exact (below_size (q3_6)) : w.heap.size ≤ qd)); have n3_ := q0_6 ((by rw [hg]; exact (below_size (q3_6)) : w.heap.size ≤ qd)); clear HB; have HB := n0_; have qe := n1_; have GW271 := n2_; have z01 := n3_; clear n0_ n1_ n2_ n3_; clear hb hbox hg; have hcz8_0 : w7.cell? ⟨qd, 0, none⟩ = some (.int .i64 a0_0) := (blk_cell qe.out 0).trans rfl; have hcz8_1 : w7.cell? ⟨qd, 1, none⟩ = some (.int .i64 a0_1) := (blk_cell qe.out 1).trans rfl; have hfz8_0 := blk_frozen qe.out 0; have hfz8_1 := blk_frozen qe.out 1) | ((with_reducible refine gate_callee (f := 59) rfl ?_); refine goesL_ (some 5) rfl rfl Try.func59 (by kernel_rfl) rfl #[.int .i64 a0_0, .int .i64 0, .int .i64 11] rfl ma ?_; (with_reducible refine (impl_InRange.calls a0_0 0 11 false _ A2.out).mono ?_); rintro e w' ⟨rfl, ⟨nd, rfl⟩⟩; refine ⟨_, rfl, ?_⟩))); go_ret; (exact ⟨by first | rfl | (simp [errW_none, errW_some] <;> rfl) | (simp [*, errW_none, errW_some] <;> rfl), by exact (qv_6)⟩)
end Go.Proofs.Ytpdhhpgdjbeaeaa.PFnExactChordAt
