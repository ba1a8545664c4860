-- Written for this claim by a program of this repository (wip/tools/print2.py), out of the translation; Lean checks it.
import Derived.Test.YtlkfhddckgjlnaaPFnVoicesx0
import Derived.Test.YtlkfhddckgjlnaaPFnVoicesx7
import Derived.Test.YtlkfhddckgjlnaaPFnVoicesx9
namespace Go.Proofs.Ytlkfhddckgjlnaa.PFnVoices
open Go.RowKit Go.Proofs.YtlkfhddckgjlnaaW.PrintWords Go.Proofs.YtlkfhddckgjlnaaW.PrintLast Go.Proofs.YtlkfhddckgjlnaaW.PrintMore
attribute [local go_sem] max2_int min2_int max_two min_two max_three min_three max_four min_four   -- for this text's walks alone
set_option linter.unusedVariables false
set_option linter.unusedSimpArgs false
-- SHORT
theorem q3_11 {p : Prop} (f : p := by repeat (first | (with_reducible first | exact HB.out | apply below_alloc | apply pw_below_drewN | apply below_drew1) | exact HB.out)) : p := f
theorem q0_11 {p : Prop} (h : p) : Aside0 p := ⟨h⟩
/-! ### impl_CrossingsIn: function 25 -/
def impl_CrossingsIn.l0 : Nat → List (S85) → Int → Int → List Int → List Int → Int → Int → Option (List Int)
 | 0, _, _, _, _, _, _, _ => none
 | k + 1, x0, x1, x2, x7, x16, x17, x18 => if x18 < x17 then (if 0 ≤ x18 then (if x18 < (x16.length : Int) then ((impl_PitchAt.f k x0 x1 (rd x16 x18)).bind fun t508 => ((impl_PitchAt.f k x0 x2 (rd x16 x18)).bind fun t509 => (if t508 > 0 then (if t509 > 0 then (if t508 < t509 then (if x7.length < 17592186044416 then (impl_CrossingsIn.l0 k x0 x1 x2 (x7 ++ [rd x16 x18]) x16 x17 (wrap64 (x18 + 1))) else (none)) else (impl_CrossingsIn.l0 k x0 x1 x2 x7 x16 x17 (wrap64 (x18 + 1)))) else (impl_CrossingsIn.l0 k x0 x1 x2 x7 x16 x17 (wrap64 (x18 + 1)))) else (impl_CrossingsIn.l0 k x0 x1 x2 x7 x16 x17 (wrap64 (x18 + 1)))))) else (none)) else (none)) else (some x7)
def impl_CrossingsIn.f (k : Nat) (l0 : List (S85)) (a1 : Int) (a2 : Int) : Option (List Int) := (impl_OnsetsOf.f k l0 a1 a2).bind fun t504 => (impl_CrossingsIn.l0 k l0 a1 a2 (([] : List Int)) t504 (t504.length : Int) 0)
theorem impl_CrossingsIn.mono_l : ∀ k, (∀ y0 y1 y2 y3 y4 y5 y6, LeO (impl_CrossingsIn.l0 k y0 y1 y2 y3 y4 y5 y6) (impl_CrossingsIn.l0 (k + 1) y0 y1 y2 y3 y4 y5 y6))
 | 0 => fun _ _ _ _ _ _ _ r h => by simp [impl_CrossingsIn.l0] at h
 | k + 1 => by
  have ih0 := impl_CrossingsIn.mono_l k
  · intro y0 y1 y2 y3 y4 y5 y6
    unfold impl_CrossingsIn.l0
    repeat' first
    | (with_reducible exact ih0 _ _ _ _ _ _ _)
    | (with_reducible exact impl_OnsetsOf.mono _ _ _ _)
    | (with_reducible exact impl_PitchAt.mono _ _ _ _)
    | (with_reducible exact LeO.refl _)
    | (with_reducible exact LeO.none _)
    | (with_reducible refine LeO.ite ?_ ?_)
    | (with_reducible refine LeO.bind ?_ (fun _ => ?_))
    | exact ih0 _ _ _ _ _ _ _
    | exact impl_OnsetsOf.mono _ _ _ _
    | exact impl_PitchAt.mono _ _ _ _
    | exact LeO.none _
    | refine LeO.ite ?_ ?_
    | refine LeO.bind ?_ (fun _ => ?_)
theorem impl_CrossingsIn.mono : ∀ a0 a1 a2 k, LeO (impl_CrossingsIn.f k a0 a1 a2) (impl_CrossingsIn.f (k + 1) a0 a1 a2) := by
 intro a0 a1 a2 k; have ih0 := impl_CrossingsIn.mono_l k; unfold impl_CrossingsIn.f
 repeat' first
  | (with_reducible exact ih0 _ _ _ _ _ _ _)
  | (with_reducible exact impl_OnsetsOf.mono _ _ _ _)
  | (with_reducible exact impl_PitchAt.mono _ _ _ _)
  | (with_reducible exact LeO.refl _)
  | (with_reducible exact LeO.none _)
  | (with_reducible refine LeO.ite ?_ ?_)
  | (with_reducible refine LeO.bind ?_ (fun _ => ?_))
  | exact ih0 _ _ _ _ _ _ _
  | exact impl_OnsetsOf.mono _ _ _ _
  | exact impl_PitchAt.mono _ _ _ _
  | exact LeO.none _
  | refine LeO.ite ?_ ?_
  | refine LeO.bind ?_ (fun _ => ?_)
set_option maxHeartbeats 8000000 in
set_option maxRecDepth 100000 in
theorem impl_CrossingsIn.calls (k : Nat) (A0 : Option Addr) (c0 : Nat) (l0 : List (S85)) (a1 : Int) (a2 : Int) (r : List Int) (w : World) (hr0 : Kd.C k85 w A0 l0.length l0) (hc0 : l0.length ≤ c0) (h : impl_CrossingsIn.f k l0 a1 a2 = some r) :
 Calls Try.prog 25 #[.slice A0 l0.length c0, .int .i64 a1, .int .i64 a2] w fun e w' => ∃ v0_ : Value, e = .returned (v0_) ∧ Kd.R (Kd.int .i64) 3 w' w.heap.size (fun _ => True) v0_ r ∧ Below w.heap.size w w' := by
 have HR0 := q0_11 hr0; have HC0 := q0_11 hc0; clear hr0 hc0; have HB := q0_11 (Below.refl w.heap.size w); (have H : ((impl_OnsetsOf.f k l0 a1 a2).bind fun t504 => (impl_CrossingsIn.l0 k l0 a1 a2 (([] : List Int)) t504 (t504.length : Int) 0)) = some r := h); clear h; obtain ⟨y501, hy501⟩ : ∃ y_ : List Int, y_ = (([] : List Int)) := ⟨_, rfl⟩; (replace H : ((impl_OnsetsOf.f k l0 a1 a2).bind fun t504 => (impl_CrossingsIn.l0 k l0 a1 a2 y501 t504 (t504.length : Int) 0)) = some r := by first | (rw [hy501]; with_reducible exact H) | (have H2_ := (Option.bind_some _ _).symm.trans H; rw [hy501]; with_reducible exact H2_) | (have H2_ := (Option.bind_some _ _).symm.trans H; with_reducible exact H2_) | with_reducible exact H | (rw [hy501]; exact H) | exact H); have Ny501 := q0_11 hy501; clear hy501; replace H := Option.bind_eq_some_iff.mp H; obtain ⟨t504, A40, H⟩ := H; replace H : (impl_CrossingsIn.l0 k l0 a1 a2 y501 t504 (t504.length : Int) 0) = some r := H; have A4 := q0_11 A40; clear A40; (have H' := q0_11 H); clear H; go_enter Try.func25, Try.ntmps25; (go_wp2_with (first | ((with_reducible refine gate_dst (N := 12) rfl ?_); refine Kd.R_lit (Kd.int .i64) _ 3 ?hg (N := 12) ?hd (xs := ([] : List Int)) (inner := []) (ok := fun _ => True) (okp := fun _ => True) ?hr ?hp (fun _ hk => hk) trivial (Below.refl _ _) (Nat.le_refl _) (by simp) ?_; (case hd => rfl); (case hg => rfl); (case hr => first | (go_simp; done) | (go_simp; rfl)); (case hp => exact (Reps.none _ _)); intro v502 w5 ho6 hb hg_ hnew_; clear hg_ hnew_; (first | rw [← Ny501.out] at ho6 | (simp only [Int.reduceToNat] at ho6; rw [← Ny501.out] at ho6)); have n0_ := q0_11 (Kd.R_lower ho6 (below_size (q3_11))); have n1_ := q0_11 (below_step (q3_11) hb); clear HB; have q4 := n0_; have HB := n1_; clear n0_ n1_; clear hb ho6) | ((with_reducible refine gate_callee (f := 22) rfl ?_); refine goesL_ (some 16) rfl rfl Try.func22 (by kernel_rfl) rfl #[.slice A0 l0.length c0, .int .i64 a1, .int .i64 a2] rfl ma ?_; (with_reducible refine (impl_OnsetsOf.calls k _ _ l0 a1 a2 t504 _ ?side1 ?side2 A4.out).mono ?_); (case side1 => exact ca (Kd.C_below HR0.out HB.out)); (case side2 => exact HC0.out); rintro e w7 ⟨v505, rfl, ho0, hb⟩; refine ⟨_, rfl, ?_⟩; have n0_ := q0_11 (Kd.R_elder' (ra q4.out) (Kd.R_base ho0) hb); have n1_ := q0_11 (Kd.R_lower (Kd.R_new' ho0 (Kd.R_lt (ra q4.out))) (below_size (q3_11))); have n2_ := q0_11 (below_step (q3_11) hb); clear q4; clear HB; have q4 := n0_; have q5 := n1_; have HB := n2_; clear n0_ n1_ n2_; (try clear hb); (try clear hb2); (try clear hk); (try clear hi); (try clear ho0); obtain ⟨qa, q9, eo8⟩ := Kd.R_slice q5.out; subst eo8)))
 (go_loopg [7, 18] k (fun kq v7 v18 w' => ∃ (x7_1 : List Int) (x18_1 : Int), v18 = .int .i64 x18_1 ∧ Aside0 (impl_CrossingsIn.l0 kq l0 a1 a2 x7_1 t504 (t504.length : Int) x18_1 = some r) ∧ Aside0 (kq ≤ k) ∧ Aside0 (Kd.R (Kd.int .i64) 3 w' w.heap.size (fun k_ => some k_ ≠ ((.slice qa t504.length q9) : Value).ownBlock) v7 x7_1) ∧ Aside0 (Kd.R (Kd.int .i64) 3 w' w.heap.size (fun k_ => some k_ ≠ (v7 : Value).ownBlock) (.slice qa t504.length q9) t504) ∧ Aside0 (Below w.heap.size w w')))
 case atStart => exact ⟨(y501), (0), (by first | rfl | (simp; done) | (simp [*]; done)), H', ⟨Nat.le_refl _⟩, ⟨by refine ra ?_; exact Kd.R_mono q4.out (fun _ hk => hk.2)⟩, ⟨by refine ra ?_; exact Kd.R_mono q5.out (fun _ hk => hk.2)⟩, ⟨by exact (q3_11)⟩⟩
 case round =>
  clear H'; (try clear c2); (try clear p2); obtain ⟨x7_1, x18_1, rfl, HA, HK1, q2, q1, HB⟩ := hrel
  cases gk with
  | zero => exact absurd HA.out (by simp [impl_CrossingsIn.l0])
  | succ k1 =>
   have H := HA.out; clear HA; (simp only [impl_CrossingsIn.l0] at H)
   by_cases c9 : x18_1 < (t504.length : Int)
   · rw [if_pos c9] at H
     (have c9b0 : decide (x18_1 < (t504.length : Int)) = true := decide_eq_true c9); clear c9
     by_cases c10 : 0 ≤ x18_1
     · rw [if_pos c10] at H
       (have c10b0 : decide (0 ≤ x18_1) = true := decide_eq_true c10); clear c10
       by_cases c11 : x18_1 < (t504.length : Int)
       · rw [if_pos c11] at H
         (have c11b0 : decide (x18_1 < (t504.length : Int)) = true := decide_eq_true c11); clear c11; replace H := Option.bind_eq_some_iff.mp H; obtain ⟨t508, A120, H⟩ := H; replace H : ((impl_PitchAt.f k1 l0 a2 (rd t504 x18_1)).bind fun t509 => (if t508 > 0 then (if t509 > 0 then (if t508 < t509 then (if x7_1.length < 17592186044416 then (impl_CrossingsIn.l0 k1 l0 a1 a2 (x7_1 ++ [rd t504 x18_1]) t504 (t504.length : Int) (wrap64 (x18_1 + 1))) else (none)) else (impl_CrossingsIn.l0 k1 l0 a1 a2 x7_1 t504 (t504.length : Int) (wrap64 (x18_1 + 1)))) else (impl_CrossingsIn.l0 k1 l0 a1 a2 x7_1 t504 (t504.length : Int) (wrap64 (x18_1 + 1)))) else (impl_CrossingsIn.l0 k1 l0 a1 a2 x7_1 t504 (t504.length : Int) (wrap64 (x18_1 + 1))))) = some r := H; have A12 := q0_11 A120; clear A120; replace H := Option.bind_eq_some_iff.mp H; obtain ⟨t509, A130, H⟩ := H; replace H : (if t508 > 0 then (if t509 > 0 then (if t508 < t509 then (if x7_1.length < 17592186044416 then (impl_CrossingsIn.l0 k1 l0 a1 a2 (x7_1 ++ [rd t504 x18_1]) t504 (t504.length : Int) (wrap64 (x18_1 + 1))) else (none)) else (impl_CrossingsIn.l0 k1 l0 a1 a2 x7_1 t504 (t504.length : Int) (wrap64 (x18_1 + 1)))) else (impl_CrossingsIn.l0 k1 l0 a1 a2 x7_1 t504 (t504.length : Int) (wrap64 (x18_1 + 1)))) else (impl_CrossingsIn.l0 k1 l0 a1 a2 x7_1 t504 (t504.length : Int) (wrap64 (x18_1 + 1)))) = some r := H; have A13 := q0_11 A130; clear A130
         by_cases c14 : t508 > 0
         · rw [if_pos c14] at H
           (have c14b0 : decide (0 < t508) = true := decide_eq_true c14); clear c14
           by_cases c15 : t509 > 0
           · rw [if_pos c15] at H
             (have c15b0 : decide (0 < t509) = true := decide_eq_true c15); clear c15
             by_cases c16 : t508 < t509
             · rw [if_pos c16] at H
               (have c16b0 : decide (t508 < t509) = true := decide_eq_true c16); clear c16
               by_cases c17 : x7_1.length < 17592186044416
               · rw [if_pos c17] at H
                 have LMc17 := q0_11 c17; clear c17; obtain ⟨y510, hy510⟩ : ∃ y_ : List Int, y_ = (x7_1 ++ [rd t504 x18_1]) := ⟨_, rfl⟩; (replace H : (impl_CrossingsIn.l0 k1 l0 a1 a2 y510 t504 (t504.length : Int) (wrap64 (x18_1 + 1))) = some r := by first | (rw [hy510]; with_reducible exact H) | (have H2_ := (Option.bind_some _ _).symm.trans H; rw [hy510]; with_reducible exact H2_) | (have H2_ := (Option.bind_some _ _).symm.trans H; with_reducible exact H2_) | with_reducible exact H | (rw [hy510]; exact H) | exact H); have Ny510 := q0_11 hy510; clear hy510; (have H' := q0_11 H); clear H; (have p507 : 0 ≤ (x18_1 : Int) := of_decide_eq_true (by first | (with_reducible assumption) | assumption)); (have q507 : x18_1 < (t504.length : Int) := of_decide_eq_true (by first | (with_reducible assumption) | assumption)); obtain ⟨ad507, e507, hx507_0⟩ := Kd.at_int (Kd.R_reads' q1.out).2.2 x18_1 p507 q507
                 cases e507
                 replace p507 := eq_true p507; replace q507 := eq_true q507; (go_wp2_with (first | ((with_reducible refine gate_callee (f := 28) rfl ?_); refine goesL_ (some 25) rfl rfl Try.func28 (by kernel_rfl) rfl #[.slice A0 l0.length c0, .int .i64 a1, .int .i64 (rd t504 x18_1)] rfl ma ?_; (with_reducible refine (impl_PitchAt.calls k1 _ _ l0 a1 (rd t504 x18_1) t508 _ ?side1 ?side2 A12.out).mono ?_); (case side1 => exact ca (Kd.C_below HR0.out HB.out)); (case side2 => exact HC0.out); rintro e w18 ⟨rfl, hb⟩; refine ⟨_, rfl, ?_⟩; have n0_ := q0_11 (Kd.R_below (ra q2.out) hb); have n1_ := q0_11 (Kd.R_below (ra q1.out) hb); have n2_ := q0_11 (below_step (q3_11) hb); clear q2; clear q1; clear HB; have q2 := n0_; have q1 := n1_; have HB := n2_; clear n0_ n1_ n2_; (try clear hb); (try clear hb2); (try clear hk); (try clear hi)) | ((with_reducible refine gate_callee (f := 28) rfl ?_); refine goesL_ (some 29) rfl rfl Try.func28 (by kernel_rfl) rfl #[.slice A0 l0.length c0, .int .i64 a2, .int .i64 (rd t504 x18_1)] rfl ma ?_; (with_reducible refine (impl_PitchAt.calls k1 _ _ l0 a2 (rd t504 x18_1) t509 _ ?side1 ?side2 A13.out).mono ?_); (case side1 => exact ca (Kd.C_below HR0.out HB.out)); (case side2 => exact HC0.out); rintro e w19 ⟨rfl, hb⟩; refine ⟨_, rfl, ?_⟩; have n0_ := q0_11 (Kd.R_below (ra q2.out) hb); have n1_ := q0_11 (Kd.R_below (ra q1.out) hb); have n2_ := q0_11 (below_step (q3_11) hb); clear q2; clear q1; clear HB; have q2 := n0_; have q1 := n1_; have HB := n2_; clear n0_ n1_ n2_; (try clear hb); (try clear hb2); (try clear hk); (try clear hi)) | ((with_reducible refine gate_builtin (b := .append) (xs := #[.tmp 41, .tmp 43]) rfl ?_); at_builtin; refine Kd.R_append (Kd.int .i64) (w0 := w) w.heap.size rfl (.tmp 41) (.tmp 43) 41 3 (.int .i64 0) 8 rfl Try.underlying41 info3 rfl (by decide) (by omega) u7 x7_1 (rd t504 x18_1) [.int .i64 (rd t504 x18_1)] (fun k_ => some k_ ≠ (.slice (some ad507) t504.length q9 : Value).ownBlock) (fun _ => False) rfl rfl ?aP (fun _ hk => hk.elim) ?aF ?aO ?aB ?aS ?aL ?_; (case aP => exact rfl); (case aB => exact (q3_11)); (case aF => exact (fun k_ hk => Kd.fresh' (Kd.R_lt (ra q1.out)) k_ hk)); (case aO => exact (ra q2.out)); (case aS => exact (below_size (q3_11))); (case aL => have := LMc17.out; omega); intro v511 w20 ho hb hg hat; rw [← Ny510.out] at ho; have n0_ := q0_11 (Kd.R_after (ok := (fun _ => True)) (by refine ra ?_; exact Kd.R_mono q1.out (fun _ hk => ⟨trivial, hk⟩)) hg hat); have n1_ := q0_11 (hb); have n2_ := q0_11 (ho); clear q1; clear HB; clear q2; have q1 := n0_; have HB := n1_; have q7 := n2_; clear n0_ n1_ n2_; clear ho hb hg hat))); (go_roundg k1)
                 case measure => have := HK1.out; omega
                 case rel => exact ⟨(y510), (wrap64 (x18_1 + 1)), (by first | rfl | (simp; done) | (simp [*]; done)), H', ⟨by have := HK1.out; omega⟩, ⟨by refine ra ?_; exact q7.out⟩, ⟨by refine ra ?_; exact Kd.R_mono q1.out (fun _ hk => hk.2)⟩, ⟨by exact (q3_11)⟩⟩
               · rw [if_neg c17] at H
                 exact absurd H (by simp)
             · rw [if_neg c16] at H
               (have c16b0 : decide (t508 < t509) = false := decide_eq_false c16); clear c16; (have H' := q0_11 H); clear H; (have p507 : 0 ≤ (x18_1 : Int) := of_decide_eq_true (by first | (with_reducible assumption) | assumption)); (have q507 : x18_1 < (t504.length : Int) := of_decide_eq_true (by first | (with_reducible assumption) | assumption)); obtain ⟨ad507, e507, hx507_0⟩ := Kd.at_int (Kd.R_reads' q1.out).2.2 x18_1 p507 q507
               cases e507
               replace p507 := eq_true p507; replace q507 := eq_true q507; (go_wp2_with (first | ((with_reducible refine gate_callee (f := 28) rfl ?_); refine goesL_ (some 25) rfl rfl Try.func28 (by kernel_rfl) rfl #[.slice A0 l0.length c0, .int .i64 a1, .int .i64 (rd t504 x18_1)] rfl ma ?_; (with_reducible refine (impl_PitchAt.calls k1 _ _ l0 a1 (rd t504 x18_1) t508 _ ?side1 ?side2 A12.out).mono ?_); (case side1 => exact ca (Kd.C_below HR0.out HB.out)); (case side2 => exact HC0.out); rintro e w21 ⟨rfl, hb⟩; refine ⟨_, rfl, ?_⟩; have n0_ := q0_11 (Kd.R_below (ra q2.out) hb); have n1_ := q0_11 (Kd.R_below (ra q1.out) hb); have n2_ := q0_11 (below_step (q3_11) hb); clear q2; clear q1; clear HB; have q2 := n0_; have q1 := n1_; have HB := n2_; clear n0_ n1_ n2_; (try clear hb); (try clear hb2); (try clear hk); (try clear hi)) | ((with_reducible refine gate_callee (f := 28) rfl ?_); refine goesL_ (some 29) rfl rfl Try.func28 (by kernel_rfl) rfl #[.slice A0 l0.length c0, .int .i64 a2, .int .i64 (rd t504 x18_1)] rfl ma ?_; (with_reducible refine (impl_PitchAt.calls k1 _ _ l0 a2 (rd t504 x18_1) t509 _ ?side1 ?side2 A13.out).mono ?_); (case side1 => exact ca (Kd.C_below HR0.out HB.out)); (case side2 => exact HC0.out); rintro e w22 ⟨rfl, hb⟩; refine ⟨_, rfl, ?_⟩; have n0_ := q0_11 (Kd.R_below (ra q2.out) hb); have n1_ := q0_11 (Kd.R_below (ra q1.out) hb); have n2_ := q0_11 (below_step (q3_11) hb); clear q2; clear q1; clear HB; have q2 := n0_; have q1 := n1_; have HB := n2_; clear n0_ n1_ n2_; (try clear hb); (try clear hb2); (try clear hk); (try clear hi)))); (go_roundg k1)
               case measure => have := HK1.out; omega
               case rel => exact ⟨(x7_1), (wrap64 (x18_1 + 1)), (by first | rfl | (simp; done) | (simp [*]; done)), H', ⟨by have := HK1.out; omega⟩, ⟨by refine ra ?_; exact q2.out⟩, ⟨by refine ra ?_; exact q1.out⟩, ⟨by exact (q3_11)⟩⟩
           · rw [if_neg c15] at H
             (have c15b0 : decide (0 < t509) = false := decide_eq_false c15); clear c15; (have H' := q0_11 H); clear H; (have p507 : 0 ≤ (x18_1 : Int) := of_decide_eq_true (by first | (with_reducible assumption) | assumption)); (have q507 : x18_1 < (t504.length : Int) := of_decide_eq_true (by first | (with_reducible assumption) | assumption)); obtain ⟨ad507, e507, hx507_0⟩ := Kd.at_int (Kd.R_reads' q1.out).2.2 x18_1 p507 q507
             cases e507
             replace p507 := eq_true p507; replace q507 := eq_true q507; (go_wp2_with (first | ((with_reducible refine gate_callee (f := 28) rfl ?_); refine goesL_ (some 25) rfl rfl Try.func28 (by kernel_rfl) rfl #[.slice A0 l0.length c0, .int .i64 a1, .int .i64 (rd t504 x18_1)] rfl ma ?_; (with_reducible refine (impl_PitchAt.calls k1 _ _ l0 a1 (rd t504 x18_1) t508 _ ?side1 ?side2 A12.out).mono ?_); (case side1 => exact ca (Kd.C_below HR0.out HB.out)); (case side2 => exact HC0.out); rintro e w23 ⟨rfl, hb⟩; refine ⟨_, rfl, ?_⟩; have n0_ := q0_11 (Kd.R_below (ra q2.out) hb); have n1_ := q0_11 (Kd.R_below (ra q1.out) hb); have n2_ := q0_11 (below_step (q3_11) hb); clear q2; clear q1; clear HB; have q2 := n0_; have q1 := n1_; have HB := n2_; clear n0_ n1_ n2_; (try clear hb); (try clear hb2); (try clear hk); (try clear hi)) | ((with_reducible refine gate_callee (f := 28) rfl ?_); refine goesL_ (some 29) rfl rfl Try.func28 (by kernel_rfl) rfl #[.slice A0 l0.length c0, .int .i64 a2, .int .i64 (rd t504 x18_1)] rfl ma ?_; (with_reducible refine (impl_PitchAt.calls k1 _ _ l0 a2 (rd t504 x18_1) t509 _ ?side1 ?side2 A13.out).mono ?_); (case side1 => exact ca (Kd.C_below HR0.out HB.out)); (case side2 => exact HC0.out); rintro e w24 ⟨rfl, hb⟩; refine ⟨_, rfl, ?_⟩; have n0_ := q0_11 (Kd.R_below (ra q2.out) hb); have n1_ := q0_11 (Kd.R_below (ra q1.out) hb); have n2_ := q0_11 (below_step (q3_11) hb); clear q2; clear q1; clear HB; have q2 := n0_; have q1 := n1_; have HB := n2_; clear n0_ n1_ n2_; (try clear hb); (try clear hb2); (try clear hk); (try clear hi)))); (go_roundg k1)
             case measure => have := HK1.out; omega
             case rel => exact ⟨(x7_1), (wrap64 (x18_1 + 1)), (by first | rfl | (simp; done) | (simp [*]; done)), H', ⟨by have := HK1.out; omega⟩, ⟨by refine ra ?_; exact q2.out⟩, ⟨by refine ra ?_; exact q1.out⟩, ⟨by exact (q3_11)⟩⟩
         · rw [if_neg c14] at H
           (have c14b0 : decide (0 < t508) = false := decide_eq_false c14); clear c14; (have H' := q0_11 H); clear H; (have p507 : 0 ≤ (x18_1 : Int) := of_decide_eq_true (by first | (with_reducible assumption) | assumption)); (have q507 : x18_1 < (t504.length : Int) := of_decide_eq_true (by first | (with_reducible assumption) | assumption)); obtain ⟨ad507, e507, hx507_0⟩ := Kd.at_int (Kd.R_reads' q1.out).2.2 x18_1 p507 q507
           cases e507
           replace p507 := eq_true p507; replace q507 := eq_true q507; (go_wp2_with (first | ((with_reducible refine gate_callee (f := 28) rfl ?_); refine goesL_ (some 25) rfl rfl Try.func28 (by kernel_rfl) rfl #[.slice A0 l0.length c0, .int .i64 a1, .int .i64 (rd t504 x18_1)] rfl ma ?_; (with_reducible refine (impl_PitchAt.calls k1 _ _ l0 a1 (rd t504 x18_1) t508 _ ?side1 ?side2 A12.out).mono ?_); (case side1 => exact ca (Kd.C_below HR0.out HB.out)); (case side2 => exact HC0.out); rintro e w25 ⟨rfl, hb⟩; refine ⟨_, rfl, ?_⟩; have n0_ := q0_11 (Kd.R_below (ra q2.out) hb); have n1_ := q0_11 (Kd.R_below (ra q1.out) hb); have n2_ := q0_11 (below_step (q3_11) hb); clear q2; clear q1; clear HB; have q2 := n0_; have q1 := n1_; have HB := n2_; clear n0_ n1_ n2_; (try clear hb); (try clear hb2); (try clear hk); (try clear hi)) | ((with_reducible refine gate_callee (f := 28) rfl ?_); refine goesL_ (some 29) rfl rfl Try.func28 (by kernel_rfl) rfl #[.slice A0 l0.length c0, .int .i64 a2, .int .i64 (rd t504 x18_1)] rfl ma ?_; (with_reducible refine (impl_PitchAt.calls k1 _ _ l0 a2 (rd t504 x18_1) t509 _ ?side1 ?side2 A13.out).mono ?_); (case side1 => exact ca (Kd.C_below HR0.out HB.out)); (case side2 => exact HC0.out); rintro e w26 ⟨rfl, hb⟩; refine ⟨_, rfl, ?_⟩; have n0_ := q0_11 (Kd.R_below (ra q2.out) hb); have n1_ := q0_11 (Kd.R_below (ra q1.out) hb); have n2_ := q0_11 (below_step (q3_11) hb); clear q2; clear q1; clear HB; have q2 := n0_; have q1 := n1_; have HB := n2_; clear n0_ n1_ n2_; (try clear hb); (try clear hb2); (try clear hk); (try clear hi)))); (go_roundg k1)
           case measure => have := HK1.out; omega
           case rel => exact ⟨(x7_1), (wrap64 (x18_1 + 1)), (by first | rfl | (simp; done) | (simp [*]; done)), H', ⟨by have := HK1.out; omega⟩, ⟨by refine ra ?_; exact q2.out⟩, ⟨by refine ra ?_; exact q1.out⟩, ⟨by exact (q3_11)⟩⟩
       · rw [if_neg c11] at H
         exact absurd H (by simp)
     · rw [if_neg c10] at H
       exact absurd H (by simp)
   · rw [if_neg c9] at H
     (have c9b0 : decide (x18_1 < (t504.length : Int)) = false := decide_eq_false c9); clear c9; obtain rfl := Option.some.inj H; (go_wp2); go_ret; (exact ⟨_, by first | rfl | (simp [errW_none, errW_some] <;> rfl) | (simp [*, errW_none, errW_some] <;> rfl), by refine ra ?_; exact Kd.R_mono q2.out (fun _ hk => trivial), by exact (q3_11)⟩)
/-! ### laws_ascends: function 26 -/
def laws_ascends.l0 : Nat → List Int → Int → Option (Bool)
 | 0, _, _ => none
 | k + 1, x0, x3 => if x3 < (x0.length : Int) then (if 0 ≤ (wrap64 (x3 - 1)) then (if (wrap64 (x3 - 1)) < (x0.length : Int) then (if 0 ≤ x3 then (if (rd x0 (wrap64 (x3 - 1))) ≥ (rd x0 x3) then (some false) else (laws_ascends.l0 k x0 (wrap64 (x3 + 1)))) else (none)) else (none)) else (none)) else (some true)
def laws_ascends.f (k : Nat) (l0 : List Int) : Option (Bool) := laws_ascends.l0 k l0 1
theorem laws_ascends.mono_l : ∀ k, (∀ y0 y1, LeO (laws_ascends.l0 k y0 y1) (laws_ascends.l0 (k + 1) y0 y1))
 | 0 => fun _ _ r h => by simp [laws_ascends.l0] at h
 | k + 1 => by
  have ih0 := laws_ascends.mono_l k
  · intro y0 y1
    unfold laws_ascends.l0
    repeat' first
    | (with_reducible exact ih0 _ _)
    | (with_reducible exact LeO.refl _)
    | (with_reducible exact LeO.none _)
    | (with_reducible refine LeO.ite ?_ ?_)
    | (with_reducible refine LeO.bind ?_ (fun _ => ?_))
    | exact ih0 _ _
    | exact LeO.none _
    | refine LeO.ite ?_ ?_
    | refine LeO.bind ?_ (fun _ => ?_)
theorem laws_ascends.mono : ∀ a0 k, LeO (laws_ascends.f k a0) (laws_ascends.f (k + 1) a0) := by
 intro a0 k; have ih0 := laws_ascends.mono_l k; unfold laws_ascends.f
 repeat' first
  | (with_reducible exact ih0 _ _)
  | (with_reducible exact LeO.refl _)
  | (with_reducible exact LeO.none _)
  | (with_reducible refine LeO.ite ?_ ?_)
  | (with_reducible refine LeO.bind ?_ (fun _ => ?_))
  | exact ih0 _ _
  | exact LeO.none _
  | refine LeO.ite ?_ ?_
  | refine LeO.bind ?_ (fun _ => ?_)
set_option maxHeartbeats 8000000 in
set_option maxRecDepth 100000 in
theorem laws_ascends.calls (k : Nat) (A0 : Option Addr) (c0 : Nat) (l0 : List Int) (r : Bool) (w : World) (hr0 : Kd.C (Kd.int .i64) w A0 l0.length l0) (hc0 : l0.length ≤ c0) (h : laws_ascends.f k l0 = some r) :
 Calls Try.prog 26 #[.slice A0 l0.length c0] w fun e w' => e = .returned (.bool r) ∧ Drawn0 w w' := by
 have HR0 := q0_11 hr0; have HC0 := q0_11 hc0; clear hr0 hc0; (have H : (laws_ascends.l0 k l0 1) = some r := h); clear h; (have H' := q0_11 H); clear H; go_enter Try.func26, Try.ntmps26; (go_wp2); (repeat (go_quiet (fail); try go_wp2)); (go_loopg [3] k (fun kq v3 w' => ∃ (x3_1 : Int), v3 = .int .i64 x3_1 ∧ Aside0 (laws_ascends.l0 kq l0 x3_1 = some r) ∧ Aside0 (kq ≤ k) ∧ Drawn0 w w'))
 case atStart => exact ⟨(1), (by first | rfl | (simp; done) | (simp [*]; done)), H', ⟨Nat.le_refl _⟩, by repeat (first | exact Drawn0.refl _ | apply Drawn0.step)⟩
 case round =>
  clear H'; obtain ⟨x3_1, rfl, HA, HK1, ⟨m1, rfl⟩⟩ := hrel
  cases gk with
  | zero => exact absurd HA.out (by simp [laws_ascends.l0])
  | succ k1 =>
   have H := HA.out; clear HA; (simp only [laws_ascends.l0] at H)
   by_cases c2 : x3_1 < (l0.length : Int)
   · rw [if_pos c2] at H
     (have c2b0 : decide (x3_1 < (l0.length : Int)) = true := decide_eq_true c2); clear c2; obtain ⟨ji3, hji3⟩ : ∃ j_ : Int, (wrap64 (x3_1 - 1)) = j_ := ⟨_, rfl⟩; (replace H : (if 0 ≤ (ji3) then (if (ji3) < (l0.length : Int) then (if 0 ≤ x3_1 then (if (rd l0 (ji3)) ≥ (rd l0 x3_1) then (some false) else (laws_ascends.l0 k1 l0 (wrap64 (x3_1 + 1)))) else (none)) else (none)) else (none)) = some r := by first | (rw [hji3] at H; exact H) | (simp only [hji3] at H ⊢; exact H)); (have hji3w : (IntKind.i64.wrap (x3_1 - 1)) = ji3 := (i64_w _).trans hji3)
     by_cases c4 : 0 ≤ (ji3)
     · rw [if_pos c4] at H
       (have c4b0 : decide (0 ≤ (ji3)) = true := decide_eq_true c4); clear c4
       by_cases c5 : (ji3) < (l0.length : Int)
       · rw [if_pos c5] at H
         (have c5b0 : decide ((ji3) < (l0.length : Int)) = true := decide_eq_true c5); clear c5
         by_cases c6 : 0 ≤ x3_1
         · rw [if_pos c6] at H
           (have c6b0 : decide (0 ≤ x3_1) = true := decide_eq_true c6); clear c6
           by_cases c7 : (rd l0 (ji3)) ≥ (rd l0 x3_1)
           · rw [if_pos c7] at H
             (have c7b0 : decide ((rd l0 x3_1) ≤ (rd l0 (ji3))) = true := decide_eq_true c7); clear c7; obtain rfl := Option.some.inj H; (have p513 : 0 ≤ ((ji3) : Int) := of_decide_eq_true (by first | (with_reducible assumption) | assumption)); (have q513 : (ji3) < (l0.length : Int) := of_decide_eq_true (by first | (with_reducible assumption) | assumption)); obtain ⟨ad513, e513, hx513_0⟩ := Kd.at_int HR0.out (ji3) p513 q513
             cases e513
             replace p513 := eq_true p513; replace q513 := eq_true q513; (have p514 : 0 ≤ (x3_1 : Int) := of_decide_eq_true (by first | (with_reducible assumption) | assumption)); (have q514 : x3_1 < (l0.length : Int) := of_decide_eq_true (by first | (with_reducible assumption) | assumption)); obtain ⟨ad514, e514, hx514_0⟩ := Kd.at_int HR0.out x3_1 p514 q514; obtain rfl : ad513 = ad514 := (by injection e514); replace p514 := eq_true p514; replace q514 := eq_true q514; (go_wp2); (repeat (go_quiet (fail); try go_wp2)); go_ret; (exact ⟨by first | rfl | (simp; done) | (simp only [← hji3] <;> (first | rfl | simp)) | (simp [*]; done), by repeat (first | exact Drawn0.refl _ | apply Drawn0.step)⟩)
           · rw [if_neg c7] at H
             (have c7b0 : decide ((rd l0 x3_1) ≤ (rd l0 (ji3))) = false := decide_eq_false c7); clear c7; (have H' := q0_11 H); clear H; (have p513 : 0 ≤ ((ji3) : Int) := of_decide_eq_true (by first | (with_reducible assumption) | assumption)); (have q513 : (ji3) < (l0.length : Int) := of_decide_eq_true (by first | (with_reducible assumption) | assumption)); obtain ⟨ad513, e513, hx513_0⟩ := Kd.at_int HR0.out (ji3) p513 q513
             cases e513
             replace p513 := eq_true p513; replace q513 := eq_true q513; (have p514 : 0 ≤ (x3_1 : Int) := of_decide_eq_true (by first | (with_reducible assumption) | assumption)); (have q514 : x3_1 < (l0.length : Int) := of_decide_eq_true (by first | (with_reducible assumption) | assumption)); obtain ⟨ad514, e514, hx514_0⟩ := Kd.at_int HR0.out x3_1 p514 q514; obtain rfl : ad513 = ad514 := (by injection e514); replace p514 := eq_true p514; replace q514 := eq_true q514; (go_wp2); (repeat (go_quiet (fail); try go_wp2)); (go_roundg k1)
             case measure => have := HK1.out; omega
             case rel => exact ⟨(wrap64 (x3_1 + 1)), (by first | rfl | (simp; done) | (simp [*]; done)), (by first | exact H' | (have H2_ := H'; (try simp only [← hji3] at H2_); (try simp only [← hji3]); exact H2_)), ⟨by have := HK1.out; omega⟩, by repeat (first | exact Drawn0.refl _ | apply Drawn0.step)⟩
         · rw [if_neg c6] at H
           exact absurd H (by simp)
       · rw [if_neg c5] at H
         exact absurd H (by simp)
     · rw [if_neg c4] at H
       exact absurd H (by simp)
   · rw [if_neg c2] at H
     (have c2b0 : decide (x3_1 < (l0.length : Int)) = false := decide_eq_false c2); clear c2; obtain rfl := Option.some.inj H; (go_wp2); (repeat (go_quiet (fail); try go_wp2)); go_ret; exact ⟨by first | rfl | (simp; done) | (simp [*]; done), by repeat (first | exact Drawn0.refl _ | apply Drawn0.step)⟩
/-! ### laws_contains: function 65 -/
def laws_contains.l0 : Nat → List Int → Int → Int → Option (Bool)
 | 0, _, _, _ => none
 | k + 1, x0, x1, x5 => if x5 < (x0.length : Int) then (if 0 ≤ x5 then (if (rd x0 x5) = x1 then (some true) else (laws_contains.l0 k x0 x1 (wrap64 (x5 + 1)))) else (none)) else (some false)
def laws_contains.f (k : Nat) (l0 : List Int) (a1 : Int) : Option (Bool) := laws_contains.l0 k l0 a1 0
theorem laws_contains.mono_l : ∀ k, (∀ y0 y1 y2, LeO (laws_contains.l0 k y0 y1 y2) (laws_contains.l0 (k + 1) y0 y1 y2))
 | 0 => fun _ _ _ r h => by simp [laws_contains.l0] at h
 | k + 1 => by
  have ih0 := laws_contains.mono_l k
  · intro y0 y1 y2
    unfold laws_contains.l0
    repeat' first
    | (with_reducible exact ih0 _ _ _)
    | (with_reducible exact LeO.refl _)
    | (with_reducible exact LeO.none _)
    | (with_reducible refine LeO.ite ?_ ?_)
    | (with_reducible refine LeO.bind ?_ (fun _ => ?_))
    | exact ih0 _ _ _
    | exact LeO.none _
    | refine LeO.ite ?_ ?_
    | refine LeO.bind ?_ (fun _ => ?_)
theorem laws_contains.mono : ∀ a0 a1 k, LeO (laws_contains.f k a0 a1) (laws_contains.f (k + 1) a0 a1) := by
 intro a0 a1 k; have ih0 := laws_contains.mono_l k; unfold laws_contains.f
 repeat' first
  | (with_reducible exact ih0 _ _ _)
  | (with_reducible exact LeO.refl _)
  | (with_reducible exact LeO.none _)
  | (with_reducible refine LeO.ite ?_ ?_)
  | (with_reducible refine LeO.bind ?_ (fun _ => ?_))
  | exact ih0 _ _ _
  | exact LeO.none _
  | refine LeO.ite ?_ ?_
  | refine LeO.bind ?_ (fun _ => ?_)
set_option maxHeartbeats 8000000 in
set_option maxRecDepth 100000 in
theorem laws_contains.calls (k : Nat) (A0 : Option Addr) (c0 : Nat) (l0 : List Int) (a1 : Int) (r : Bool) (w : World) (hr0 : Kd.C (Kd.int .i64) w A0 l0.length l0) (hc0 : l0.length ≤ c0) (h : laws_contains.f k l0 a1 = some r) :
 Calls Try.prog 65 #[.slice A0 l0.length c0, .int .i64 a1] w fun e w' => e = .returned (.bool r) ∧ Drawn0 w w' := by
 have HR0 := q0_11 hr0; have HC0 := q0_11 hc0; clear hr0 hc0; (have H : (laws_contains.l0 k l0 a1 0) = some r := h); clear h; (have H' := q0_11 H); clear H; go_enter Try.func65, Try.ntmps65; (go_wp2); (go_loopg [5] k (fun kq v5 w' => ∃ (x5_1 : Int), v5 = .int .i64 x5_1 ∧ Aside0 (laws_contains.l0 kq l0 a1 x5_1 = some r) ∧ Aside0 (kq ≤ k) ∧ Drawn0 w w'))
 case atStart => exact ⟨(0), (by first | rfl | (simp; done) | (simp [*]; done)), H', ⟨Nat.le_refl _⟩, by repeat (first | exact Drawn0.refl _ | apply Drawn0.step)⟩
 case round =>
  clear H'; (try clear p2); obtain ⟨x5_1, rfl, HA, HK1, ⟨m1, rfl⟩⟩ := hrel
  cases gk with
  | zero => exact absurd HA.out (by simp [laws_contains.l0])
  | succ k1 =>
   have H := HA.out; clear HA; (simp only [laws_contains.l0] at H)
   by_cases c3 : x5_1 < (l0.length : Int)
   · rw [if_pos c3] at H
     (have c3b0 : decide (x5_1 < (l0.length : Int)) = true := decide_eq_true c3); clear c3
     by_cases c4 : 0 ≤ x5_1
     · rw [if_pos c4] at H
       (have c4b0 : decide (0 ≤ x5_1) = true := decide_eq_true c4); clear c4
       by_cases c5 : (rd l0 x5_1) = a1
       · rw [if_pos c5] at H
         (have c5b0 : ((rd l0 x5_1) == a1) = true := beq_iff_eq.mpr c5); (have c5b1 : ((rd l0 x5_1) != a1) = false := bne_eq_false_iff_eq.mpr c5); clear c5; obtain rfl := Option.some.inj H; (have p515 : 0 ≤ (x5_1 : Int) := of_decide_eq_true (by first | (with_reducible assumption) | assumption)); (have q515 : x5_1 < (l0.length : Int) := of_decide_eq_true (by first | (with_reducible assumption) | assumption)); obtain ⟨ad515, e515, hx515_0⟩ := Kd.at_int HR0.out x5_1 p515 q515
         cases e515
         replace p515 := eq_true p515; replace q515 := eq_true q515; (go_wp2); go_ret; exact ⟨by first | rfl | (simp; done) | (simp [*]; done), by repeat (first | exact Drawn0.refl _ | apply Drawn0.step)⟩
       · rw [if_neg c5] at H
         (have c5b0 : ((rd l0 x5_1) == a1) = false := beq_eq_false_iff_ne.mpr c5); (have c5b1 : ((rd l0 x5_1) != a1) = true := bne_iff_ne.mpr c5); (have H' := q0_11 H); clear H; (have p515 : 0 ≤ (x5_1 : Int) := of_decide_eq_true (by first | (with_reducible assumption) | assumption)); (have q515 : x5_1 < (l0.length : Int) := of_decide_eq_true (by first | (with_reducible assumption) | assumption)); obtain ⟨ad515, e515, hx515_0⟩ := Kd.at_int HR0.out x5_1 p515 q515
         cases e515
         replace p515 := eq_true p515; replace q515 := eq_true q515; (go_wp2); (go_roundg k1)
         case measure => have := HK1.out; omega
         case rel => exact ⟨(wrap64 (x5_1 + 1)), (by first | rfl | (simp; done) | (simp [*]; done)), H', ⟨by have := HK1.out; omega⟩, by repeat (first | exact Drawn0.refl _ | apply Drawn0.step)⟩
     · rw [if_neg c4] at H
       exact absurd H (by simp)
   · rw [if_neg c3] at H
     (have c3b0 : decide (x5_1 < (l0.length : Int)) = false := decide_eq_false c3); clear c3; obtain rfl := Option.some.inj H; (go_wp2); go_ret; exact ⟨by first | rfl | (simp; done) | (simp [*]; done), by repeat (first | exact Drawn0.refl _ | apply Drawn0.step)⟩
/-! ### laws_within: function 27 -/
def laws_within.l0 : Nat → List Int → List Int → Int → Option (Bool)
 | 0, _, _, _ => none
 | k + 1, x0, x1, x5 => if x5 < (x0.length : Int) then (if 0 ≤ x5 then ((laws_contains.f k x1 (rd x0 x5)).bind fun t517 => (if t517 = true then (laws_within.l0 k x0 x1 (wrap64 (x5 + 1))) else (some false))) else (none)) else (some true)
def laws_within.f (k : Nat) (l0 : List Int) (l1 : List Int) : Option (Bool) := laws_within.l0 k l0 l1 0
theorem laws_within.mono_l : ∀ k, (∀ y0 y1 y2, LeO (laws_within.l0 k y0 y1 y2) (laws_within.l0 (k + 1) y0 y1 y2))
 | 0 => fun _ _ _ r h => by simp [laws_within.l0] at h
 | k + 1 => by
  have ih0 := laws_within.mono_l k
  · intro y0 y1 y2
    unfold laws_within.l0
    repeat' first
    | (with_reducible exact ih0 _ _ _)
    | (with_reducible exact laws_contains.mono _ _ _)
    | (with_reducible exact LeO.refl _)
    | (with_reducible exact LeO.none _)
    | (with_reducible refine LeO.ite ?_ ?_)
    | (with_reducible refine LeO.bind ?_ (fun _ => ?_))
    | exact ih0 _ _ _
    | exact laws_contains.mono _ _ _
    | exact LeO.none _
    | refine LeO.ite ?_ ?_
    | refine LeO.bind ?_ (fun _ => ?_)
theorem laws_within.mono : ∀ a0 a1 k, LeO (laws_within.f k a0 a1) (laws_within.f (k + 1) a0 a1) := by
 intro a0 a1 k; have ih0 := laws_within.mono_l k; unfold laws_within.f
 repeat' first
  | (with_reducible exact ih0 _ _ _)
  | (with_reducible exact laws_contains.mono _ _ _)
  | (with_reducible exact LeO.refl _)
  | (with_reducible exact LeO.none _)
  | (with_reducible refine LeO.ite ?_ ?_)
  | (with_reducible refine LeO.bind ?_ (fun _ => ?_))
  | exact ih0 _ _ _
  | exact laws_contains.mono _ _ _
  | exact LeO.none _
  | refine LeO.ite ?_ ?_
  | refine LeO.bind ?_ (fun _ => ?_)
set_option maxHeartbeats 8000000 in
set_option maxRecDepth 100000 in
theorem laws_within.calls (k : Nat) (A0 : Option Addr) (c0 : Nat) (l0 : List Int) (A1 : Option Addr) (c1 : Nat) (l1 : List Int) (r : Bool) (w : World) (hr0 : Kd.C (Kd.int .i64) w A0 l0.length l0) (hc0 : l0.length ≤ c0) (hr1 : Kd.C (Kd.int .i64) w A1 l1.length l1) (hc1 : l1.length ≤ c1) (h : laws_within.f k l0 l1 = some r) :
 Calls Try.prog 27 #[.slice A0 l0.length c0, .slice A1 l1.length c1] w fun e w' => e = .returned (.bool r) ∧ Drawn0 w w' := by
 have HR0 := q0_11 hr0; have HC0 := q0_11 hc0; clear hr0 hc0; have HR1 := q0_11 hr1; have HC1 := q0_11 hc1; clear hr1 hc1; (have H : (laws_within.l0 k l0 l1 0) = some r := h); clear h; (have H' := q0_11 H); clear H; go_enter Try.func27, Try.ntmps27; (go_wp2); (go_loopg [5] k (fun kq v5 w' => ∃ (x5_1 : Int), v5 = .int .i64 x5_1 ∧ Aside0 (laws_within.l0 kq l0 l1 x5_1 = some r) ∧ Aside0 (kq ≤ k) ∧ Drawn0 w w'))
 case atStart => exact ⟨(0), (by first | rfl | (simp; done) | (simp [*]; done)), H', ⟨Nat.le_refl _⟩, by repeat (first | exact Drawn0.refl _ | apply Drawn0.step)⟩
 case round =>
  clear H'; (try clear c1); (try clear c2); (try clear p2); obtain ⟨x5_1, rfl, HA, HK1, ⟨m1, rfl⟩⟩ := hrel
  cases gk with
  | zero => exact absurd HA.out (by simp [laws_within.l0])
  | succ k1 =>
   have H := HA.out; clear HA; (simp only [laws_within.l0] at H)
   by_cases c3 : x5_1 < (l0.length : Int)
   · rw [if_pos c3] at H
     (have c3b0 : decide (x5_1 < (l0.length : Int)) = true := decide_eq_true c3); clear c3
     by_cases c4 : 0 ≤ x5_1
     · rw [if_pos c4] at H
       (have c4b0 : decide (0 ≤ x5_1) = true := decide_eq_true c4); clear c4; replace H := Option.bind_eq_some_iff.mp H; obtain ⟨t517, A50, H⟩ := H; replace H : (if t517 = true then (laws_within.l0 k1 l0 l1 (wrap64 (x5_1 + 1))) else (some false)) = some r := H; have A5 := q0_11 A50; clear A50
       by_cases c6 : t517 = true
       · subst c6
         have H1 : (laws_within.l0 k1 l0 l1 (wrap64 (x5_1 + 1))) = some r := by rw [if_pos rfl] at H; exact H
         clear H; have H := H1; clear H1; (have H' := q0_11 H); clear H; (have p516 : 0 ≤ (x5_1 : Int) := of_decide_eq_true (by first | (with_reducible assumption) | assumption)); (have q516 : x5_1 < (l0.length : Int) := of_decide_eq_true (by first | (with_reducible assumption) | assumption)); obtain ⟨ad516, e516, hx516_0⟩ := Kd.at_int HR0.out x5_1 p516 q516
         cases e516
         replace p516 := eq_true p516; replace q516 := eq_true q516; (go_wp2_with (first | ((with_reducible refine gate_callee (f := 65) rfl ?_); refine goesL_ (some 17) rfl rfl Try.func65 (by kernel_rfl) rfl #[.slice A1 l1.length c1, .int .i64 (rd l0 x5_1)] rfl ma ?_; (with_reducible refine (laws_contains.calls k1 _ _ l1 (rd l0 x5_1) true _ ?side1 ?side2 A5.out).mono ?_); (case side1 => repeat (first | exact HR1.out | (with_reducible refine Kd.C_alloc ?_ _) | (with_reducible refine Kd.C_drewN ?_ _) | (with_reducible refine Kd.C_drew ?_))); (case side2 => exact HC1.out); rintro e w' ⟨rfl, ⟨nd, rfl⟩⟩; refine ⟨_, rfl, ?_⟩))); (go_roundg k1)
         case measure => have := HK1.out; omega
         case rel => exact ⟨(wrap64 (x5_1 + 1)), (by first | rfl | (simp; done) | (simp [*]; done)), H', ⟨by have := HK1.out; omega⟩, by repeat (first | exact Drawn0.refl _ | apply Drawn0.step)⟩
       · replace c6 := Bool.eq_false_iff.mpr c6
         subst c6; (have H1 : (some false) = some r := by rw [if_neg (show ¬ (false = true) by decide)] at H; exact H); clear H; have H := H1; clear H1; obtain rfl := Option.some.inj H; (have p516 : 0 ≤ (x5_1 : Int) := of_decide_eq_true (by first | (with_reducible assumption) | assumption)); (have q516 : x5_1 < (l0.length : Int) := of_decide_eq_true (by first | (with_reducible assumption) | assumption)); obtain ⟨ad516, e516, hx516_0⟩ := Kd.at_int HR0.out x5_1 p516 q516
         cases e516
         replace p516 := eq_true p516; replace q516 := eq_true q516; (go_wp2_with (first | ((with_reducible refine gate_callee (f := 65) rfl ?_); refine goesL_ (some 17) rfl rfl Try.func65 (by kernel_rfl) rfl #[.slice A1 l1.length c1, .int .i64 (rd l0 x5_1)] rfl ma ?_; (with_reducible refine (laws_contains.calls k1 _ _ l1 (rd l0 x5_1) false _ ?side1 ?side2 A5.out).mono ?_); (case side1 => repeat (first | exact HR1.out | (with_reducible refine Kd.C_alloc ?_ _) | (with_reducible refine Kd.C_drewN ?_ _) | (with_reducible refine Kd.C_drew ?_))); (case side2 => exact HC1.out); rintro e w' ⟨rfl, ⟨nd, rfl⟩⟩; refine ⟨_, rfl, ?_⟩))); go_ret; exact ⟨by first | rfl | (simp; done) | (simp [*]; done), by repeat (first | exact Drawn0.refl _ | apply Drawn0.step)⟩
     · rw [if_neg c4] at H
       exact absurd H (by simp)
   · rw [if_neg c3] at H
     (have c3b0 : decide (x5_1 < (l0.length : Int)) = false := decide_eq_false c3); clear c3; obtain rfl := Option.some.inj H; (go_wp2); go_ret; exact ⟨by first | rfl | (simp; done) | (simp [*]; done), by repeat (first | exact Drawn0.refl _ | apply Drawn0.step)⟩
/-! ### laws_sameInts: function 29 -/
def laws_sameInts.l0 : Nat → List Int → List Int → Int → Option (Bool)
 | 0, _, _, _ => none
 | k + 1, x0, x1, x5 => if x5 < (x0.length : Int) then (if 0 ≤ x5 then (if x5 < (x1.length : Int) then (if (rd x0 x5) = (rd x1 x5) then (laws_sameInts.l0 k x0 x1 (wrap64 (x5 + 1))) else (some false)) else (none)) else (none)) else (some true)
def laws_sameInts.f (k : Nat) (l0 : List Int) (l1 : List Int) : Option (Bool) := if (l0.length : Int) = (l1.length : Int) then (laws_sameInts.l0 k l0 l1 0) else (some false)
theorem laws_sameInts.mono_l : ∀ k, (∀ y0 y1 y2, LeO (laws_sameInts.l0 k y0 y1 y2) (laws_sameInts.l0 (k + 1) y0 y1 y2))
 | 0 => fun _ _ _ r h => by simp [laws_sameInts.l0] at h
 | k + 1 => by
  have ih0 := laws_sameInts.mono_l k
  · intro y0 y1 y2
    unfold laws_sameInts.l0
    repeat' first
    | (with_reducible exact ih0 _ _ _)
    | (with_reducible exact LeO.refl _)
    | (with_reducible exact LeO.none _)
    | (with_reducible refine LeO.ite ?_ ?_)
    | (with_reducible refine LeO.bind ?_ (fun _ => ?_))
    | exact ih0 _ _ _
    | exact LeO.none _
    | refine LeO.ite ?_ ?_
    | refine LeO.bind ?_ (fun _ => ?_)
theorem laws_sameInts.mono : ∀ a0 a1 k, LeO (laws_sameInts.f k a0 a1) (laws_sameInts.f (k + 1) a0 a1) := by
 intro a0 a1 k; have ih0 := laws_sameInts.mono_l k; unfold laws_sameInts.f
 repeat' first
  | (with_reducible exact ih0 _ _ _)
  | (with_reducible exact LeO.refl _)
  | (with_reducible exact LeO.none _)
  | (with_reducible refine LeO.ite ?_ ?_)
  | (with_reducible refine LeO.bind ?_ (fun _ => ?_))
  | exact ih0 _ _ _
  | exact LeO.none _
  | refine LeO.ite ?_ ?_
  | refine LeO.bind ?_ (fun _ => ?_)
set_option maxHeartbeats 8000000 in
set_option maxRecDepth 100000 in
theorem laws_sameInts.calls (k : Nat) (A0 : Option Addr) (c0 : Nat) (l0 : List Int) (A1 : Option Addr) (c1 : Nat) (l1 : List Int) (r : Bool) (w : World) (hr0 : Kd.C (Kd.int .i64) w A0 l0.length l0) (hc0 : l0.length ≤ c0) (hr1 : Kd.C (Kd.int .i64) w A1 l1.length l1) (hc1 : l1.length ≤ c1) (h : laws_sameInts.f k l0 l1 = some r) :
 Calls Try.prog 29 #[.slice A0 l0.length c0, .slice A1 l1.length c1] w fun e w' => e = .returned (.bool r) ∧ Drawn0 w w' := by
 have HR0 := q0_11 hr0; have HC0 := q0_11 hc0; clear hr0 hc0; have HR1 := q0_11 hr1; have HC1 := q0_11 hc1; clear hr1 hc1; (have H : (if (l0.length : Int) = (l1.length : Int) then (laws_sameInts.l0 k l0 l1 0) else (some false)) = some r := h); clear h
 by_cases c3 : (l0.length : Int) = (l1.length : Int)
 · rw [if_pos c3] at H
   (have c3b0 : ((l0.length : Int) == (l1.length : Int)) = true := beq_iff_eq.mpr c3); (have c3b1 : ((l0.length : Int) != (l1.length : Int)) = false := bne_eq_false_iff_eq.mpr c3); (have c3b2 : (l0.length == l1.length) = true := by first | simpa using c3 | (simp at c3 ⊢; omega)); clear c3; (have H' := q0_11 H); clear H; go_enter Try.func29, Try.ntmps29; (go_wp2); (repeat (go_quiet (fail); try go_wp2)); (go_loopg [5] k (fun kq v5 w' => ∃ (x5_1 : Int), v5 = .int .i64 x5_1 ∧ Aside0 (laws_sameInts.l0 kq l0 l1 x5_1 = some r) ∧ Aside0 (kq ≤ k) ∧ Drawn0 w w'))
   case atStart => exact ⟨(0), (by first | rfl | (simp; done) | (simp [*]; done)), H', ⟨Nat.le_refl _⟩, by repeat (first | exact Drawn0.refl _ | apply Drawn0.step)⟩
   case round =>
    clear H'; (try clear c1); (try clear c2); (try clear p2); (try clear c3); (try clear c3b0); (try clear c3b1); (try clear c3b2); obtain ⟨x5_1, rfl, HA, HK1, ⟨m1, rfl⟩⟩ := hrel
    cases gk with
    | zero => exact absurd HA.out (by simp [laws_sameInts.l0])
    | succ k1 =>
     have H := HA.out; clear HA; (simp only [laws_sameInts.l0] at H)
     by_cases c4 : x5_1 < (l0.length : Int)
     · rw [if_pos c4] at H
       (have c4b0 : decide (x5_1 < (l0.length : Int)) = true := decide_eq_true c4); clear c4
       by_cases c5 : 0 ≤ x5_1
       · rw [if_pos c5] at H
         (have c5b0 : decide (0 ≤ x5_1) = true := decide_eq_true c5); clear c5
         by_cases c6 : x5_1 < (l1.length : Int)
         · rw [if_pos c6] at H
           (have c6b0 : decide (x5_1 < (l1.length : Int)) = true := decide_eq_true c6); clear c6
           by_cases c7 : (rd l0 x5_1) = (rd l1 x5_1)
           · rw [if_pos c7] at H
             (have c7b0 : ((rd l0 x5_1) == (rd l1 x5_1)) = true := beq_iff_eq.mpr c7); (have c7b1 : ((rd l0 x5_1) != (rd l1 x5_1)) = false := bne_eq_false_iff_eq.mpr c7); clear c7; (have H' := q0_11 H); clear H; (have p518 : 0 ≤ (x5_1 : Int) := of_decide_eq_true (by first | (with_reducible assumption) | assumption)); (have q518 : x5_1 < (l0.length : Int) := of_decide_eq_true (by first | (with_reducible assumption) | assumption)); obtain ⟨ad518, e518, hx518_0⟩ := Kd.at_int HR0.out x5_1 p518 q518
             cases e518
             replace p518 := eq_true p518; replace q518 := eq_true q518; (have p519 : 0 ≤ (x5_1 : Int) := of_decide_eq_true (by first | (with_reducible assumption) | assumption)); (have q519 : x5_1 < (l1.length : Int) := of_decide_eq_true (by first | (with_reducible assumption) | assumption)); obtain ⟨ad519, e519, hx519_0⟩ := Kd.at_int HR1.out x5_1 p519 q519
             cases e519
             replace p519 := eq_true p519; replace q519 := eq_true q519; (go_wp2); (repeat (go_quiet (fail); try go_wp2)); (go_roundg k1)
             case measure => have := HK1.out; omega
             case rel => exact ⟨(wrap64 (x5_1 + 1)), (by first | rfl | (simp; done) | (simp [*]; done)), H', ⟨by have := HK1.out; omega⟩, by repeat (first | exact Drawn0.refl _ | apply Drawn0.step)⟩
           · rw [if_neg c7] at H
             (have c7b0 : ((rd l0 x5_1) == (rd l1 x5_1)) = false := beq_eq_false_iff_ne.mpr c7); (have c7b1 : ((rd l0 x5_1) != (rd l1 x5_1)) = true := bne_iff_ne.mpr c7); obtain rfl := Option.some.inj H; (have p518 : 0 ≤ (x5_1 : Int) := of_decide_eq_true (by first | (with_reducible assumption) | assumption)); (have q518 : x5_1 < (l0.length : Int) := of_decide_eq_true (by first | (with_reducible assumption) | assumption)); obtain ⟨ad518, e518, hx518_0⟩ := Kd.at_int HR0.out x5_1 p518 q518
             cases e518
             replace p518 := eq_true p518; replace q518 := eq_true q518; (have p519 : 0 ≤ (x5_1 : Int) := of_decide_eq_true (by first | (with_reducible assumption) | assumption)); (have q519 : x5_1 < (l1.length : Int) := of_decide_eq_true (by first | (with_reducible assumption) | assumption)); obtain ⟨ad519, e519, hx519_0⟩ := Kd.at_int HR1.out x5_1 p519 q519
             cases e519
             replace p519 := eq_true p519; replace q519 := eq_true q519; (go_wp2); (repeat (go_quiet (fail); try go_wp2)); go_ret; exact ⟨by first | rfl | (simp; done) | (simp [*]; done), by repeat (first | exact Drawn0.refl _ | apply Drawn0.step)⟩
         · rw [if_neg c6] at H
           exact absurd H (by simp)
       · rw [if_neg c5] at H
         exact absurd H (by simp)
     · rw [if_neg c4] at H
       (have c4b0 : decide (x5_1 < (l0.length : Int)) = false := decide_eq_false c4); clear c4; obtain rfl := Option.some.inj H; (go_wp2); (repeat (go_quiet (fail); try go_wp2)); go_ret; exact ⟨by first | rfl | (simp; done) | (simp [*]; done), by repeat (first | exact Drawn0.refl _ | apply Drawn0.step)⟩
 · rw [if_neg c3] at H
   (have c3b0 : ((l0.length : Int) == (l1.length : Int)) = false := beq_eq_false_iff_ne.mpr c3); (have c3b1 : ((l0.length : Int) != (l1.length : Int)) = true := bne_iff_ne.mpr c3); (have c3b2 : (l0.length == l1.length) = false := by first | simpa using c3 | (simp at c3 ⊢; omega)); obtain rfl := Option.some.inj H; go_enter Try.func29, Try.ntmps29; (go_wp2); (repeat (go_quiet (fail); try go_wp2)); go_ret; exact ⟨by first | rfl | (simp; done) | (simp [*]; done), by repeat (first | exact Drawn0.refl _ | apply Drawn0.step)⟩
/-! ### impl_Event: function 96 -/
def impl_Event.f (l0 : List (S85)) : Option ((List (S85))) := (some (([] : List (S85)) : List (S85))).bind fun y520 => (if y520.length + l0.length < 4398046511104 then (some (y520 ++ l0)) else (none))
set_option maxHeartbeats 8000000 in
set_option maxRecDepth 100000 in
theorem impl_Event.calls (A0 : Option Addr) (c0 : Nat) (l0 : List (S85)) (r : List (S85)) (w : World) (hr0 : Kd.C k85 w A0 l0.length l0) (hc0 : l0.length ≤ c0) (h : impl_Event.f l0 = some r) :
 Calls Try.prog 96 #[.slice A0 l0.length c0] w fun e w' => ∃ v0_ : Value, e = .returned (v0_) ∧ Kd.R k85 85 w' w.heap.size (fun _ => True) v0_ r ∧ Below w.heap.size w w' := by
 have HR0 := q0_11 hr0; have HC0 := q0_11 hc0; clear hr0 hc0; have HB := q0_11 (Below.refl w.heap.size w); (have H : ((some (([] : List (S85)) : List (S85))).bind fun y520 => (if y520.length + l0.length < 4398046511104 then (some (y520 ++ l0)) else (none))) = some r := h); clear h; obtain ⟨y520, hy520⟩ : ∃ y_ : List (S85), y_ = (([] : List (S85))) := ⟨_, rfl⟩; (replace H : (if y520.length + l0.length < 4398046511104 then (some (y520 ++ l0)) else (none)) = some r := by first | (rw [hy520]; with_reducible exact H) | (have H2_ := (Option.bind_some _ _).symm.trans H; rw [hy520]; with_reducible exact H2_) | (have H2_ := (Option.bind_some _ _).symm.trans H; with_reducible exact H2_) | with_reducible exact H | (rw [hy520]; exact H) | exact H); have Ny520 := q0_11 hy520; clear hy520
 by_cases c2 : y520.length + l0.length < 4398046511104
 · rw [if_pos c2] at H
   have LMc2 := q0_11 c2; clear c2; obtain ⟨y523, hy523⟩ : ∃ y_ : List (S85), y_ = (y520 ++ l0) := ⟨_, rfl⟩; (replace H : (some y523) = some r := by first | (rw [hy523]; with_reducible exact H) | (have H2_ := (Option.bind_some _ _).symm.trans H; rw [hy523]; with_reducible exact H2_) | (have H2_ := (Option.bind_some _ _).symm.trans H; with_reducible exact H2_) | with_reducible exact H | (rw [hy523]; exact H) | exact H); have Ny523 := q0_11 hy523; clear hy523; obtain rfl := Option.some.inj H; go_enter Try.func96, Try.ntmps96; (go_wp2_with (first | ((with_reducible refine gate_dst (N := 3) rfl ?_); refine Kd.R_lit k85 _ 85 ?hg (N := 3) ?hd (xs := ([] : List (S85))) (inner := []) (ok := fun _ => True) (okp := fun _ => True) ?hr ?hp (fun _ hk => hk) trivial (Below.refl _ _) (Nat.le_refl _) (by simp) ?_; (case hd => rfl); (case hg => rfl); (case hr => first | (go_simp; done) | (go_simp; rfl)); (case hp => exact (Reps.none _ _)); intro v521 w3 ho4 hb hg_ hnew_; clear hg_ hnew_; (first | rw [← Ny520.out] at ho4 | (simp only [Int.reduceToNat] at ho4; rw [← Ny520.out] at ho4)); have n0_ := q0_11 (Kd.R_lower ho4 (below_size (q3_11))); have n1_ := q0_11 (below_step (q3_11) hb); clear HB; have q6 := n0_; have HB := n1_; clear n0_ n1_; clear hb ho4) | ((with_reducible refine gate_builtin (b := .append) (xs := #[.tmp 3, .tmp 4]) rfl ?_); at_builtin; refine Kd.R_append_rows k85 (w0 := w) w.heap.size rfl (.tmp 3) (.tmp 4) 51 85 (.agg #[(.int .i64 0), (.int .i64 0), (.int .i64 0), (.int .i64 0)]) 32 rfl Try.underlying51 info85 rfl (by decide) (by omega) v521 y520 l0 _ _ _ (fun _ => True) (fun _ => False) rfl rfl ?aO ?aR (fun _ _ h => h) (fun _ h => h.elim) ?aF ?aB ?aS ?aL ?_; (case aR => exact ca (Kd.C_below HR0.out HB.out)); (case aB => exact (q3_11)); (case aF => exact (fun _ _ => trivial)); (case aO => exact (ra q6.out)); (case aS => exact (below_size (q3_11))); (case aL => have := LMc2.out; omega); intro v524 w5 ho hb hg hat; rw [← Ny523.out] at ho; have n0_ := q0_11 (hb); have n1_ := q0_11 (ho); clear HB; clear q6; have HB := n0_; have q8 := n1_; clear n0_ n1_; clear ho hb hg hat))); go_ret; (exact ⟨_, by first | rfl | (simp [errW_none, errW_some] <;> rfl) | (simp [*, errW_none, errW_some] <;> rfl), by refine ra ?_; exact q8.out, by exact (q3_11)⟩)
 · rw [if_neg c2] at H
   exact absurd H (by simp)
end Go.Proofs.Ytlkfhddckgjlnaa.PFnVoices
