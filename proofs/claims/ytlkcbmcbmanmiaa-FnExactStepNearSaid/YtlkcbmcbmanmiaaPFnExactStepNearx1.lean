-- Written for this claim by a program of this repository (wip/tools/print2.py), out of the translation; Lean checks it.
import Derived.Test.YtlkcbmcbmanmiaaPFnExactStepNearx0
namespace Go.Proofs.Ytlkcbmcbmanmiaa.PFnExactStepNear
open Go.RowKit Go.Proofs.YtlkcbmcbmanmiaaW.PrintWords Go.Proofs.YtlkcbmcbmanmiaaW.PrintLast Go.Proofs.YtlkcbmcbmanmiaaW.PrintMore
attribute [local go_sem] max2_int min2_int max_two min_two max_three min_three max_four min_four   -- for this text's walks alone
set_option linter.unusedVariables false
set_option linter.unusedSimpArgs false
-- SHORT
theorem qe_1 {p : Prop} (f : p := by repeat (first | (with_reducible first | exact HB.out | apply below_alloc | apply pw_below_drewN | apply below_drew1) | exact HB.out)) : p := f
theorem qj_1 {p : Prop} (f : p := by repeat (first | (with_reducible first | exact HB.out | apply below_alloc | apply pw_below_drewN | apply below_drew1 | refine below_set ?_ qs.out) | exact HB.out)) : p := f
theorem qa_1 {p : Prop} (f : p := by repeat (first | (with_reducible first | exact HB.out | apply below_alloc | apply pw_below_drewN | apply below_drew1 | refine below_set ?_ qs.out | refine below_set ?_ qt.out) | exact HB.out)) : p := f
theorem ql_1 {p : Prop} (f : p := by repeat (first | (with_reducible first | exact HB.out | apply below_alloc | apply pw_below_drewN | apply below_drew1 | refine below_set ?_ qo.out) | exact HB.out)) : p := f
theorem qb_1 {p : Prop} (f : p := by repeat (first | (with_reducible first | exact HB.out | apply below_alloc | apply pw_below_drewN | apply below_drew1 | refine below_set ?_ qu.out) | exact HB.out)) : p := f
theorem qi_1 {p : Prop} (f : p := by repeat (first | (with_reducible first | exact HB.out | apply below_alloc | apply pw_below_drewN | apply below_drew1 | refine below_set ?_ qn.out) | exact HB.out)) : p := f
theorem q0_1 {p : Prop} (h : p) : Aside0 p := ⟨h⟩
/-! ### laws_eqIntS: function 18 -/
def laws_eqIntS.l0 : Nat → List Int → List Int → Int → Option (Bool)
 | 0, _, _, _ => none
 | k + 1, x0, x1, x5 => if x5 < (x0.length : Int) then (if 0 ≤ x5 then (if x5 < (x1.length : Int) then (if (rd x0 x5) = (rd x1 x5) then (laws_eqIntS.l0 k x0 x1 (wrap64 (x5 + 1))) else (some false)) else (none)) else (none)) else (some true)
def laws_eqIntS.f (k : Nat) (l0 : List Int) (l1 : List Int) : Option (Bool) := if (l0.length : Int) = (l1.length : Int) then (laws_eqIntS.l0 k l0 l1 0) else (some false)
theorem laws_eqIntS.mono_l : ∀ k, (∀ y0 y1 y2, LeO (laws_eqIntS.l0 k y0 y1 y2) (laws_eqIntS.l0 (k + 1) y0 y1 y2))
 | 0 => fun _ _ _ r h => by simp [laws_eqIntS.l0] at h
 | k + 1 => by
  have ih0 := laws_eqIntS.mono_l k
  · intro y0 y1 y2
    unfold laws_eqIntS.l0
    repeat' first
    | (with_reducible exact ih0 _ _ _)
    | (with_reducible exact LeO.refl _)
    | (with_reducible exact LeO.none _)
    | (with_reducible refine LeO.ite ?_ ?_)
    | (with_reducible refine LeO.bind ?_ (fun _ => ?_))
    | exact ih0 _ _ _
    | exact LeO.none _
    | refine LeO.ite ?_ ?_
    | refine LeO.bind ?_ (fun _ => ?_)
theorem laws_eqIntS.mono : ∀ a0 a1 k, LeO (laws_eqIntS.f k a0 a1) (laws_eqIntS.f (k + 1) a0 a1) := by
 intro a0 a1 k; have ih0 := laws_eqIntS.mono_l k; unfold laws_eqIntS.f
 repeat' first
  | (with_reducible exact ih0 _ _ _)
  | (with_reducible exact LeO.refl _)
  | (with_reducible exact LeO.none _)
  | (with_reducible refine LeO.ite ?_ ?_)
  | (with_reducible refine LeO.bind ?_ (fun _ => ?_))
  | exact ih0 _ _ _
  | exact LeO.none _
  | refine LeO.ite ?_ ?_
  | refine LeO.bind ?_ (fun _ => ?_)
set_option maxHeartbeats 8000000 in
set_option maxRecDepth 100000 in
theorem laws_eqIntS.calls (k : Nat) (A0 : Option Addr) (c0 : Nat) (l0 : List Int) (A1 : Option Addr) (c1 : Nat) (l1 : List Int) (r : Bool) (w : World) (hr0 : Kd.C (Kd.int .i64) w A0 l0.length l0) (hc0 : l0.length ≤ c0) (hr1 : Kd.C (Kd.int .i64) w A1 l1.length l1) (hc1 : l1.length ≤ c1) (h : laws_eqIntS.f k l0 l1 = some r) :
 Calls Try.prog 18 #[.slice A0 l0.length c0, .slice A1 l1.length c1] w fun e w' => e = .returned (.bool r) ∧ Drawn0 w w' := by
 have HR0 := q0_1 hr0; have HC0 := q0_1 hc0; clear hr0 hc0; have HR1 := q0_1 hr1; have HC1 := q0_1 hc1; clear hr1 hc1; (have H : (if (l0.length : Int) = (l1.length : Int) then (laws_eqIntS.l0 k l0 l1 0) else (some false)) = some r := h); clear h
 by_cases c3 : (l0.length : Int) = (l1.length : Int)
 · rw [if_pos c3] at H
   (have c3b0 : ((l0.length : Int) == (l1.length : Int)) = true := beq_iff_eq.mpr c3); (have c3b1 : ((l0.length : Int) != (l1.length : Int)) = false := bne_eq_false_iff_eq.mpr c3); (have c3b2 : (l0.length == l1.length) = true := by first | simpa using c3 | (simp at c3 ⊢; omega)); clear c3; (have H' := q0_1 H); clear H; go_enter Try.func18, Try.ntmps18; (go_wp2); (repeat (go_quiet (fail); try go_wp2)); (go_loopg [5] k (fun kq v5 w' => ∃ (x5_1 : Int), v5 = .int .i64 x5_1 ∧ Aside0 (laws_eqIntS.l0 kq l0 l1 x5_1 = some r) ∧ Aside0 (kq ≤ k) ∧ Drawn0 w w'))
   case atStart => exact ⟨(0), (by first | rfl | (simp; done) | (simp [*]; done)), H', ⟨Nat.le_refl _⟩, by repeat (first | exact Drawn0.refl _ | apply Drawn0.step)⟩
   case round =>
    clear H'; (try clear c1); (try clear p2); (try clear c3); (try clear c3b0); (try clear c3b1); (try clear c3b2); obtain ⟨x5_1, rfl, HA, HK1, ⟨m1, rfl⟩⟩ := hrel
    cases gk with
    | zero => exact absurd HA.out (by simp [laws_eqIntS.l0])
    | succ k1 =>
     have H := HA.out; clear HA; (simp only [laws_eqIntS.l0] at H)
     by_cases c4 : x5_1 < (l0.length : Int)
     · rw [if_pos c4] at H
       (have c4b0 : decide (x5_1 < (l0.length : Int)) = true := decide_eq_true c4); clear c4
       by_cases c5 : 0 ≤ x5_1
       · rw [if_pos c5] at H
         (have c5b0 : decide (0 ≤ x5_1) = true := decide_eq_true c5); clear c5
         by_cases c6 : x5_1 < (l1.length : Int)
         · rw [if_pos c6] at H
           (have c6b0 : decide (x5_1 < (l1.length : Int)) = true := decide_eq_true c6); clear c6
           by_cases c7 : (rd l0 x5_1) = (rd l1 x5_1)
           · rw [if_pos c7] at H
             (have c7b0 : ((rd l0 x5_1) == (rd l1 x5_1)) = true := beq_iff_eq.mpr c7); (have c7b1 : ((rd l0 x5_1) != (rd l1 x5_1)) = false := bne_eq_false_iff_eq.mpr c7); clear c7; (have H' := q0_1 H); clear H; (have p101 : 0 ≤ (x5_1 : Int) := of_decide_eq_true (by first | (with_reducible assumption) | assumption)); (have q101 : x5_1 < (l0.length : Int) := of_decide_eq_true (by first | (with_reducible assumption) | assumption)); obtain ⟨ad101, e101, hx101_0⟩ := Kd.at_int HR0.out x5_1 p101 q101
             cases e101
             replace p101 := eq_true p101; replace q101 := eq_true q101; (have p102 : 0 ≤ (x5_1 : Int) := of_decide_eq_true (by first | (with_reducible assumption) | assumption)); (have q102 : x5_1 < (l1.length : Int) := of_decide_eq_true (by first | (with_reducible assumption) | assumption)); obtain ⟨ad102, e102, hx102_0⟩ := Kd.at_int HR1.out x5_1 p102 q102
             cases e102
             replace p102 := eq_true p102; replace q102 := eq_true q102; (go_wp2); (repeat (go_quiet (fail); try go_wp2)); (go_roundg k1)
             case measure => have := HK1.out; omega
             case rel => exact ⟨(wrap64 (x5_1 + 1)), (by first | rfl | (simp; done) | (simp [*]; done)), H', ⟨by have := HK1.out; omega⟩, by repeat (first | exact Drawn0.refl _ | apply Drawn0.step)⟩
           · rw [if_neg c7] at H
             (have c7b0 : ((rd l0 x5_1) == (rd l1 x5_1)) = false := beq_eq_false_iff_ne.mpr c7); (have c7b1 : ((rd l0 x5_1) != (rd l1 x5_1)) = true := bne_iff_ne.mpr c7); obtain rfl := Option.some.inj H; (have p101 : 0 ≤ (x5_1 : Int) := of_decide_eq_true (by first | (with_reducible assumption) | assumption)); (have q101 : x5_1 < (l0.length : Int) := of_decide_eq_true (by first | (with_reducible assumption) | assumption)); obtain ⟨ad101, e101, hx101_0⟩ := Kd.at_int HR0.out x5_1 p101 q101
             cases e101
             replace p101 := eq_true p101; replace q101 := eq_true q101; (have p102 : 0 ≤ (x5_1 : Int) := of_decide_eq_true (by first | (with_reducible assumption) | assumption)); (have q102 : x5_1 < (l1.length : Int) := of_decide_eq_true (by first | (with_reducible assumption) | assumption)); obtain ⟨ad102, e102, hx102_0⟩ := Kd.at_int HR1.out x5_1 p102 q102
             cases e102
             replace p102 := eq_true p102; replace q102 := eq_true q102; (go_wp2); (repeat (go_quiet (fail); try go_wp2)); go_ret; exact ⟨by first | rfl | (simp; done) | (simp [*]; done), by repeat (first | exact Drawn0.refl _ | apply Drawn0.step)⟩
         · rw [if_neg c6] at H
           exact absurd H (by simp)
       · rw [if_neg c5] at H
         exact absurd H (by simp)
     · rw [if_neg c4] at H
       (have c4b0 : decide (x5_1 < (l0.length : Int)) = false := decide_eq_false c4); clear c4; obtain rfl := Option.some.inj H; (go_wp2); (repeat (go_quiet (fail); try go_wp2)); go_ret; exact ⟨by first | rfl | (simp; done) | (simp [*]; done), by repeat (first | exact Drawn0.refl _ | apply Drawn0.step)⟩
 · rw [if_neg c3] at H
   (have c3b0 : ((l0.length : Int) == (l1.length : Int)) = false := beq_eq_false_iff_ne.mpr c3); (have c3b1 : ((l0.length : Int) != (l1.length : Int)) = true := bne_iff_ne.mpr c3); (have c3b2 : (l0.length == l1.length) = false := by first | simpa using c3 | (simp at c3 ⊢; omega)); obtain rfl := Option.some.inj H; go_enter Try.func18, Try.ntmps18; (go_wp2); (repeat (go_quiet (fail); try go_wp2)); go_ret; exact ⟨by first | rfl | (simp; done) | (simp [*]; done), by repeat (first | exact Drawn0.refl _ | apply Drawn0.step)⟩
/-! ### laws_markIntS: function 21 -/
def laws_markIntS.l0 : Nat → List Int → Int → Int → Option (Int × List Int)
 | 0, _, _, _ => none
 | k + 1, x0, x1, x5 => if x5 < (x0.length : Int) then (if 0 ≤ x5 then (laws_markIntS.l0 k (x0.set (x5 : Int).toNat x1) (wrap64 (x1 + 1)) (wrap64 (x5 + 1))) else (none)) else (some (x1, x0))
def laws_markIntS.f (k : Nat) (l0 : List Int) (a1 : Int) : Option (Int × List Int) := laws_markIntS.l0 k l0 a1 0
theorem laws_markIntS.mono_l : ∀ k, (∀ y0 y1 y2, LeO (laws_markIntS.l0 k y0 y1 y2) (laws_markIntS.l0 (k + 1) y0 y1 y2))
 | 0 => fun _ _ _ r h => by simp [laws_markIntS.l0] at h
 | k + 1 => by
  have ih0 := laws_markIntS.mono_l k
  · intro y0 y1 y2
    unfold laws_markIntS.l0
    repeat' first
    | (with_reducible exact ih0 _ _ _)
    | (with_reducible exact LeO.refl _)
    | (with_reducible exact LeO.none _)
    | (with_reducible refine LeO.ite ?_ ?_)
    | (with_reducible refine LeO.bind ?_ (fun _ => ?_))
    | exact ih0 _ _ _
    | exact LeO.none _
    | refine LeO.ite ?_ ?_
    | refine LeO.bind ?_ (fun _ => ?_)
theorem laws_markIntS.mono : ∀ a0 a1 k, LeO (laws_markIntS.f k a0 a1) (laws_markIntS.f (k + 1) a0 a1) := by
 intro a0 a1 k; have ih0 := laws_markIntS.mono_l k; unfold laws_markIntS.f
 repeat' first
  | (with_reducible exact ih0 _ _ _)
  | (with_reducible exact LeO.refl _)
  | (with_reducible exact LeO.none _)
  | (with_reducible refine LeO.ite ?_ ?_)
  | (with_reducible refine LeO.bind ?_ (fun _ => ?_))
  | exact ih0 _ _ _
  | exact LeO.none _
  | refine LeO.ite ?_ ?_
  | refine LeO.bind ?_ (fun _ => ?_)
set_option maxHeartbeats 8000000 in
set_option maxRecDepth 100000 in
theorem laws_markIntS.calls (k : Nat) (P0_ : Nat → Prop) (u9000_ : Value) (l0 : List Int) (a1 : Int) (r1 : Int) (r2 : List Int) (w0 w : World) (hB : Below w0.heap.size w0 w) (ho0 : Kd.R (Kd.int .i64) 3 w w0.heap.size P0_ u9000_ l0) (h : laws_markIntS.f k l0 a1 = some (r1, r2)) :
 Calls Try.prog 21 #[u9000_, .int .i64 a1] w fun e w' => e = .returned (.int .i64 r1) ∧ Kd.R (Kd.int .i64) 3 w' w0.heap.size (fun k_ => (P0_ k_ ∨ w.heap.size ≤ k_)) u9000_ r2 ∧ Below w0.heap.size w0 w' ∧ Kept w w' (fun k_ => P0_ k_) := by
 have qv := q0_1 (show Kd.R (Kd.int .i64) 3 w w0.heap.size (fun k_ => (P0_ k_ ∨ w.heap.size ≤ k_)) u9000_ l0 from Kd.R_mono ho0 (fun k_ hk => (.inl hk))); have HK := q0_1 (Kept.refl w (fun k_ => P0_ k_)); have HW0 := q0_1 hB.size; have HB := q0_1 hB; clear hB; (have H : (laws_markIntS.l0 k l0 a1 0) = some (r1, r2) := h); clear h; (have H' := q0_1 H); clear H; go_enter Try.func21, Try.ntmps21; (go_wp2); (go_loopg [1, 5] k (fun kq v1 v5 w' => ∃ (x0_1 : List Int) (x1_1 : Int) (x5_1 : Int), v1 = .int .i64 x1_1 ∧ v5 = .int .i64 x5_1 ∧ Aside0 (laws_markIntS.l0 kq x0_1 x1_1 x5_1 = some (r1, r2)) ∧ Aside0 (kq ≤ k) ∧ Aside0 (Kd.R (Kd.int .i64) 3 w' w0.heap.size (fun k_ => (P0_ k_ ∨ w.heap.size ≤ k_)) u9000_ x0_1) ∧ Aside0 (Kept w w' (fun k_ => P0_ k_)) ∧ Aside0 (Below w0.heap.size w0 w')))
 case atStart => exact ⟨(l0), (a1), (0), (by first | rfl | (simp; done) | (simp [*]; done)), (by first | rfl | (simp; done) | (simp [*]; done)), H', ⟨Nat.le_refl _⟩, ⟨by refine ra ?_; exact qv.out⟩, ⟨by repeat (first | (with_reducible first | exact HK.out | apply Kept.alloc | apply Kept.drewN | apply Kept.drew) | exact HK.out)⟩, ⟨by exact (qe_1)⟩⟩
 case round =>
  clear H'; (try clear c2); (try clear p2); obtain ⟨x0_1, x1_1, x5_1, rfl, rfl, HA, HK1, qf, HK, HB⟩ := hrel
  cases gk with
  | zero => exact absurd HA.out (by simp [laws_markIntS.l0])
  | succ k1 =>
   have H := HA.out; clear HA; (simp only [laws_markIntS.l0] at H)
   by_cases c3 : x5_1 < (x0_1.length : Int)
   · rw [if_pos c3] at H
     (have c3b0 : decide (x5_1 < (x0_1.length : Int)) = true := decide_eq_true c3); clear c3
     by_cases c4 : 0 ≤ x5_1
     · rw [if_pos c4] at H
       (have c4b0 : decide (0 ≤ x5_1) = true := decide_eq_true c4); clear c4; obtain ⟨y103, hy103⟩ : ∃ y_ : List Int, y_ = (x0_1.set (x5_1 : Int).toNat x1_1) := ⟨_, rfl⟩; (replace H : (laws_markIntS.l0 k1 y103 (wrap64 (x1_1 + 1)) (wrap64 (x5_1 + 1))) = some (r1, r2) := by first | (rw [hy103]; with_reducible exact H) | (have H2_ := (Option.bind_some _ _).symm.trans H; rw [hy103]; with_reducible exact H2_) | (have H2_ := (Option.bind_some _ _).symm.trans H; with_reducible exact H2_) | with_reducible exact H | (rw [hy103]; exact H) | exact H); have Ny103 := q0_1 hy103; clear hy103; (have H' := q0_1 H); clear H; obtain ⟨qx, qw, eo6⟩ := Kd.R_slice qf.out; subst eo6; (have p5 : 0 ≤ (x5_1 : Int) := of_decide_eq_true (by first | (with_reducible assumption) | assumption)); (have q5 : (x5_1 : Int) < ((x0_1.length : Int) : Int) := of_decide_eq_true (by first | (with_reducible assumption) | assumption)); obtain ⟨go5, qy, eo5, qr, gl5, cl5, HG5⟩ := Kd.R_form qf.out (by omega); ((first | cases eo5 | (injection eo5 with ea_ en_ ec_; (first | subst ea_ | (injection ea_ with ea_; subst ea_)); subst ec_; clear en_))); have GB5 := q0_1 qr; have GG5 := q0_1 HG5; clear qr gl5 HG5; have HMgo5 := q0_1 (show (P0_ go5 ∨ w.heap.size ≤ go5) from (qf.out.1 _ rfl)); obtain ⟨hx5_0, hf5_0⟩ := Kd.R_celln 0 qf.out (x5_1 : Int) p5 q5; replace p5 := eq_true p5; replace q5 := eq_true q5; have HP7 := Kd.R_putg qf.out (x5_1 : Int) x1_1; (go_wp2_with (first | ((with_reducible refine gate_store (t := 3) (p := 15) rfl ?_); refine store_event (t := 3) (p := 15) (v := ?vo_w8) (w1 := (wr.setCell ⟨go5, (x5_1 : Int).toNat, none⟩ (.int .i64 x1_1))) ?hg ?ho ?hn ?hr ?_; (case ho => rfl); (case hg => rfl); (case hn => rfl); (case hr => first | (go_simp; done) | (go_simp; rfl)); intro w8 hw; have hg : wr.grownBy w8 (some go5) := (by rw [hw]; exact HP7.2); have hp_ : Kd.R (Kd.int .i64) 3 w8 w0.heap.size (fun k_ => (P0_ k_ ∨ w.heap.size ≤ k_)) (.slice (some ⟨go5, 0, none⟩) x0_1.length qw) y103 := (by rw [hw, Ny103.out]; exact HP7.1); clear HP7; have n0_ := q0_1 (hp_); have n1_ := q0_1 ((by rw [hw]; exact below_set (HB.out) GB5.out : Below w0.heap.size w0 w8)); have n2_ := q0_1 (Kept.of_grown (S := (fun k_ => P0_ k_)) hg (by repeat (first | (with_reducible first | exact HK.out | apply Kept.alloc | apply Kept.drewN | apply Kept.drew) | exact HK.out)) (fun k_ e_ => (qf.out.1 k_ e_))); clear qf; clear HB; clear HK; have qf := n0_; have HB := n1_; have HK := n2_; clear n0_ n1_ n2_; clear hg hw hp_))); (go_roundg k1)
       case measure => have := HK1.out; omega
       case rel => exact ⟨(y103), (wrap64 (x1_1 + 1)), (wrap64 (x5_1 + 1)), (by first | rfl | (simp; done) | (simp [*]; done)), (by first | rfl | (simp; done) | (simp [*]; done)), H', ⟨by have := HK1.out; omega⟩, ⟨by refine ra ?_; exact qf.out⟩, ⟨by repeat (first | (with_reducible first | exact HK.out | apply Kept.alloc | apply Kept.drewN | apply Kept.drew) | exact HK.out)⟩, ⟨by exact (qe_1)⟩⟩
     · rw [if_neg c4] at H
       exact absurd H (by simp)
   · rw [if_neg c3] at H
     (have c3b0 : decide (x5_1 < (x0_1.length : Int)) = false := decide_eq_false c3); clear c3; (simp only [Option.some.injEq, Prod.mk.injEq] at H); obtain ⟨rfl, rfl⟩ := H; obtain ⟨qp, qq, eo9⟩ := Kd.R_slice qf.out; subst eo9; (go_wp2); go_ret; (exact ⟨by first | rfl | (simp [errW_none, errW_some] <;> rfl) | (simp [*, errW_none, errW_some] <;> rfl), by refine ra ?_; exact qf.out, by exact (qe_1), by repeat (first | (with_reducible first | exact HK.out | apply Kept.alloc | apply Kept.drewN | apply Kept.drew) | exact HK.out)⟩)
/-! ### laws_szIntS: function 82 -/
def laws_szIntS.f (l0 : List Int) (a1 : Int) : Option (Int) := if (wrap64 (a1 - (l0.length : Int))) < 0 then (some (-1)) else (some (wrap64 (a1 - (l0.length : Int))))
set_option maxHeartbeats 8000000 in
set_option maxRecDepth 100000 in
theorem laws_szIntS.calls (A0 : Option Addr) (c0 : Nat) (l0 : List Int) (a1 : Int) (r : Int) (w : World) (hr0 : Kd.C (Kd.int .i64) w A0 l0.length l0) (hc0 : l0.length ≤ c0) (h : laws_szIntS.f l0 a1 = some r) :
 Calls Try.prog 82 #[.slice A0 l0.length c0, .int .i64 a1] w fun e w' => e = .returned (.int .i64 r) ∧ Drawn0 w w' := by
 have HR0 := q0_1 hr0; have HC0 := q0_1 hc0; clear hr0 hc0; (have H : (if (wrap64 (a1 - (l0.length : Int))) < 0 then (some (-1)) else (some (wrap64 (a1 - (l0.length : Int))))) = some r := h); clear h
 by_cases c3 : (wrap64 (a1 - (l0.length : Int))) < 0
 · rw [if_pos c3] at H
   (have c3b0 : decide ((wrap64 (a1 - (l0.length : Int))) < 0) = true := decide_eq_true c3); clear c3; obtain rfl := Option.some.inj H; go_enter Try.func82, Try.ntmps82; (go_wp2); go_ret; exact ⟨by first | rfl | (simp; done) | (simp [*]; done), by repeat (first | exact Drawn0.refl _ | apply Drawn0.step)⟩
 · rw [if_neg c3] at H
   (have c3b0 : decide ((wrap64 (a1 - (l0.length : Int))) < 0) = false := decide_eq_false c3); clear c3; obtain rfl := Option.some.inj H; go_enter Try.func82, Try.ntmps82; (go_wp2); go_ret; exact ⟨by first | rfl | (simp; done) | (simp [*]; done), by repeat (first | exact Drawn0.refl _ | apply Drawn0.step)⟩
/-! ### laws_szFollower: function 33 -/
def laws_szFollower.f (l0_0 : List Int) (a0_1 : Int) (a1 : Int) : Option (Int) := (laws_szIntS.f l0_0 a1).bind fun t105 => (if t105 < 0 then (some (-1)) else (some t105))
set_option maxHeartbeats 8000000 in
set_option maxRecDepth 100000 in
theorem laws_szFollower.calls (A0_0 : Option Addr) (c0_0 : Nat) (l0_0 : List Int) (a0_1 : Int) (a1 : Int) (r : Int) (w : World) (hr0_0 : Kd.C (Kd.int .i64) w A0_0 l0_0.length l0_0) (hc0_0 : l0_0.length ≤ c0_0) (h : laws_szFollower.f l0_0 a0_1 a1 = some r) :
 Calls Try.prog 33 #[.agg #[.slice A0_0 l0_0.length c0_0, .int .i64 a0_1], .int .i64 a1] w fun e w' => e = .returned (.int .i64 r) ∧ Below w.heap.size w w' := by
 have hu49 := Try.underlying49; have HR0_0 := q0_1 hr0_0; have HC0_0 := q0_1 hc0_0; clear hr0_0 hc0_0; have HB := q0_1 (Below.refl w.heap.size w); (have H : ((laws_szIntS.f l0_0 a1).bind fun t105 => (if t105 < 0 then (some (-1)) else (some t105))) = some r := h); clear h; replace H := Option.bind_eq_some_iff.mp H; obtain ⟨t105, A30, H⟩ := H; replace H : (if t105 < 0 then (some (-1)) else (some t105)) = some r := H; have A3 := q0_1 A30; clear A30
 by_cases c4 : t105 < 0
 · rw [if_pos c4] at H
   (have c4b0 : decide (t105 < 0) = true := decide_eq_true c4); clear c4; obtain rfl := Option.some.inj H; go_enter Try.func33, Try.ntmps33; (go_wp2_with (first | ((with_reducible refine gate_dst (N := 2) rfl ?_); refine box_event ?hg (N := 2) ?hd (cs := #[.slice A0_0 l0_0.length c0_0, .int .i64 a0_1]) (t := 49) ?hr ?_; (case hd => rfl); (case hg => rfl); (case hr => first | (go_simp; done) | (go_simp; rfl)); intro qc hg w5 hbox hb; have n0_ := q0_1 (below_step (qe_1) hb); have n1_ := q0_1 (hbox); have n2_ := q0_1 ((by rw [hg]; exact (below_size (qe_1)) : w.heap.size ≤ qc)); have n3_ := q0_1 ((by rw [hg]; exact (below_size (qe_1)) : w.heap.size ≤ qc)); clear HB; have HB := n0_; have qd := n1_; have GW104 := n2_; have qo := n3_; clear n0_ n1_ n2_ n3_; clear hb hbox hg; have hcz6_0 : w5.cell? ⟨qc, 0, none⟩ = some (.slice A0_0 l0_0.length c0_0) := (blk_cell qd.out 0).trans rfl; have hcz6_1 : w5.cell? ⟨qc, 1, none⟩ = some (.int .i64 a0_1) := (blk_cell qd.out 1).trans rfl; have hfz6_0 := blk_frozen qd.out 0; have hfz6_1 := blk_frozen qd.out 1) | ((with_reducible refine gate_callee (f := 82) rfl ?_); refine goesL_ (some 8) rfl rfl Try.func82 (by kernel_rfl) rfl #[.slice A0_0 l0_0.length c0_0, .int .i64 a1] rfl ma ?_; (with_reducible refine (laws_szIntS.calls _ _ l0_0 a1 t105 _ ?side1 ?side2 A3.out).mono ?_); (case side1 => exact ca (Kd.C_below HR0_0.out HB.out)); (case side2 => exact HC0_0.out); rintro e w' ⟨rfl, ⟨nd, rfl⟩⟩; refine ⟨_, rfl, ?_⟩))); go_ret; (exact ⟨by first | rfl | (simp [errW_none, errW_some] <;> rfl) | (simp [*, errW_none, errW_some] <;> rfl), by exact (ql_1)⟩)
 · rw [if_neg c4] at H
   (have c4b0 : decide (t105 < 0) = false := decide_eq_false c4); clear c4; obtain rfl := Option.some.inj H; go_enter Try.func33, Try.ntmps33; (go_wp2_with (first | ((with_reducible refine gate_dst (N := 2) rfl ?_); refine box_event ?hg (N := 2) ?hd (cs := #[.slice A0_0 l0_0.length c0_0, .int .i64 a0_1]) (t := 49) ?hr ?_; (case hd => rfl); (case hg => rfl); (case hr => first | (go_simp; done) | (go_simp; rfl)); intro qc hg w7 hbox hb; have n0_ := q0_1 (below_step (qe_1) hb); have n1_ := q0_1 (hbox); have n2_ := q0_1 ((by rw [hg]; exact (below_size (qe_1)) : w.heap.size ≤ qc)); have n3_ := q0_1 ((by rw [hg]; exact (below_size (qe_1)) : w.heap.size ≤ qc)); clear HB; have HB := n0_; have qd := n1_; have GW104 := n2_; have qo := n3_; clear n0_ n1_ n2_ n3_; clear hb hbox hg; have hcz8_0 : w7.cell? ⟨qc, 0, none⟩ = some (.slice A0_0 l0_0.length c0_0) := (blk_cell qd.out 0).trans rfl; have hcz8_1 : w7.cell? ⟨qc, 1, none⟩ = some (.int .i64 a0_1) := (blk_cell qd.out 1).trans rfl; have hfz8_0 := blk_frozen qd.out 0; have hfz8_1 := blk_frozen qd.out 1) | ((with_reducible refine gate_callee (f := 82) rfl ?_); refine goesL_ (some 8) rfl rfl Try.func82 (by kernel_rfl) rfl #[.slice A0_0 l0_0.length c0_0, .int .i64 a1] rfl ma ?_; (with_reducible refine (laws_szIntS.calls _ _ l0_0 a1 t105 _ ?side1 ?side2 A3.out).mono ?_); (case side1 => exact ca (Kd.C_below HR0_0.out HB.out)); (case side2 => exact HC0_0.out); rintro e w' ⟨rfl, ⟨nd, rfl⟩⟩; refine ⟨_, rfl, ?_⟩))); go_ret; (exact ⟨by first | rfl | (simp [errW_none, errW_some] <;> rfl) | (simp [*, errW_none, errW_some] <;> rfl), by exact (ql_1)⟩)
/-! ### spec_l1In: function 71 -/
def spec_l1In.f (a0 : Int) (a1 : Int) (a2 : Int) : Option (Bool) := if a0 ≥ a1 then (some (decide (a0 ≤ a2))) else (some false)
set_option maxHeartbeats 8000000 in
set_option maxRecDepth 100000 in
theorem spec_l1In.calls (a0 : Int) (a1 : Int) (a2 : Int) (r : Bool) (w : World) (h : spec_l1In.f a0 a1 a2 = some r) :
 Calls Try.prog 71 #[.int .i64 a0, .int .i64 a1, .int .i64 a2] w fun e w' => e = .returned (.bool r) ∧ Drawn0 w w' := by
 (have H : (if a0 ≥ a1 then (some (decide (a0 ≤ a2))) else (some false)) = some r := h); clear h
 by_cases c4 : a0 ≥ a1
 · rw [if_pos c4] at H
   (have c4b0 : decide (a1 ≤ a0) = true := decide_eq_true c4); clear c4; obtain rfl := Option.some.inj H; go_enter Try.func71, Try.ntmps71; (go_wp2); go_ret; exact ⟨by first | rfl | (simp; done) | (simp [*]; done), by repeat (first | exact Drawn0.refl _ | apply Drawn0.step)⟩
 · rw [if_neg c4] at H
   (have c4b0 : decide (a1 ≤ a0) = false := decide_eq_false c4); clear c4; obtain rfl := Option.some.inj H; go_enter Try.func71, Try.ntmps71; (go_wp2); go_ret; exact ⟨by first | rfl | (simp; done) | (simp [*]; done), by repeat (first | exact Drawn0.refl _ | apply Drawn0.step)⟩
/-! ### spec_l17Copy: function 83 -/
def spec_l17Copy.f (l0_0 : List Int) (a0_1 : Int) : Option (List Int × Int) := (some (([] : List Int) : List Int)).bind fun y108 => (if y108.length + l0_0.length < 17592186044416 then (some ((y108 ++ l0_0), a0_1)) else (none))
def spec_l17Copy.T1 : Bool × List (List Nat × List Nat) := (true, [([], []), ([], []), ([1], [1]), ([0, 2], [0, 2]), ([], []), ([4], [4]), ([3, 5], [3, 5]), ([6, 3, 0, 1, 2, 3, 4, 5, 6], [6])])
def spec_l17Copy.B1 : List Nat := [0, 0, 2, 7, 0, 16, 63, 127]
theorem spec_l17Copy.tab1 : rtab .any (opsOf Try.f83 1) = spec_l17Copy.T1 := by kernel_rfl
theorem spec_l17Copy.bits1 : waitsOk spec_l17Copy.T1.2 spec_l17Copy.B1 = true := by kernel_rfl
set_option maxHeartbeats 8000000 in
set_option maxRecDepth 100000 in
theorem spec_l17Copy.calls (A0_0 : Option Addr) (c0_0 : Nat) (l0_0 : List Int) (a0_1 : Int) (r1 : List Int) (r2 : Int) (w : World) (hr0_0 : Kd.C (Kd.int .i64) w A0_0 l0_0.length l0_0) (hc0_0 : l0_0.length ≤ c0_0) (h : spec_l17Copy.f l0_0 a0_1 = some (r1, r2)) :
 Calls Try.prog 83 #[.agg #[.slice A0_0 l0_0.length c0_0, .int .i64 a0_1]] w fun e w' => ∃ v0_ : Value, e = .returned (.agg #[v0_, .int .i64 r2]) ∧ Kd.R (Kd.int .i64) 3 w' w.heap.size (fun _ => True) v0_ r1 ∧ Below w.heap.size w w' := by
 have hu51 := Try.underlying51; have HR0_0 := q0_1 hr0_0; have HC0_0 := q0_1 hc0_0; clear hr0_0 hc0_0; have HB := q0_1 (Below.refl w.heap.size w); (have H : ((some (([] : List Int) : List Int)).bind fun y108 => (if y108.length + l0_0.length < 17592186044416 then (some ((y108 ++ l0_0), a0_1)) else (none))) = some (r1, r2) := h); clear h; obtain ⟨y108, hy108⟩ : ∃ y_ : List Int, y_ = (([] : List Int)) := ⟨_, rfl⟩; (replace H : (if y108.length + l0_0.length < 17592186044416 then (some ((y108 ++ l0_0), a0_1)) else (none)) = some (r1, r2) := by first | (rw [hy108]; with_reducible exact H) | (have H2_ := (Option.bind_some _ _).symm.trans H; rw [hy108]; with_reducible exact H2_) | (have H2_ := (Option.bind_some _ _).symm.trans H; with_reducible exact H2_) | with_reducible exact H | (rw [hy108]; exact H) | exact H); have Ny108 := q0_1 hy108; clear hy108
 by_cases c2 : y108.length + l0_0.length < 17592186044416
 · rw [if_pos c2] at H
   have LMc2 := q0_1 c2; clear c2; obtain ⟨y111, hy111⟩ : ∃ y_ : List Int, y_ = (y108 ++ l0_0) := ⟨_, rfl⟩; (replace H : (some (y111, a0_1)) = some (r1, r2) := by first | (rw [hy111]; with_reducible exact H) | (have H2_ := (Option.bind_some _ _).symm.trans H; rw [hy111]; with_reducible exact H2_) | (have H2_ := (Option.bind_some _ _).symm.trans H; with_reducible exact H2_) | with_reducible exact H | (rw [hy111]; exact H) | exact H); have Ny111 := q0_1 hy111; clear hy111; (simp only [Option.some.injEq, Prod.mk.injEq] at H); obtain ⟨rfl, rfl⟩ := H; go_enter Try.func83, Try.ntmps83; (try go_wp2_with (first | ((with_reducible refine gate_dst (N := 1) rfl ?_); refine box_event ?hg (N := 1) ?hd (cs := #[.slice A0_0 l0_0.length c0_0, .int .i64 a0_1]) (t := 51) ?hr ?_; (case hd => rfl); (case hg => rfl); (case hr => first | (go_simp; done) | (go_simp; rfl)); intro qg hg w3 hbox hb; have n0_ := q0_1 (below_step (qe_1) hb); have n1_ := q0_1 (hbox); have n2_ := q0_1 ((by rw [hg]; exact (below_size (qe_1)) : w.heap.size ≤ qg)); have n3_ := q0_1 ((by rw [hg]; exact (below_size (qe_1)) : w.heap.size ≤ qg)); clear HB; have HB := n0_; have q2 := n1_; have GW106 := n2_; have qs := n3_; clear n0_ n1_ n2_ n3_; clear hb hbox hg) | ((with_reducible refine gate_dst (N := 2) rfl ?_); refine box_event ?hg (N := 2) ?hd (cs := #[.slice none 0 0, .int .i64 0]) (t := 51) ?hr ?_; (case hd => rfl); (case hg => rfl); (case hr => first | (go_simp; done) | (go_simp; rfl)); intro q9 hg w4 hbox hb; have n0_ := q0_1 (bb q2.out hb); have n1_ := q0_1 (below_step (qj_1) hb); have n2_ := q0_1 (hbox); have n3_ := q0_1 ((by rw [hg]; exact (below_size (qj_1)) : w.heap.size ≤ q9)); have n4_ := q0_1 ((by rw [hg]; exact (below_size (qj_1)) : w.heap.size ≤ q9)); have n5_ := q0_1 ((by rw [hg]; exact Nat.ne_of_lt (bl q2.out) : qg ≠ q9)); have n6_ := q0_1 ((by rw [hg]; exact Nat.ne_of_gt (bl q2.out) : q9 ≠ qg)); clear q2; clear HB; have q2 := n0_; have HB := n1_; have q4 := n2_; have GW107 := n3_; have qt := n4_; have q6 := n5_; have qh := n6_; clear n0_ n1_ n2_ n3_ n4_ n5_ n6_; clear hb hbox hg))); have n0_ := q0_1 (blk_drew q2.out); have n1_ := q0_1 (blk_drew q4.out); have n2_ := q0_1 (below_drew1 HB.out); clear q2 q4 HB; have q2 := n0_; have q4 := n1_; have HB := n2_; clear n0_ n1_ n2_; refine start_ (n := 8) (S := fun w' => w'.cell? ⟨qg, 0, none⟩ = some (.slice A0_0 l0_0.length c0_0) ∧ w'.cell? ⟨qg, 1, none⟩ = some (.int .i64 a0_1)) (ds := []) (bq 0 8) (by kernel_rfl) rfl rfl ⟨(blk_cell q2.out 0).trans rfl, (blk_cell q2.out 1).trans rfl⟩ (fun hHeld => ?_); refine with_tabW spec_l17Copy.tab1 spec_l17Copy.bits1 (fun HT_ HW_ => ?_); generalize w4.drew = w5 at q2 q4 HB hHeld ⊢
   refine pure_ (i := 1) (N := some 4) (v := ?_) (a' := ?_) (bq 2 8) rfl rfl (any_of HT_.out (by kernel_rfl)) (fun _ _ _ h => h) (Or.inl ⟨by rfl, ?_⟩) ?_ ?_; rotate_left; (intro w'; go_simp; with_reducible rfl); rotate_left; (exact pb); refine pure_ (i := 4) (N := some 7) (v := ?_) (a' := ?_) (bq 18 8) rfl rfl (any_of HT_.out (by kernel_rfl)) (fun _ _ _ h => h) (Or.inl ⟨by rfl, ?_⟩) ?_ ?_; rotate_left; (intro w'; go_simp; with_reducible rfl); rotate_left; (exact pb); refine take_ (i := 2) (N := some 5) (v := ?_) (a' := ?_) (bq 22 8) rfl rfl (take_ofW HT_.out HW_.out (by kernel_rfl)) (fun _ _ _ h => h) (Or.inl ⟨by rfl, ?_⟩) hHeld ?_ ?_; rotate_left; (rintro w' ⟨s0, s1⟩; go_simp; with_reducible rfl); rotate_left; (exact pb); refine take_ (i := 5) (N := some 8) (v := ?_) (a' := ?_) (bq 54 8) rfl rfl (take_ofW HT_.out HW_.out (by kernel_rfl)) (fun _ _ _ h => h) (Or.inl ⟨by rfl, ?_⟩) hHeld ?_ ?_; rotate_left; (rintro w' ⟨s0, s1⟩; go_simp; with_reducible rfl); rotate_left; (exact pb); refine one_ (i := 0) (N := some 3) (bq 55 8) rfl rfl (one_of HT_.out (by kernel_rfl)) (by decide) (fun K hK => ?_); refine Kd.R_lit_step (Kd.int .i64) _ 3 ?hg (N := 3) ?hd (xs := ([] : List Int)) (inner := []) (ok := fun _ => True) (okp := fun _ => True) ?hr ?hp (fun _ hk => hk) trivial (Below.refl _ _) (Nat.le_refl _) (by simp) ?_; (case hd => rfl); (case hg => rfl); (case hr => first | (go_simp; done) | (go_simp; rfl)); (case hp => exact (Reps.none _ _)); intro v109 w6 ho7 hb hg_ hnew_; clear hg_ hnew_; ((first | rw [← Ny108.out] at ho7 | (simp only [Int.reduceToNat] at ho7; rw [← Ny108.out] at ho7))); have n0_ := q0_1 (Kd.R_lower ho7 (below_size (qa_1))); have n1_ := q0_1 (bb q2.out hb); have n2_ := q0_1 (bb q4.out hb); have n3_ := q0_1 (below_step (qa_1) hb); clear q2 q4 HB; have qk := n0_; have q2 := n1_; have q4 := n2_; have HB := n3_; clear n0_ n1_ n2_ n3_ hb ho7; refine hK.out _ _ ⟨(blk_cell q2.out 0).trans rfl, (blk_cell q2.out 1).trans rfl⟩ (fun hHeld => ?_); clear hK K; refine norm_ (a' := ?_) ?_ ?_; rotate_left; ((show Act.put _ (some 3) _ = _); simp only [Act.put, List.setIfInBounds_toArray, List.set_cons_zero, List.set_cons_succ, i64_w, i32_w]; rfl); refine one_ (i := 3) (N := some 6) (bq 63 8) rfl rfl (one_of HT_.out (by kernel_rfl)) (by decide) (fun K hK => ?_); refine Kd.R_append_rows_step (Kd.int .i64) (w0 := w) w.heap.size (by rfl) (.tmp 3) (.tmp 5) 24 3 (.int .i64 0) 8 rfl Try.underlying24 info3 rfl (by decide) (by omega) v109 y108 l0_0 _ _ _ (fun _ => True) (fun _ => False) rfl rfl ?aO ?aR (fun _ _ h => h) (fun _ h => h.elim) ?aF ?aB ?aS ?aL ?_; ((case aR => exact ca (Kd.C_below HR0_0.out HB.out))); ((case aB => exact (qa_1))); ((case aF => exact (fun _ _ => trivial))); ((case aO => exact (ra qk.out))); ((case aS => exact (below_size (qa_1)))); ((case aL => have := LMc2.out; omega)); intro v112 w8 ho hb hg hat; rw [← Ny111.out] at ho
   have n0_ := q0_1 (blk_grown (g := qg) (o := .cells #[.slice A0_0 l0_0.length c0_0, .int .i64 a0_1] 51 (0, 0)) (ba q2.out) hg (Kd.R_ne qk.out q2.out (by decide))); have n1_ := q0_1 (blk_grown (g := q9) (o := .cells #[.slice none 0 0, .int .i64 0] 51 (0, 0)) (ba q4.out) hg (Kd.R_ne qk.out q4.out (by decide))); have n2_ := q0_1 (hb); have n3_ := q0_1 (ho); clear q2 q4 HB qk; have q2 := n0_; have q4 := n1_; have HB := n2_; have qm := n3_; clear n0_ n1_ n2_ n3_ ho hb hg hat; obtain ⟨qp, qq, eo9⟩ := Kd.R_slice qm.out; ((first | subst eo9 | (injection eo9 with f1_ f2_ f3_; have f4_ := f1_.symm; have f5_ := f3_.symm; clear f1_ f2_ f3_; subst f4_; subst f5_))); refine hK.out _ _ ⟨(blk_cell q2.out 0).trans rfl, (blk_cell q2.out 1).trans rfl⟩ (fun hHeld => ?_); clear hK K; refine norm_ (a' := ?_) ?_ ?_; rotate_left; ((show Act.put _ (some 6) _ = _); simp only [Act.put, List.setIfInBounds_toArray, List.set_cons_zero, List.set_cons_succ, i64_w, i32_w]; rfl); refine pure_ (i := 6) (N := some 9) (v := ?_) (a' := ?_) (bq 127 8) rfl rfl (any_of HT_.out (by kernel_rfl)) (fun _ _ _ h => h) (Or.inl ⟨by rfl, ?_⟩) ?_ ?_; rotate_left; (intro w'; go_simp; with_reducible rfl); rotate_left; (exact pb); refine one_ (i := 7) (N := none) (bq 255 8) rfl rfl (one_of HT_.out (by kernel_rfl)) (by decide) (fun K hK => ?_); (have hs10 : w8.cell? ⟨q9, 0, none⟩ = some (.slice none 0 0) := (blk_cell q4.out 0).trans rfl); have hfs10 := blk_frozen q4.out 0; have hns10_0 := q6.out; have hms10_0 := qh.out; (have hs11 : w8.cell? ⟨q9, 1, none⟩ = some (.int .i64 0) := (blk_cell q4.out 1).trans rfl); have hfs11 := blk_frozen q4.out 1; have hns11_0 := q6.out; have hms11_0 := qh.out; refine skip_ (w1 := ?_) (by rfl) rfl ?_ ?_; rotate_left; (go_simp; rfl); refine hK.out _ _ ⟨((cell_far (p := ⟨q9, _, none⟩) q6.out _).trans (((cell_far (p := ⟨q9, _, none⟩) q6.out _).trans (hHeld.1)))), ((cell_far (p := ⟨q9, _, none⟩) q6.out _).trans (((cell_far (p := ⟨q9, _, none⟩) q6.out _).trans (hHeld.2))))⟩ (fun hHeld => ?_); clear hK K; refine done_ (done_of HT_.out (by kernel_rfl)) ?_; (try go_wp2); refine bodyPost_ret (results_cell_row rfl _ _ q9 51 #[.slice qp y111.length qq, .int .i64 a0_1] (0, 0) _ rfl (by refine ba ?_; refine blk_put (cs := #[.slice qp y111.length qq, .int .i64 0]) ?_ 1 _ rfl; refine ba ?_; refine blk_put (cs := #[.slice none 0 0, .int .i64 0]) ?_ 0 _ rfl; refine ba ?_; exact q4.out) Try.underlying51 rfl (by kernel_rfl)) rfl ?_; (exact ⟨_, by first | rfl | (simp [errW_none, errW_some] <;> rfl) | (simp [*, errW_none, errW_some] <;> rfl), by refine ra ?_; exact Kd.R_mono (Kd.R_far (p := ⟨q9, 1, none⟩) (Kd.R_far (p := ⟨q9, 0, none⟩) (Kd.R_types qm.out q4.out (by decide)) (fun _ hk => hk.2) (.slice qp y111.length qq)) (fun _ hk => hk.2) (.int .i64 a0_1)) (fun _ hk => trivial), by exact (qa_1)⟩)
 · rw [if_neg c2] at H
   exact absurd H (by simp)
/-! ### spec_l18Ok: function 84 -/
def spec_l18Ok.l0 : Nat → List Int → Int → Int → List Int → Int → Option (Bool)
 | 0, _, _, _, _, _ => none
 | k + 1, x0, x2, x7, x115000, x115001 => if x7 < (x115000.length : Int) then (if 0 ≤ x7 then ((spec_l1In.f (rd x115000 x7) 0 500).bind fun t116 => (if t116 = true then (spec_l18Ok.l0 k x0 x2 (wrap64 (x7 + 1)) x115000 x115001) else (some false))) else (none)) else (if (x0.length : Int) ≤ 40 then (if (x115000.length : Int) = (wrap64 ((x0.length : Int) + 1)) then ((spec_l1In.f x115001 0 500).bind fun t117 => (if t117 = true then ((spec_l1In.f x2 1 40).bind fun t118 => (some t118)) else (some false))) else (some false)) else (some false))
def spec_l18Ok.f (k : Nat) (l0 : List Int) (l1_0 : List Int) (a1_1 : Int) (a2 : Int) : Option (Bool) := spec_l18Ok.l0 k l0 a2 0 l1_0 a1_1
theorem spec_l18Ok.mono_l : ∀ k, (∀ y0 y1 y2 y3 y4, LeO (spec_l18Ok.l0 k y0 y1 y2 y3 y4) (spec_l18Ok.l0 (k + 1) y0 y1 y2 y3 y4))
 | 0 => fun _ _ _ _ _ r h => by simp [spec_l18Ok.l0] at h
 | k + 1 => by
  have ih0 := spec_l18Ok.mono_l k
  · intro y0 y1 y2 y3 y4
    unfold spec_l18Ok.l0
    repeat' first
    | (with_reducible exact ih0 _ _ _ _ _)
    | (with_reducible exact LeO.refl _)
    | (with_reducible exact LeO.none _)
    | (with_reducible refine LeO.ite ?_ ?_)
    | (with_reducible refine LeO.bind ?_ (fun _ => ?_))
    | exact ih0 _ _ _ _ _
    | exact LeO.none _
    | refine LeO.ite ?_ ?_
    | refine LeO.bind ?_ (fun _ => ?_)
theorem spec_l18Ok.mono : ∀ a0 a1 a2 a3 k, LeO (spec_l18Ok.f k a0 a1 a2 a3) (spec_l18Ok.f (k + 1) a0 a1 a2 a3) := by
 intro a0 a1 a2 a3 k; have ih0 := spec_l18Ok.mono_l k; unfold spec_l18Ok.f
 repeat' first
  | (with_reducible exact ih0 _ _ _ _ _)
  | (with_reducible exact LeO.refl _)
  | (with_reducible exact LeO.none _)
  | (with_reducible refine LeO.ite ?_ ?_)
  | (with_reducible refine LeO.bind ?_ (fun _ => ?_))
  | exact ih0 _ _ _ _ _
  | exact LeO.none _
  | refine LeO.ite ?_ ?_
  | refine LeO.bind ?_ (fun _ => ?_)
set_option maxHeartbeats 8000000 in
set_option maxRecDepth 100000 in
theorem spec_l18Ok.calls (k : Nat) (A0 : Option Addr) (c0 : Nat) (l0 : List Int) (A1_0 : Option Addr) (c1_0 : Nat) (l1_0 : List Int) (a1_1 : Int) (a2 : Int) (r : Bool) (w : World) (hr0 : Kd.C (Kd.int .i64) w A0 l0.length l0) (hc0 : l0.length ≤ c0) (hr1_0 : Kd.C (Kd.int .i64) w A1_0 l1_0.length l1_0) (hc1_0 : l1_0.length ≤ c1_0) (h : spec_l18Ok.f k l0 l1_0 a1_1 a2 = some r) :
 Calls Try.prog 84 #[.slice A0 l0.length c0, .agg #[.slice A1_0 l1_0.length c1_0, .int .i64 a1_1], .int .i64 a2] w fun e w' => e = .returned (.bool r) ∧ Below w.heap.size w w' := by
 have hu51 := Try.underlying51; have HR0 := q0_1 hr0; have HC0 := q0_1 hc0; clear hr0 hc0; have HR1_0 := q0_1 hr1_0; have HC1_0 := q0_1 hc1_0; clear hr1_0 hc1_0; have HB := q0_1 (Below.refl w.heap.size w); (have H : (spec_l18Ok.l0 k l0 a2 0 l1_0 a1_1) = some r := h); clear h; (have H' := q0_1 H); clear H; go_enter Try.func84, Try.ntmps84; (go_wp2_with (first | ((with_reducible refine gate_dst (N := 4) rfl ?_); (try (refine gate_guard (by rfl) ?_; dsimp only)); refine box_event ?hg (N := 4) ?hd (cs := #[.slice A1_0 l1_0.length c1_0, .int .i64 a1_1]) (t := 51) ?hr ?_; (case hd => rfl); (case hg => rfl); (case hr => first | (go_simp; done) | (go_simp; rfl)); intro q7 hg w4 hbox hb; have n0_ := q0_1 (below_step (qe_1) hb); have n1_ := q0_1 (hbox); have n2_ := q0_1 ((by rw [hg]; exact (below_size (qe_1)) : w.heap.size ≤ q7)); have n3_ := q0_1 ((by rw [hg]; exact (below_size (qe_1)) : w.heap.size ≤ q7)); clear HB; have HB := n0_; have q1 := n1_; have GW114 := n2_; have qu := n3_; clear n0_ n1_ n2_ n3_; clear hb hbox hg))); (go_loopg [7] k (fun kq v7 w' => ∃ (x7_1 : Int), v7 = .int .i64 x7_1 ∧ Aside0 (spec_l18Ok.l0 kq l0 a2 x7_1 l1_0 a1_1 = some r) ∧ Aside0 (kq ≤ k) ∧ Aside0 (w'.heap[q7]? = some (.cells #[(.slice A1_0 l1_0.length c1_0), .int .i64 a1_1] 51 (0, 0))) ∧ Aside0 (Below w.heap.size w w')))
 case atStart => exact ⟨(0), (by first | rfl | (simp; done) | (simp [*]; done)), H', ⟨Nat.le_refl _⟩, ⟨by refine ba ?_; exact q1.out⟩, ⟨by exact (qb_1)⟩⟩
 case round =>
  clear H'; (try clear c1); (try clear p2); obtain ⟨x7_1, rfl, HA, HK1, q1, HB⟩ := hrel
  cases gk with
  | zero => exact absurd HA.out (by simp [spec_l18Ok.l0])
  | succ k1 =>
   have H := HA.out; clear HA; (simp only [spec_l18Ok.l0] at H)
   by_cases c5 : x7_1 < (l1_0.length : Int)
   · rw [if_pos c5] at H
     (have c5b0 : decide (x7_1 < (l1_0.length : Int)) = true := decide_eq_true c5); clear c5
     by_cases c6 : 0 ≤ x7_1
     · rw [if_pos c6] at H
       (have c6b0 : decide (0 ≤ x7_1) = true := decide_eq_true c6); clear c6; replace H := Option.bind_eq_some_iff.mp H; obtain ⟨t116, A70, H⟩ := H; replace H : (if t116 = true then (spec_l18Ok.l0 k1 l0 a2 (wrap64 (x7_1 + 1)) l1_0 a1_1) else (some false)) = some r := H; have A7 := q0_1 A70; clear A70
       by_cases c8 : t116 = true
       · subst c8
         have H1 : (spec_l18Ok.l0 k1 l0 a2 (wrap64 (x7_1 + 1)) l1_0 a1_1) = some r := by rw [if_pos rfl] at H; exact H
         clear H; have H := H1; clear H1; (have H' := q0_1 H); clear H; (have hcz9_0 : wr.cell? ⟨q7, 0, none⟩ = some (.slice A1_0 l1_0.length c1_0) := (blk_cell q1.out 0).trans rfl); (have hcz9_1 : wr.cell? ⟨q7, 1, none⟩ = some (.int .i64 a1_1) := (blk_cell q1.out 1).trans rfl); have hfz9_0 := blk_frozen q1.out 0; have hfz9_1 := blk_frozen q1.out 1; (have p115 : 0 ≤ (x7_1 : Int) := of_decide_eq_true (by first | (with_reducible assumption) | assumption)); (have q115 : x7_1 < (l1_0.length : Int) := of_decide_eq_true (by first | (with_reducible assumption) | assumption)); obtain ⟨ad115, e115, hx115_0⟩ := Kd.at_int HR1_0.out x7_1 p115 q115
         cases e115
         replace hx115_0 := (HB.out.cell (World.block_lt_of_cell? w _ hx115_0)).trans hx115_0; replace p115 := eq_true p115; replace q115 := eq_true q115; (go_wp2_with (first | ((with_reducible refine gate_callee (f := 71) rfl ?_); refine goesL_ (some 20) rfl rfl Try.func71 (by kernel_rfl) rfl #[.int .i64 (rd l1_0 x7_1), .int .i64 0, .int .i64 500] rfl ma ?_; (with_reducible refine (spec_l1In.calls (rd l1_0 x7_1) 0 500 true _ A7.out).mono ?_); rintro e w' ⟨rfl, ⟨nd, rfl⟩⟩; refine ⟨_, rfl, ?_⟩))); (go_roundg k1)
         case measure => have := HK1.out; omega
         case rel => exact ⟨(wrap64 (x7_1 + 1)), (by first | rfl | (simp; done) | (simp [*]; done)), H', ⟨by have := HK1.out; omega⟩, ⟨by refine ba ?_; exact q1.out⟩, ⟨by exact (qb_1)⟩⟩
       · replace c8 := Bool.eq_false_iff.mpr c8
         subst c8; (have H1 : (some false) = some r := by rw [if_neg (show ¬ (false = true) by decide)] at H; exact H); clear H; have H := H1; clear H1; obtain rfl := Option.some.inj H; (have hcz10_0 : wr.cell? ⟨q7, 0, none⟩ = some (.slice A1_0 l1_0.length c1_0) := (blk_cell q1.out 0).trans rfl); (have hcz10_1 : wr.cell? ⟨q7, 1, none⟩ = some (.int .i64 a1_1) := (blk_cell q1.out 1).trans rfl); have hfz10_0 := blk_frozen q1.out 0; have hfz10_1 := blk_frozen q1.out 1; (have p115 : 0 ≤ (x7_1 : Int) := of_decide_eq_true (by first | (with_reducible assumption) | assumption)); (have q115 : x7_1 < (l1_0.length : Int) := of_decide_eq_true (by first | (with_reducible assumption) | assumption)); obtain ⟨ad115, e115, hx115_0⟩ := Kd.at_int HR1_0.out x7_1 p115 q115
         cases e115
         replace hx115_0 := (HB.out.cell (World.block_lt_of_cell? w _ hx115_0)).trans hx115_0; replace p115 := eq_true p115; replace q115 := eq_true q115; (go_wp2_with (first | ((with_reducible refine gate_callee (f := 71) rfl ?_); refine goesL_ (some 20) rfl rfl Try.func71 (by kernel_rfl) rfl #[.int .i64 (rd l1_0 x7_1), .int .i64 0, .int .i64 500] rfl ma ?_; (with_reducible refine (spec_l1In.calls (rd l1_0 x7_1) 0 500 false _ A7.out).mono ?_); rintro e w' ⟨rfl, ⟨nd, rfl⟩⟩; refine ⟨_, rfl, ?_⟩))); go_ret; (exact ⟨by first | rfl | (simp [errW_none, errW_some] <;> rfl) | (simp [*, errW_none, errW_some] <;> rfl), by exact (qb_1)⟩)
     · rw [if_neg c6] at H
       exact absurd H (by simp)
   · rw [if_neg c5] at H
     (have c5b0 : decide (x7_1 < (l1_0.length : Int)) = false := decide_eq_false c5); clear c5
     by_cases c11 : (l0.length : Int) ≤ 40
     · rw [if_pos c11] at H
       (have c11b0 : decide ((l0.length : Int) ≤ 40) = true := decide_eq_true c11); (have c11b1 : decide (l0.length ≤ 40) = true := decide_eq_true (by omega)); clear c11
       by_cases c12 : (l1_0.length : Int) = (wrap64 ((l0.length : Int) + 1))
       · rw [if_pos c12] at H
         (have c12b0 : ((l1_0.length : Int) == (wrap64 ((l0.length : Int) + 1))) = true := beq_iff_eq.mpr c12); (have c12b1 : ((l1_0.length : Int) != (wrap64 ((l0.length : Int) + 1))) = false := bne_eq_false_iff_eq.mpr c12); clear c12; replace H := Option.bind_eq_some_iff.mp H; obtain ⟨t117, A130, H⟩ := H; replace H : (if t117 = true then ((spec_l1In.f a2 1 40).bind fun t118 => (some t118)) else (some false)) = some r := H; have A13 := q0_1 A130; clear A130
         by_cases c14 : t117 = true
         · subst c14
           have H1 : ((spec_l1In.f a2 1 40).bind fun t118 => (some t118)) = some r := by rw [if_pos rfl] at H; exact H
           clear H; have H := H1; clear H1; replace H := Option.bind_eq_some_iff.mp H; obtain ⟨t118, A150, H⟩ := H; replace H : (some t118) = some r := H; have A15 := q0_1 A150; clear A150; obtain rfl := Option.some.inj H; (have hcz16_0 : wr.cell? ⟨q7, 0, none⟩ = some (.slice A1_0 l1_0.length c1_0) := (blk_cell q1.out 0).trans rfl); (have hcz16_1 : wr.cell? ⟨q7, 1, none⟩ = some (.int .i64 a1_1) := (blk_cell q1.out 1).trans rfl); have hfz16_0 := blk_frozen q1.out 0; have hfz16_1 := blk_frozen q1.out 1; (go_wp2_with (first | (go_at_call 71; (with_reducible refine (spec_l1In.calls a1_1 0 500 true _ A13.out).mono ?_); rintro e w' ⟨rfl, ⟨nd, rfl⟩⟩) | (go_at_call 71; (with_reducible refine (spec_l1In.calls a2 1 40 t118 _ A15.out).mono ?_); rintro e w' ⟨rfl, ⟨nd, rfl⟩⟩))); go_ret; (exact ⟨by first | rfl | (simp [errW_none, errW_some] <;> rfl) | (simp [*, errW_none, errW_some] <;> rfl), by exact (qb_1)⟩)
         · replace c14 := Bool.eq_false_iff.mpr c14
           subst c14; (have H1 : (some false) = some r := by rw [if_neg (show ¬ (false = true) by decide)] at H; exact H); clear H; have H := H1; clear H1; obtain rfl := Option.some.inj H; (have hcz17_0 : wr.cell? ⟨q7, 0, none⟩ = some (.slice A1_0 l1_0.length c1_0) := (blk_cell q1.out 0).trans rfl); (have hcz17_1 : wr.cell? ⟨q7, 1, none⟩ = some (.int .i64 a1_1) := (blk_cell q1.out 1).trans rfl); have hfz17_0 := blk_frozen q1.out 0; have hfz17_1 := blk_frozen q1.out 1; (go_wp2_with (first | (go_at_call 71; (with_reducible refine (spec_l1In.calls a1_1 0 500 false _ A13.out).mono ?_); rintro e w' ⟨rfl, ⟨nd, rfl⟩⟩))); go_ret; (exact ⟨by first | rfl | (simp [errW_none, errW_some] <;> rfl) | (simp [*, errW_none, errW_some] <;> rfl), by exact (qb_1)⟩)
       · rw [if_neg c12] at H
         (have c12b0 : ((l1_0.length : Int) == (wrap64 ((l0.length : Int) + 1))) = false := beq_eq_false_iff_ne.mpr c12); (have c12b1 : ((l1_0.length : Int) != (wrap64 ((l0.length : Int) + 1))) = true := bne_iff_ne.mpr c12); obtain rfl := Option.some.inj H; (have hcz18_0 : wr.cell? ⟨q7, 0, none⟩ = some (.slice A1_0 l1_0.length c1_0) := (blk_cell q1.out 0).trans rfl); (have hcz18_1 : wr.cell? ⟨q7, 1, none⟩ = some (.int .i64 a1_1) := (blk_cell q1.out 1).trans rfl); have hfz18_0 := blk_frozen q1.out 0; have hfz18_1 := blk_frozen q1.out 1; (go_wp2); go_ret; (exact ⟨by first | rfl | (simp [errW_none, errW_some] <;> rfl) | (simp [*, errW_none, errW_some] <;> rfl), by exact (qb_1)⟩)
     · rw [if_neg c11] at H
       (have c11b0 : decide ((l0.length : Int) ≤ 40) = false := decide_eq_false c11); (have c11b1 : decide (l0.length ≤ 40) = false := decide_eq_false (by omega)); clear c11; obtain rfl := Option.some.inj H; (have hcz19_0 : wr.cell? ⟨q7, 0, none⟩ = some (.slice A1_0 l1_0.length c1_0) := (blk_cell q1.out 0).trans rfl); (have hcz19_1 : wr.cell? ⟨q7, 1, none⟩ = some (.int .i64 a1_1) := (blk_cell q1.out 1).trans rfl); have hfz19_0 := blk_frozen q1.out 0; have hfz19_1 := blk_frozen q1.out 1; (go_wp2); go_ret; (exact ⟨by first | rfl | (simp [errW_none, errW_some] <;> rfl) | (simp [*, errW_none, errW_some] <;> rfl), by exact (qb_1)⟩)
/-! ### spec_PositionOf: function 85 -/
def spec_PositionOf.l0 : Nat → Int → Int → List Int → Int → Option (Int)
 | 0, _, _, _, _ => none
 | k + 1, x3, x4, x120000, x120001 => if x4 < (x120000.length : Int) then (if 0 ≤ x4 then (if 0 ≤ x3 then (if x3 < (x120000.length : Int) then (if (rd x120000 x4) < (rd x120000 x3) then (spec_PositionOf.l0 k x4 (wrap64 (x4 + 1)) x120000 x120001) else (spec_PositionOf.l0 k x3 (wrap64 (x4 + 1)) x120000 x120001)) else (none)) else (none)) else (none)) else (some x3)
def spec_PositionOf.f (k : Nat) (l0_0 : List Int) (a0_1 : Int) : Option (Int) := spec_PositionOf.l0 k 0 1 l0_0 a0_1
theorem spec_PositionOf.mono_l : ∀ k, (∀ y0 y1 y2 y3, LeO (spec_PositionOf.l0 k y0 y1 y2 y3) (spec_PositionOf.l0 (k + 1) y0 y1 y2 y3))
 | 0 => fun _ _ _ _ r h => by simp [spec_PositionOf.l0] at h
 | k + 1 => by
  have ih0 := spec_PositionOf.mono_l k
  · intro y0 y1 y2 y3
    unfold spec_PositionOf.l0
    repeat' first
    | (with_reducible exact ih0 _ _ _ _)
    | (with_reducible exact LeO.refl _)
    | (with_reducible exact LeO.none _)
    | (with_reducible refine LeO.ite ?_ ?_)
    | (with_reducible refine LeO.bind ?_ (fun _ => ?_))
    | exact ih0 _ _ _ _
    | exact LeO.none _
    | refine LeO.ite ?_ ?_
    | refine LeO.bind ?_ (fun _ => ?_)
theorem spec_PositionOf.mono : ∀ a0 a1 k, LeO (spec_PositionOf.f k a0 a1) (spec_PositionOf.f (k + 1) a0 a1) := by
 intro a0 a1 k; have ih0 := spec_PositionOf.mono_l k; unfold spec_PositionOf.f
 repeat' first
  | (with_reducible exact ih0 _ _ _ _)
  | (with_reducible exact LeO.refl _)
  | (with_reducible exact LeO.none _)
  | (with_reducible refine LeO.ite ?_ ?_)
  | (with_reducible refine LeO.bind ?_ (fun _ => ?_))
  | exact ih0 _ _ _ _
  | exact LeO.none _
  | refine LeO.ite ?_ ?_
  | refine LeO.bind ?_ (fun _ => ?_)
set_option maxHeartbeats 8000000 in
set_option maxRecDepth 100000 in
theorem spec_PositionOf.calls (k : Nat) (A0_0 : Option Addr) (c0_0 : Nat) (l0_0 : List Int) (a0_1 : Int) (r : Int) (w : World) (hr0_0 : Kd.C (Kd.int .i64) w A0_0 l0_0.length l0_0) (hc0_0 : l0_0.length ≤ c0_0) (h : spec_PositionOf.f k l0_0 a0_1 = some r) :
 Calls Try.prog 85 #[.agg #[.slice A0_0 l0_0.length c0_0, .int .i64 a0_1]] w fun e w' => e = .returned (.int .i64 r) ∧ Below w.heap.size w w' := by
 have hu51 := Try.underlying51; have HR0_0 := q0_1 hr0_0; have HC0_0 := q0_1 hc0_0; clear hr0_0 hc0_0; have HB := q0_1 (Below.refl w.heap.size w); (have H : (spec_PositionOf.l0 k 0 1 l0_0 a0_1) = some r := h); clear h; (have H' := q0_1 H); clear H; go_enter Try.func85, Try.ntmps85; (go_wp2_with (first | ((with_reducible refine gate_dst (N := 1) rfl ?_); refine box_event ?hg (N := 1) ?hd (cs := #[.slice A0_0 l0_0.length c0_0, .int .i64 a0_1]) (t := 51) ?hr ?_; (case hd => rfl); (case hg => rfl); (case hr => first | (go_simp; done) | (go_simp; rfl)); intro q8 hg w2 hbox hb; have n0_ := q0_1 (below_step (qe_1) hb); have n1_ := q0_1 (hbox); have n2_ := q0_1 ((by rw [hg]; exact (below_size (qe_1)) : w.heap.size ≤ q8)); have n3_ := q0_1 ((by rw [hg]; exact (below_size (qe_1)) : w.heap.size ≤ q8)); clear HB; have HB := n0_; have q3 := n1_; have GW119 := n2_; have qn := n3_; clear n0_ n1_ n2_ n3_; clear hb hbox hg))); (repeat (go_quiet (first | ((with_reducible refine gate_dst (N := 1) rfl ?_); refine box_event ?hg (N := 1) ?hd (cs := #[.slice A0_0 l0_0.length c0_0, .int .i64 a0_1]) (t := 51) ?hr ?_; (case hd => rfl); (case hg => rfl); (case hr => first | (go_simp; done) | (go_simp; rfl)); intro q8 hg w2 hbox hb; have n0_ := q0_1 (below_step (qe_1) hb); have n1_ := q0_1 (hbox); have n2_ := q0_1 ((by rw [hg]; exact (below_size (qe_1)) : w.heap.size ≤ q8)); have n3_ := q0_1 ((by rw [hg]; exact (below_size (qe_1)) : w.heap.size ≤ q8)); clear HB; have HB := n0_; have q3 := n1_; have GW119 := n2_; have qn := n3_; clear n0_ n1_ n2_ n3_; clear hb hbox hg)); try go_wp2_with (first | ((with_reducible refine gate_dst (N := 1) rfl ?_); refine box_event ?hg (N := 1) ?hd (cs := #[.slice A0_0 l0_0.length c0_0, .int .i64 a0_1]) (t := 51) ?hr ?_; (case hd => rfl); (case hg => rfl); (case hr => first | (go_simp; done) | (go_simp; rfl)); intro q8 hg w2 hbox hb; have n0_ := q0_1 (below_step (qe_1) hb); have n1_ := q0_1 (hbox); have n2_ := q0_1 ((by rw [hg]; exact (below_size (qe_1)) : w.heap.size ≤ q8)); have n3_ := q0_1 ((by rw [hg]; exact (below_size (qe_1)) : w.heap.size ≤ q8)); clear HB; have HB := n0_; have q3 := n1_; have GW119 := n2_; have qn := n3_; clear n0_ n1_ n2_ n3_; clear hb hbox hg)))); (go_loopg [3, 4] k (fun kq v3 v4 w' => ∃ (x3_1 : Int) (x4_1 : Int), v3 = .int .i64 x3_1 ∧ v4 = .int .i64 x4_1 ∧ Aside0 (spec_PositionOf.l0 kq x3_1 x4_1 l0_0 a0_1 = some r) ∧ Aside0 (kq ≤ k) ∧ Aside0 (w'.heap[q8]? = some (.cells #[(.slice A0_0 l0_0.length c0_0), .int .i64 a0_1] 51 (0, 0))) ∧ Aside0 (Below w.heap.size w w')))
 case atStart => exact ⟨(0), (1), (by first | rfl | (simp; done) | (simp [*]; done)), (by first | rfl | (simp; done) | (simp [*]; done)), H', ⟨Nat.le_refl _⟩, ⟨by refine ba ?_; exact q3.out⟩, ⟨by exact (qi_1)⟩⟩
 case round =>
  clear H'; (try clear p2); obtain ⟨x3_1, x4_1, rfl, rfl, HA, HK1, q3, HB⟩ := hrel
  cases gk with
  | zero => exact absurd HA.out (by simp [spec_PositionOf.l0])
  | succ k1 =>
   have H := HA.out; clear HA; (simp only [spec_PositionOf.l0] at H)
   by_cases c3 : x4_1 < (l0_0.length : Int)
   · rw [if_pos c3] at H
     (have c3b0 : decide (x4_1 < (l0_0.length : Int)) = true := decide_eq_true c3); clear c3
     by_cases c4 : 0 ≤ x4_1
     · rw [if_pos c4] at H
       (have c4b0 : decide (0 ≤ x4_1) = true := decide_eq_true c4); clear c4
       by_cases c5 : 0 ≤ x3_1
       · rw [if_pos c5] at H
         (have c5b0 : decide (0 ≤ x3_1) = true := decide_eq_true c5); clear c5
         by_cases c6 : x3_1 < (l0_0.length : Int)
         · rw [if_pos c6] at H
           (have c6b0 : decide (x3_1 < (l0_0.length : Int)) = true := decide_eq_true c6); clear c6
           by_cases c7 : (rd l0_0 x4_1) < (rd l0_0 x3_1)
           · rw [if_pos c7] at H
             (have c7b0 : decide ((rd l0_0 x4_1) < (rd l0_0 x3_1)) = true := decide_eq_true c7); clear c7; (have H' := q0_1 H); clear H; (have hcz8_0 : wr.cell? ⟨q8, 0, none⟩ = some (.slice A0_0 l0_0.length c0_0) := (blk_cell q3.out 0).trans rfl); (have hcz8_1 : wr.cell? ⟨q8, 1, none⟩ = some (.int .i64 a0_1) := (blk_cell q3.out 1).trans rfl); have hfz8_0 := blk_frozen q3.out 0; have hfz8_1 := blk_frozen q3.out 1; (have p120 : 0 ≤ (x4_1 : Int) := of_decide_eq_true (by first | (with_reducible assumption) | assumption)); (have q120 : x4_1 < (l0_0.length : Int) := of_decide_eq_true (by first | (with_reducible assumption) | assumption)); obtain ⟨ad120, e120, hx120_0⟩ := Kd.at_int HR0_0.out x4_1 p120 q120
             cases e120
             replace hx120_0 := (HB.out.cell (World.block_lt_of_cell? w _ hx120_0)).trans hx120_0; replace p120 := eq_true p120; replace q120 := eq_true q120; (have p121 : 0 ≤ (x3_1 : Int) := of_decide_eq_true (by first | (with_reducible assumption) | assumption)); (have q121 : x3_1 < (l0_0.length : Int) := of_decide_eq_true (by first | (with_reducible assumption) | assumption)); obtain ⟨ad121, e121, hx121_0⟩ := Kd.at_int HR0_0.out x3_1 p121 q121; obtain rfl : ad120 = ad121 := (by injection e121); replace hx121_0 := (HB.out.cell (World.block_lt_of_cell? w _ hx121_0)).trans hx121_0; replace p121 := eq_true p121; replace q121 := eq_true q121; (go_wp2); (repeat (go_quiet (fail); try go_wp2)); (go_roundg k1)
             case measure => have := HK1.out; omega
             case rel => exact ⟨(x4_1), (wrap64 (x4_1 + 1)), (by first | rfl | (simp; done) | (simp [*]; done)), (by first | rfl | (simp; done) | (simp [*]; done)), H', ⟨by have := HK1.out; omega⟩, ⟨by refine ba ?_; exact q3.out⟩, ⟨by exact (qi_1)⟩⟩
           · rw [if_neg c7] at H
             (have c7b0 : decide ((rd l0_0 x4_1) < (rd l0_0 x3_1)) = false := decide_eq_false c7); clear c7; (have H' := q0_1 H); clear H; (have hcz9_0 : wr.cell? ⟨q8, 0, none⟩ = some (.slice A0_0 l0_0.length c0_0) := (blk_cell q3.out 0).trans rfl); (have hcz9_1 : wr.cell? ⟨q8, 1, none⟩ = some (.int .i64 a0_1) := (blk_cell q3.out 1).trans rfl); have hfz9_0 := blk_frozen q3.out 0; have hfz9_1 := blk_frozen q3.out 1; (have p120 : 0 ≤ (x4_1 : Int) := of_decide_eq_true (by first | (with_reducible assumption) | assumption)); (have q120 : x4_1 < (l0_0.length : Int) := of_decide_eq_true (by first | (with_reducible assumption) | assumption)); obtain ⟨ad120, e120, hx120_0⟩ := Kd.at_int HR0_0.out x4_1 p120 q120
             cases e120
             replace hx120_0 := (HB.out.cell (World.block_lt_of_cell? w _ hx120_0)).trans hx120_0; replace p120 := eq_true p120; replace q120 := eq_true q120; (have p121 : 0 ≤ (x3_1 : Int) := of_decide_eq_true (by first | (with_reducible assumption) | assumption)); (have q121 : x3_1 < (l0_0.length : Int) := of_decide_eq_true (by first | (with_reducible assumption) | assumption)); obtain ⟨ad121, e121, hx121_0⟩ := Kd.at_int HR0_0.out x3_1 p121 q121; obtain rfl : ad120 = ad121 := (by injection e121); replace hx121_0 := (HB.out.cell (World.block_lt_of_cell? w _ hx121_0)).trans hx121_0; replace p121 := eq_true p121; replace q121 := eq_true q121; (go_wp2); (repeat (go_quiet (fail); try go_wp2)); (go_roundg k1)
             case measure => have := HK1.out; omega
             case rel => exact ⟨(x3_1), (wrap64 (x4_1 + 1)), (by first | rfl | (simp; done) | (simp [*]; done)), (by first | rfl | (simp; done) | (simp [*]; done)), H', ⟨by have := HK1.out; omega⟩, ⟨by refine ba ?_; exact q3.out⟩, ⟨by exact (qi_1)⟩⟩
         · rw [if_neg c6] at H
           exact absurd H (by simp)
       · rw [if_neg c5] at H
         exact absurd H (by simp)
     · rw [if_neg c4] at H
       exact absurd H (by simp)
   · rw [if_neg c3] at H
     (have c3b0 : decide (x4_1 < (l0_0.length : Int)) = false := decide_eq_false c3); clear c3; obtain rfl := Option.some.inj H; (have hcz10_0 : wr.cell? ⟨q8, 0, none⟩ = some (.slice A0_0 l0_0.length c0_0) := (blk_cell q3.out 0).trans rfl); (have hcz10_1 : wr.cell? ⟨q8, 1, none⟩ = some (.int .i64 a0_1) := (blk_cell q3.out 1).trans rfl); have hfz10_0 := blk_frozen q3.out 0; have hfz10_1 := blk_frozen q3.out 1; (go_wp2); (repeat (go_quiet (fail); try go_wp2)); go_ret; (exact ⟨by first | rfl | (simp [errW_none, errW_some] <;> rfl) | (simp [*, errW_none, errW_some] <;> rfl), by exact (qi_1)⟩)
/-! ### spec_Min: function 86 -/
def spec_Min.f (a0 : Int) (a1 : Int) : Option (Int) := if a1 < a0 then (some a1) else (some a0)
set_option maxHeartbeats 8000000 in
set_option maxRecDepth 100000 in
theorem spec_Min.calls (a0 : Int) (a1 : Int) (r : Int) (w : World) (h : spec_Min.f a0 a1 = some r) :
 Calls Try.prog 86 #[.int .i64 a0, .int .i64 a1] w fun e w' => e = .returned (.int .i64 r) ∧ Drawn0 w w' := by
 (have H : (if a1 < a0 then (some a1) else (some a0)) = some r := h); clear h
 by_cases c3 : a1 < a0
 · rw [if_pos c3] at H
   (have c3b0 : decide (a1 < a0) = true := decide_eq_true c3); clear c3; obtain rfl := Option.some.inj H; go_enter Try.func86, Try.ntmps86; (go_wp2); go_ret; exact ⟨by first | rfl | (simp; done) | (simp [*]; done), by repeat (first | exact Drawn0.refl _ | apply Drawn0.step)⟩
 · rw [if_neg c3] at H
   (have c3b0 : decide (a1 < a0) = false := decide_eq_false c3); clear c3; obtain rfl := Option.some.inj H; go_enter Try.func86, Try.ntmps86; (go_wp2); go_ret; exact ⟨by first | rfl | (simp; done) | (simp [*]; done), by repeat (first | exact Drawn0.refl _ | apply Drawn0.step)⟩
end Go.Proofs.Ytlkcbmcbmanmiaa.PFnExactStepNear
