-- Written for this claim by a program of this repository (wip/tools/print2.py), out of the translation; Lean checks it.
import Derived.Test.YtlkcbmcbmanmiaaPFnExactSamePlacex0
namespace Go.Proofs.Ytlkcbmcbmanmiaa.PFnExactSamePlace
open Go.RowKit Go.Proofs.YtlkcbmcbmanmiaaW.PrintWords Go.Proofs.YtlkcbmcbmanmiaaW.PrintLast Go.Proofs.YtlkcbmcbmanmiaaW.PrintMore
attribute [local go_sem] max2_int min2_int max_two min_two max_three min_three max_four min_four   -- for this text's walks alone
set_option linter.unusedVariables false
set_option linter.unusedSimpArgs false
-- SHORT
theorem qe_1 {p : Prop} (f : p := by repeat (first | (with_reducible first | exact HB.out | apply below_alloc | apply pw_below_drewN | apply below_drew1) | exact HB.out)) : p := f
theorem qh_1 {p : Prop} (f : p := by repeat (first | (with_reducible first | exact HB.out | apply below_alloc | apply pw_below_drewN | apply below_drew1 | refine below_set ?_ qp.out) | exact HB.out)) : p := f
theorem qa_1 {p : Prop} (f : p := by repeat (first | (with_reducible first | exact HB.out | apply below_alloc | apply pw_below_drewN | apply below_drew1 | refine below_set ?_ qp.out | refine below_set ?_ qq.out) | exact HB.out)) : p := f
theorem qb_1 {p : Prop} (f : p := by repeat (first | (with_reducible first | exact HB.out | apply below_alloc | apply pw_below_drewN | apply below_drew1 | refine below_set ?_ qr.out) | exact HB.out)) : p := f
theorem qf_1 {p : Prop} (f : p := by repeat (first | (with_reducible first | exact HB.out | apply below_alloc | apply pw_below_drewN | apply below_drew1 | refine below_set ?_ qk.out) | exact HB.out)) : p := f
theorem q0_1 {p : Prop} (h : p) : Aside0 p := ⟨h⟩
/-! ### laws_eqIntS: function 18 -/
def laws_eqIntS.l0 : Nat → List Int → List Int → Int → Option (Bool)
 | 0, _, _, _ => none
 | k + 1, x0, x1, x5 => if x5 < (x0.length : Int) then (if 0 ≤ x5 then (if x5 < (x1.length : Int) then (if (rd x0 x5) = (rd x1 x5) then (laws_eqIntS.l0 k x0 x1 (wrap64 (x5 + 1))) else (some false)) else (none)) else (none)) else (some true)
def laws_eqIntS.f (k : Nat) (l0 : List Int) (l1 : List Int) : Option (Bool) := if (l0.length : Int) = (l1.length : Int) then (laws_eqIntS.l0 k l0 l1 0) else (some false)
theorem laws_eqIntS.mono_l : ∀ k, (∀ y0 y1 y2, LeO (laws_eqIntS.l0 k y0 y1 y2) (laws_eqIntS.l0 (k + 1) y0 y1 y2))
 | 0 => fun _ _ _ r h => by simp [laws_eqIntS.l0] at h
 | k + 1 => by
  have ih0 := laws_eqIntS.mono_l k
  · intro y0 y1 y2
    unfold laws_eqIntS.l0
    repeat' first
    | (with_reducible exact ih0 _ _ _)
    | (with_reducible exact LeO.refl _)
    | (with_reducible exact LeO.none _)
    | (with_reducible refine LeO.ite ?_ ?_)
    | (with_reducible refine LeO.bind ?_ (fun _ => ?_))
    | exact ih0 _ _ _
    | exact LeO.none _
    | refine LeO.ite ?_ ?_
    | refine LeO.bind ?_ (fun _ => ?_)
theorem laws_eqIntS.mono : ∀ a0 a1 k, LeO (laws_eqIntS.f k a0 a1) (laws_eqIntS.f (k + 1) a0 a1) := by
 intro a0 a1 k; have ih0 := laws_eqIntS.mono_l k; unfold laws_eqIntS.f
 repeat' first
  | (with_reducible exact ih0 _ _ _)
  | (with_reducible exact LeO.refl _)
  | (with_reducible exact LeO.none _)
  | (with_reducible refine LeO.ite ?_ ?_)
  | (with_reducible refine LeO.bind ?_ (fun _ => ?_))
  | exact ih0 _ _ _
  | exact LeO.none _
  | refine LeO.ite ?_ ?_
  | refine LeO.bind ?_ (fun _ => ?_)
set_option maxHeartbeats 8000000 in
set_option maxRecDepth 100000 in
theorem laws_eqIntS.calls (k : Nat) (A0 : Option Addr) (c0 : Nat) (l0 : List Int) (A1 : Option Addr) (c1 : Nat) (l1 : List Int) (r : Bool) (w : World) (hr0 : Kd.C (Kd.int .i64) w A0 l0.length l0) (hc0 : l0.length ≤ c0) (hr1 : Kd.C (Kd.int .i64) w A1 l1.length l1) (hc1 : l1.length ≤ c1) (h : laws_eqIntS.f k l0 l1 = some r) :
 Calls Try.prog 18 #[.slice A0 l0.length c0, .slice A1 l1.length c1] w fun e w' => e = .returned (.bool r) ∧ Drawn0 w w' := by
 have HR0 := q0_1 hr0; have HC0 := q0_1 hc0; clear hr0 hc0; have HR1 := q0_1 hr1; have HC1 := q0_1 hc1; clear hr1 hc1; (have H : (if (l0.length : Int) = (l1.length : Int) then (laws_eqIntS.l0 k l0 l1 0) else (some false)) = some r := h); clear h
 by_cases c3 : (l0.length : Int) = (l1.length : Int)
 · rw [if_pos c3] at H
   (have c3b0 : ((l0.length : Int) == (l1.length : Int)) = true := beq_iff_eq.mpr c3); (have c3b1 : ((l0.length : Int) != (l1.length : Int)) = false := bne_eq_false_iff_eq.mpr c3); (have c3b2 : (l0.length == l1.length) = true := by first | simpa using c3 | (simp at c3 ⊢; omega)); clear c3; (have H' := q0_1 H); clear H; go_enter Try.func18, Try.ntmps18; (go_wp2); (repeat (go_quiet (fail); try go_wp2)); (go_loopg [5] k (fun kq v5 w' => ∃ (x5_1 : Int), v5 = .int .i64 x5_1 ∧ Aside0 (laws_eqIntS.l0 kq l0 l1 x5_1 = some r) ∧ Aside0 (kq ≤ k) ∧ Drawn0 w w'))
   case atStart => exact ⟨(0), (by first | rfl | (simp; done) | (simp [*]; done)), H', ⟨Nat.le_refl _⟩, by repeat (first | exact Drawn0.refl _ | apply Drawn0.step)⟩
   case round =>
    clear H'; (try clear c1); (try clear p2); (try clear c3); (try clear c3b0); (try clear c3b1); (try clear c3b2); obtain ⟨x5_1, rfl, HA, HK1, ⟨m1, rfl⟩⟩ := hrel
    cases gk with
    | zero => exact absurd HA.out (by simp [laws_eqIntS.l0])
    | succ k1 =>
     have H := HA.out; clear HA; (simp only [laws_eqIntS.l0] at H)
     by_cases c4 : x5_1 < (l0.length : Int)
     · rw [if_pos c4] at H
       (have c4b0 : decide (x5_1 < (l0.length : Int)) = true := decide_eq_true c4); clear c4
       by_cases c5 : 0 ≤ x5_1
       · rw [if_pos c5] at H
         (have c5b0 : decide (0 ≤ x5_1) = true := decide_eq_true c5); clear c5
         by_cases c6 : x5_1 < (l1.length : Int)
         · rw [if_pos c6] at H
           (have c6b0 : decide (x5_1 < (l1.length : Int)) = true := decide_eq_true c6); clear c6
           by_cases c7 : (rd l0 x5_1) = (rd l1 x5_1)
           · rw [if_pos c7] at H
             (have c7b0 : ((rd l0 x5_1) == (rd l1 x5_1)) = true := beq_iff_eq.mpr c7); (have c7b1 : ((rd l0 x5_1) != (rd l1 x5_1)) = false := bne_eq_false_iff_eq.mpr c7); clear c7; (have H' := q0_1 H); clear H; (have p101 : 0 ≤ (x5_1 : Int) := of_decide_eq_true (by first | (with_reducible assumption) | assumption)); (have q101 : x5_1 < (l0.length : Int) := of_decide_eq_true (by first | (with_reducible assumption) | assumption)); obtain ⟨ad101, e101, hx101_0⟩ := Kd.at_int HR0.out x5_1 p101 q101
             cases e101
             replace p101 := eq_true p101; replace q101 := eq_true q101; (have p102 : 0 ≤ (x5_1 : Int) := of_decide_eq_true (by first | (with_reducible assumption) | assumption)); (have q102 : x5_1 < (l1.length : Int) := of_decide_eq_true (by first | (with_reducible assumption) | assumption)); obtain ⟨ad102, e102, hx102_0⟩ := Kd.at_int HR1.out x5_1 p102 q102
             cases e102
             replace p102 := eq_true p102; replace q102 := eq_true q102; (go_wp2); (repeat (go_quiet (fail); try go_wp2)); (go_roundg k1)
             case measure => have := HK1.out; omega
             case rel => exact ⟨(wrap64 (x5_1 + 1)), (by first | rfl | (simp; done) | (simp [*]; done)), H', ⟨by have := HK1.out; omega⟩, by repeat (first | exact Drawn0.refl _ | apply Drawn0.step)⟩
           · rw [if_neg c7] at H
             (have c7b0 : ((rd l0 x5_1) == (rd l1 x5_1)) = false := beq_eq_false_iff_ne.mpr c7); (have c7b1 : ((rd l0 x5_1) != (rd l1 x5_1)) = true := bne_iff_ne.mpr c7); obtain rfl := Option.some.inj H; (have p101 : 0 ≤ (x5_1 : Int) := of_decide_eq_true (by first | (with_reducible assumption) | assumption)); (have q101 : x5_1 < (l0.length : Int) := of_decide_eq_true (by first | (with_reducible assumption) | assumption)); obtain ⟨ad101, e101, hx101_0⟩ := Kd.at_int HR0.out x5_1 p101 q101
             cases e101
             replace p101 := eq_true p101; replace q101 := eq_true q101; (have p102 : 0 ≤ (x5_1 : Int) := of_decide_eq_true (by first | (with_reducible assumption) | assumption)); (have q102 : x5_1 < (l1.length : Int) := of_decide_eq_true (by first | (with_reducible assumption) | assumption)); obtain ⟨ad102, e102, hx102_0⟩ := Kd.at_int HR1.out x5_1 p102 q102
             cases e102
             replace p102 := eq_true p102; replace q102 := eq_true q102; (go_wp2); (repeat (go_quiet (fail); try go_wp2)); go_ret; exact ⟨by first | rfl | (simp; done) | (simp [*]; done), by repeat (first | exact Drawn0.refl _ | apply Drawn0.step)⟩
         · rw [if_neg c6] at H
           exact absurd H (by simp)
       · rw [if_neg c5] at H
         exact absurd H (by simp)
     · rw [if_neg c4] at H
       (have c4b0 : decide (x5_1 < (l0.length : Int)) = false := decide_eq_false c4); clear c4; obtain rfl := Option.some.inj H; (go_wp2); (repeat (go_quiet (fail); try go_wp2)); go_ret; exact ⟨by first | rfl | (simp; done) | (simp [*]; done), by repeat (first | exact Drawn0.refl _ | apply Drawn0.step)⟩
 · rw [if_neg c3] at H
   (have c3b0 : ((l0.length : Int) == (l1.length : Int)) = false := beq_eq_false_iff_ne.mpr c3); (have c3b1 : ((l0.length : Int) != (l1.length : Int)) = true := bne_iff_ne.mpr c3); (have c3b2 : (l0.length == l1.length) = false := by first | simpa using c3 | (simp at c3 ⊢; omega)); obtain rfl := Option.some.inj H; go_enter Try.func18, Try.ntmps18; (go_wp2); (repeat (go_quiet (fail); try go_wp2)); go_ret; exact ⟨by first | rfl | (simp; done) | (simp [*]; done), by repeat (first | exact Drawn0.refl _ | apply Drawn0.step)⟩
/-! ### laws_toIntS: function 35 -/
def laws_toIntS.l0 : Nat → List Int → List Int → Int → Option (List Int)
 | 0, _, _, _ => none
 | k + 1, x0, x3, x4 => if x4 < (x0.length : Int) then (if 0 ≤ x4 then (if x4 < (x3.length : Int) then (laws_toIntS.l0 k x0 (x3.set (x4 : Int).toNat (rd x0 x4)) (wrap64 (x4 + 1))) else (none)) else (none)) else (some x3)
def laws_toIntS.f (k : Nat) (l0 : List Int) : Option (List Int) := if 0 ≤ (l0.length : Int) then (if ((l0.length : Int) : Int).toNat ≤ 35184372088832 then (laws_toIntS.l0 k l0 (List.replicate ((l0.length : Int) : Int).toNat 0) 0) else (none)) else (none)
theorem laws_toIntS.mono_l : ∀ k, (∀ y0 y1 y2, LeO (laws_toIntS.l0 k y0 y1 y2) (laws_toIntS.l0 (k + 1) y0 y1 y2))
 | 0 => fun _ _ _ r h => by simp [laws_toIntS.l0] at h
 | k + 1 => by
  have ih0 := laws_toIntS.mono_l k
  · intro y0 y1 y2
    unfold laws_toIntS.l0
    repeat' first
    | (with_reducible exact ih0 _ _ _)
    | (with_reducible exact LeO.refl _)
    | (with_reducible exact LeO.none _)
    | (with_reducible refine LeO.ite ?_ ?_)
    | (with_reducible refine LeO.bind ?_ (fun _ => ?_))
    | exact ih0 _ _ _
    | exact LeO.none _
    | refine LeO.ite ?_ ?_
    | refine LeO.bind ?_ (fun _ => ?_)
theorem laws_toIntS.mono : ∀ a0 k, LeO (laws_toIntS.f k a0) (laws_toIntS.f (k + 1) a0) := by
 intro a0 k; have ih0 := laws_toIntS.mono_l k; unfold laws_toIntS.f
 repeat' first
  | (with_reducible exact ih0 _ _ _)
  | (with_reducible exact LeO.refl _)
  | (with_reducible exact LeO.none _)
  | (with_reducible refine LeO.ite ?_ ?_)
  | (with_reducible refine LeO.bind ?_ (fun _ => ?_))
  | exact ih0 _ _ _
  | exact LeO.none _
  | refine LeO.ite ?_ ?_
  | refine LeO.bind ?_ (fun _ => ?_)
set_option maxHeartbeats 8000000 in
set_option maxRecDepth 100000 in
theorem laws_toIntS.calls (k : Nat) (A0 : Option Addr) (c0 : Nat) (l0 : List Int) (r : List Int) (w : World) (hr0 : Kd.C (Kd.int .i64) w A0 l0.length l0) (hc0 : l0.length ≤ c0) (h : laws_toIntS.f k l0 = some r) :
 Calls Try.prog 35 #[.slice A0 l0.length c0] w fun e w' => ∃ v0_ : Value, e = .returned (v0_) ∧ Kd.R (Kd.int .i64) 3 w' w.heap.size (fun _ => True) v0_ r ∧ Below w.heap.size w w' := by
 have HR0 := q0_1 hr0; have HC0 := q0_1 hc0; clear hr0 hc0; have HB := q0_1 (Below.refl w.heap.size w); (have H : (if 0 ≤ (l0.length : Int) then (if ((l0.length : Int) : Int).toNat ≤ 35184372088832 then (laws_toIntS.l0 k l0 (List.replicate ((l0.length : Int) : Int).toNat 0) 0) else (none)) else (none)) = some r := h); clear h
 by_cases c2 : 0 ≤ (l0.length : Int)
 · rw [if_pos c2] at H
   have c2b0 := eq_true c2; (have c2b1 : decide (0 ≤ (l0.length : Int)) = true := decide_eq_true c2); clear c2
   by_cases c3 : ((l0.length : Int) : Int).toNat ≤ 35184372088832
   · rw [if_pos c3] at H
     have c3b0 := eq_true c3; (have c3b1 : decide (((l0.length : Int) : Int).toNat ≤ 35184372088832) = true := decide_eq_true c3); clear c3; obtain ⟨y103, hy103⟩ : ∃ y_ : List Int, y_ = (List.replicate ((l0.length : Int) : Int).toNat 0) := ⟨_, rfl⟩; (replace H : (laws_toIntS.l0 k l0 y103 0) = some r := by first | (rw [hy103]; with_reducible exact H) | (have H2_ := (Option.bind_some _ _).symm.trans H; rw [hy103]; with_reducible exact H2_) | (have H2_ := (Option.bind_some _ _).symm.trans H; with_reducible exact H2_) | with_reducible exact H | (rw [hy103]; exact H) | exact H); have Ny103 := q0_1 hy103; clear hy103; (have H' := q0_1 H); clear H; go_enter Try.func35, Try.ntmps35; (go_wp2_with (first | ((with_reducible refine gate_dst (N := 7) rfl ?_); refine Kd.R_make (Kd.int .i64) _ 3 rfl (N := 7) rfl 24 _ _ rfl (l0.length : Int) rfl rfl Try.underlying24 (.int .i64 0) 8 info3 rfl (by decide) (by omega) 0 (ok := fun _ => True) (okp := fun _ => True) rfl (fun _ hk => hk) trivial (of_decide_eq_true (by first | (with_reducible assumption) | assumption)) (Nat.le_trans (Nat.mul_le_mul_right _ (of_decide_eq_true (by first | (with_reducible assumption) | assumption) : (l0.length : Int).toNat ≤ 35184372088832)) (by omega)) (Below.refl _ _) (Nat.le_refl _) ?_; intro v104 w4 ho5 hb hg_ hnew_; clear hg_ hnew_; (first | rw [← Ny103.out] at ho5 | (simp only [Int.reduceToNat] at ho5; rw [← Ny103.out] at ho5)); have n0_ := q0_1 (Kd.R_lower ho5 (below_size (qe_1))); have n1_ := q0_1 (below_step (qe_1) hb); clear HB; have ql := n0_; have HB := n1_; clear n0_ n1_; clear hb ho5))); (go_loopg [4] k (fun kq v4 w' => ∃ (x3_1 : List Int) (x4_1 : Int), v4 = .int .i64 x4_1 ∧ Aside0 (laws_toIntS.l0 kq l0 x3_1 x4_1 = some r) ∧ Aside0 (kq ≤ k) ∧ Aside0 (Kd.R (Kd.int .i64) 3 w' w.heap.size (fun _ => True) v104 x3_1) ∧ Aside0 (Below w.heap.size w w')))
     case atStart => exact ⟨(y103), (0), (by first | rfl | (simp; done) | (simp [*]; done)), H', ⟨Nat.le_refl _⟩, ⟨by refine ra ?_; exact ql.out⟩, ⟨by exact (qe_1)⟩⟩
     case round =>
      clear H'; (try clear c2); (try clear c2b0); (try clear c2b1); (try clear p2); (try clear c3); (try clear c3b0); (try clear c3b1); obtain ⟨x3_1, x4_1, rfl, HA, HK1, qg, HB⟩ := hrel
      cases gk with
      | zero => exact absurd HA.out (by simp [laws_toIntS.l0])
      | succ k1 =>
       have H := HA.out; clear HA; (simp only [laws_toIntS.l0] at H)
       by_cases c6 : x4_1 < (l0.length : Int)
       · rw [if_pos c6] at H
         (have c6b0 : decide (x4_1 < (l0.length : Int)) = true := decide_eq_true c6); clear c6
         by_cases c7 : 0 ≤ x4_1
         · rw [if_pos c7] at H
           (have c7b0 : decide (0 ≤ x4_1) = true := decide_eq_true c7); clear c7
           by_cases c8 : x4_1 < (x3_1.length : Int)
           · rw [if_pos c8] at H
             (have c8b0 : decide (x4_1 < (x3_1.length : Int)) = true := decide_eq_true c8); clear c8; obtain ⟨y107, hy107⟩ : ∃ y_ : List Int, y_ = (x3_1.set (x4_1 : Int).toNat (rd l0 x4_1)) := ⟨_, rfl⟩; (replace H : (laws_toIntS.l0 k1 l0 y107 (wrap64 (x4_1 + 1))) = some r := by first | (rw [hy107]; with_reducible exact H) | (have H2_ := (Option.bind_some _ _).symm.trans H; rw [hy107]; with_reducible exact H2_) | (have H2_ := (Option.bind_some _ _).symm.trans H; with_reducible exact H2_) | with_reducible exact H | (rw [hy107]; exact H) | exact H); have Ny107 := q0_1 hy107; clear hy107; (have H' := q0_1 H); clear H; (have p106 : 0 ≤ (x4_1 : Int) := of_decide_eq_true (by first | (with_reducible assumption) | assumption)); (have q106 : x4_1 < (l0.length : Int) := of_decide_eq_true (by first | (with_reducible assumption) | assumption)); obtain ⟨ad106, e106, hx106_0⟩ := Kd.at_int HR0.out x4_1 p106 q106
             cases e106
             replace hx106_0 := (HB.out.cell (World.block_lt_of_cell? w _ hx106_0)).trans hx106_0; replace p106 := eq_true p106; replace q106 := eq_true q106; (have p9 : 0 ≤ (x4_1 : Int) := of_decide_eq_true (by first | (with_reducible assumption) | assumption)); (have q9 : (x4_1 : Int) < ((x3_1.length : Int) : Int) := of_decide_eq_true (by first | (with_reducible assumption) | assumption)); obtain ⟨go9, qm, eo9, qo, gl9, cl9, HG9⟩ := Kd.R_form qg.out (by omega); ((first | cases eo9 | (injection eo9 with ea_ en_ ec_; (first | subst ea_ | (injection ea_ with ea_; subst ea_)); subst ec_; clear en_))); have GB9 := q0_1 qo; have GG9 := q0_1 HG9; clear qo gl9 HG9; obtain ⟨hx9_0, hf9_0⟩ := Kd.R_celln 0 qg.out (x4_1 : Int) p9 q9; replace p9 := eq_true p9; replace q9 := eq_true q9; have HP10 := Kd.R_putg qg.out (x4_1 : Int) (rd l0 x4_1); (go_wp2_with (first | ((with_reducible refine gate_store (t := 3) (p := 20) rfl ?_); refine store_event (t := 3) (p := 20) (v := ?vo_w11) (w1 := (wr.setCell ⟨go9, (x4_1 : Int).toNat, none⟩ (.int .i64 (rd l0 x4_1)))) ?hg ?ho ?hn ?hr ?_; (case ho => rfl); (case hg => rfl); (case hn => rfl); (case hr => first | (go_simp; done) | (go_simp; rfl)); intro w11 hw; have hg : wr.grownBy w11 (some go9) := (by rw [hw]; exact HP10.2); have hp_ : Kd.R (Kd.int .i64) 3 w11 w.heap.size (fun _ => True) (.slice (some ⟨go9, 0, none⟩) x3_1.length qm) y107 := (by rw [hw, Ny107.out]; exact HP10.1); clear HP10; have n0_ := q0_1 (hp_); have n1_ := q0_1 ((by rw [hw]; exact below_set (HB.out) GB9.out : Below w.heap.size w w11)); clear qg; clear HB; have qg := n0_; have HB := n1_; clear n0_ n1_; clear hg hw hp_))); (go_roundg k1)
             case measure => have := HK1.out; omega
             case rel => exact ⟨(y107), (wrap64 (x4_1 + 1)), (by first | rfl | (simp; done) | (simp [*]; done)), H', ⟨by have := HK1.out; omega⟩, ⟨by refine ra ?_; exact qg.out⟩, ⟨by exact (qe_1)⟩⟩
           · rw [if_neg c8] at H
             exact absurd H (by simp)
         · rw [if_neg c7] at H
           exact absurd H (by simp)
       · rw [if_neg c6] at H
         (have c6b0 : decide (x4_1 < (l0.length : Int)) = false := decide_eq_false c6); clear c6; obtain rfl := Option.some.inj H; (go_wp2); go_ret; (exact ⟨_, by first | rfl | (simp [errW_none, errW_some] <;> rfl) | (simp [*, errW_none, errW_some] <;> rfl), by refine ra ?_; exact qg.out, by exact (qe_1)⟩)
   · rw [if_neg c3] at H
     exact absurd H (by simp)
 · rw [if_neg c2] at H
   exact absurd H (by simp)
/-! ### spec_l1In: function 71 -/
def spec_l1In.f (a0 : Int) (a1 : Int) (a2 : Int) : Option (Bool) := if a0 ≥ a1 then (some (decide (a0 ≤ a2))) else (some false)
set_option maxHeartbeats 8000000 in
set_option maxRecDepth 100000 in
theorem spec_l1In.calls (a0 : Int) (a1 : Int) (a2 : Int) (r : Bool) (w : World) (h : spec_l1In.f a0 a1 a2 = some r) :
 Calls Try.prog 71 #[.int .i64 a0, .int .i64 a1, .int .i64 a2] w fun e w' => e = .returned (.bool r) ∧ Drawn0 w w' := by
 (have H : (if a0 ≥ a1 then (some (decide (a0 ≤ a2))) else (some false)) = some r := h); clear h
 by_cases c4 : a0 ≥ a1
 · rw [if_pos c4] at H
   (have c4b0 : decide (a1 ≤ a0) = true := decide_eq_true c4); clear c4; obtain rfl := Option.some.inj H; go_enter Try.func71, Try.ntmps71; (go_wp2); go_ret; exact ⟨by first | rfl | (simp; done) | (simp [*]; done), by repeat (first | exact Drawn0.refl _ | apply Drawn0.step)⟩
 · rw [if_neg c4] at H
   (have c4b0 : decide (a1 ≤ a0) = false := decide_eq_false c4); clear c4; obtain rfl := Option.some.inj H; go_enter Try.func71, Try.ntmps71; (go_wp2); go_ret; exact ⟨by first | rfl | (simp; done) | (simp [*]; done), by repeat (first | exact Drawn0.refl _ | apply Drawn0.step)⟩
/-! ### spec_l17Copy: function 83 -/
def spec_l17Copy.f (l0_0 : List Int) (a0_1 : Int) : Option (List Int × Int) := (some (([] : List Int) : List Int)).bind fun y110 => (if y110.length + l0_0.length < 17592186044416 then (some ((y110 ++ l0_0), a0_1)) else (none))
def spec_l17Copy.T1 : Bool × List (List Nat × List Nat) := (true, [([], []), ([], []), ([1], [1]), ([0, 2], [0, 2]), ([], []), ([4], [4]), ([3, 5], [3, 5]), ([6, 3, 0, 1, 2, 3, 4, 5, 6], [6])])
def spec_l17Copy.B1 : List Nat := [0, 0, 2, 7, 0, 16, 63, 127]
theorem spec_l17Copy.tab1 : rtab .any (opsOf Try.f83 1) = spec_l17Copy.T1 := by kernel_rfl
theorem spec_l17Copy.bits1 : waitsOk spec_l17Copy.T1.2 spec_l17Copy.B1 = true := by kernel_rfl
set_option maxHeartbeats 8000000 in
set_option maxRecDepth 100000 in
theorem spec_l17Copy.calls (A0_0 : Option Addr) (c0_0 : Nat) (l0_0 : List Int) (a0_1 : Int) (r1 : List Int) (r2 : Int) (w : World) (hr0_0 : Kd.C (Kd.int .i64) w A0_0 l0_0.length l0_0) (hc0_0 : l0_0.length ≤ c0_0) (h : spec_l17Copy.f l0_0 a0_1 = some (r1, r2)) :
 Calls Try.prog 83 #[.agg #[.slice A0_0 l0_0.length c0_0, .int .i64 a0_1]] w fun e w' => ∃ v0_ : Value, e = .returned (.agg #[v0_, .int .i64 r2]) ∧ Kd.R (Kd.int .i64) 3 w' w.heap.size (fun _ => True) v0_ r1 ∧ Below w.heap.size w w' := by
 have hu51 := Try.underlying51; have HR0_0 := q0_1 hr0_0; have HC0_0 := q0_1 hc0_0; clear hr0_0 hc0_0; have HB := q0_1 (Below.refl w.heap.size w); (have H : ((some (([] : List Int) : List Int)).bind fun y110 => (if y110.length + l0_0.length < 17592186044416 then (some ((y110 ++ l0_0), a0_1)) else (none))) = some (r1, r2) := h); clear h; obtain ⟨y110, hy110⟩ : ∃ y_ : List Int, y_ = (([] : List Int)) := ⟨_, rfl⟩; (replace H : (if y110.length + l0_0.length < 17592186044416 then (some ((y110 ++ l0_0), a0_1)) else (none)) = some (r1, r2) := by first | (rw [hy110]; with_reducible exact H) | (have H2_ := (Option.bind_some _ _).symm.trans H; rw [hy110]; with_reducible exact H2_) | (have H2_ := (Option.bind_some _ _).symm.trans H; with_reducible exact H2_) | with_reducible exact H | (rw [hy110]; exact H) | exact H); have Ny110 := q0_1 hy110; clear hy110
 by_cases c2 : y110.length + l0_0.length < 17592186044416
 · rw [if_pos c2] at H
   have LMc2 := q0_1 c2; clear c2; obtain ⟨y113, hy113⟩ : ∃ y_ : List Int, y_ = (y110 ++ l0_0) := ⟨_, rfl⟩; (replace H : (some (y113, a0_1)) = some (r1, r2) := by first | (rw [hy113]; with_reducible exact H) | (have H2_ := (Option.bind_some _ _).symm.trans H; rw [hy113]; with_reducible exact H2_) | (have H2_ := (Option.bind_some _ _).symm.trans H; with_reducible exact H2_) | with_reducible exact H | (rw [hy113]; exact H) | exact H); have Ny113 := q0_1 hy113; clear hy113; (simp only [Option.some.injEq, Prod.mk.injEq] at H); obtain ⟨rfl, rfl⟩ := H; go_enter Try.func83, Try.ntmps83; (try go_wp2_with (first | ((with_reducible refine gate_dst (N := 1) rfl ?_); refine box_event ?hg (N := 1) ?hd (cs := #[.slice A0_0 l0_0.length c0_0, .int .i64 a0_1]) (t := 51) ?hr ?_; (case hd => rfl); (case hg => rfl); (case hr => first | (go_simp; done) | (go_simp; rfl)); intro qc hg w3 hbox hb; have n0_ := q0_1 (below_step (qe_1) hb); have n1_ := q0_1 (hbox); have n2_ := q0_1 ((by rw [hg]; exact (below_size (qe_1)) : w.heap.size ≤ qc)); have n3_ := q0_1 ((by rw [hg]; exact (below_size (qe_1)) : w.heap.size ≤ qc)); clear HB; have HB := n0_; have q2 := n1_; have GW108 := n2_; have qp := n3_; clear n0_ n1_ n2_ n3_; clear hb hbox hg) | ((with_reducible refine gate_dst (N := 2) rfl ?_); refine box_event ?hg (N := 2) ?hd (cs := #[.slice none 0 0, .int .i64 0]) (t := 51) ?hr ?_; (case hd => rfl); (case hg => rfl); (case hr => first | (go_simp; done) | (go_simp; rfl)); intro q8 hg w4 hbox hb; have n0_ := q0_1 (bb q2.out hb); have n1_ := q0_1 (below_step (qh_1) hb); have n2_ := q0_1 (hbox); have n3_ := q0_1 ((by rw [hg]; exact (below_size (qh_1)) : w.heap.size ≤ q8)); have n4_ := q0_1 ((by rw [hg]; exact (below_size (qh_1)) : w.heap.size ≤ q8)); have n5_ := q0_1 ((by rw [hg]; exact Nat.ne_of_lt (bl q2.out) : qc ≠ q8)); have n6_ := q0_1 ((by rw [hg]; exact Nat.ne_of_gt (bl q2.out) : q8 ≠ qc)); clear q2; clear HB; have q2 := n0_; have HB := n1_; have q4 := n2_; have GW109 := n3_; have qq := n4_; have q5 := n5_; have qd := n6_; clear n0_ n1_ n2_ n3_ n4_ n5_ n6_; clear hb hbox hg))); have n0_ := q0_1 (blk_drew q2.out); have n1_ := q0_1 (blk_drew q4.out); have n2_ := q0_1 (below_drew1 HB.out); clear q2 q4 HB; have q2 := n0_; have q4 := n1_; have HB := n2_; clear n0_ n1_ n2_; refine start_ (n := 8) (S := fun w' => w'.cell? ⟨qc, 0, none⟩ = some (.slice A0_0 l0_0.length c0_0) ∧ w'.cell? ⟨qc, 1, none⟩ = some (.int .i64 a0_1)) (ds := []) (bq 0 8) (by kernel_rfl) rfl rfl ⟨(blk_cell q2.out 0).trans rfl, (blk_cell q2.out 1).trans rfl⟩ (fun hHeld => ?_); refine with_tabW spec_l17Copy.tab1 spec_l17Copy.bits1 (fun HT_ HW_ => ?_); generalize w4.drew = w5 at q2 q4 HB hHeld ⊢
   refine pure_ (i := 1) (N := some 4) (v := ?_) (a' := ?_) (bq 2 8) rfl rfl (any_of HT_.out (by kernel_rfl)) (fun _ _ _ h => h) (Or.inl ⟨by rfl, ?_⟩) ?_ ?_; rotate_left; (intro w'; go_simp; with_reducible rfl); rotate_left; (exact pb); refine pure_ (i := 4) (N := some 7) (v := ?_) (a' := ?_) (bq 18 8) rfl rfl (any_of HT_.out (by kernel_rfl)) (fun _ _ _ h => h) (Or.inl ⟨by rfl, ?_⟩) ?_ ?_; rotate_left; (intro w'; go_simp; with_reducible rfl); rotate_left; (exact pb); refine take_ (i := 2) (N := some 5) (v := ?_) (a' := ?_) (bq 22 8) rfl rfl (take_ofW HT_.out HW_.out (by kernel_rfl)) (fun _ _ _ h => h) (Or.inl ⟨by rfl, ?_⟩) hHeld ?_ ?_; rotate_left; (rintro w' ⟨s0, s1⟩; go_simp; with_reducible rfl); rotate_left; (exact pb); refine take_ (i := 5) (N := some 8) (v := ?_) (a' := ?_) (bq 54 8) rfl rfl (take_ofW HT_.out HW_.out (by kernel_rfl)) (fun _ _ _ h => h) (Or.inl ⟨by rfl, ?_⟩) hHeld ?_ ?_; rotate_left; (rintro w' ⟨s0, s1⟩; go_simp; with_reducible rfl); rotate_left; (exact pb); refine one_ (i := 0) (N := some 3) (bq 55 8) rfl rfl (one_of HT_.out (by kernel_rfl)) (by decide) (fun K hK => ?_); refine Kd.R_lit_step (Kd.int .i64) _ 3 ?hg (N := 3) ?hd (xs := ([] : List Int)) (inner := []) (ok := fun _ => True) (okp := fun _ => True) ?hr ?hp (fun _ hk => hk) trivial (Below.refl _ _) (Nat.le_refl _) (by simp) ?_; (case hd => rfl); (case hg => rfl); (case hr => first | (go_simp; done) | (go_simp; rfl)); (case hp => exact (Reps.none _ _)); intro v111 w6 ho7 hb hg_ hnew_; clear hg_ hnew_; ((first | rw [← Ny110.out] at ho7 | (simp only [Int.reduceToNat] at ho7; rw [← Ny110.out] at ho7))); have n0_ := q0_1 (Kd.R_lower ho7 (below_size (qa_1))); have n1_ := q0_1 (bb q2.out hb); have n2_ := q0_1 (bb q4.out hb); have n3_ := q0_1 (below_step (qa_1) hb); clear q2 q4 HB; have qi := n0_; have q2 := n1_; have q4 := n2_; have HB := n3_; clear n0_ n1_ n2_ n3_ hb ho7; refine hK.out _ _ ⟨(blk_cell q2.out 0).trans rfl, (blk_cell q2.out 1).trans rfl⟩ (fun hHeld => ?_); clear hK K; refine norm_ (a' := ?_) ?_ ?_; rotate_left; ((show Act.put _ (some 3) _ = _); simp only [Act.put, List.setIfInBounds_toArray, List.set_cons_zero, List.set_cons_succ, i64_w, i32_w]; rfl); refine one_ (i := 3) (N := some 6) (bq 63 8) rfl rfl (one_of HT_.out (by kernel_rfl)) (by decide) (fun K hK => ?_); refine Kd.R_append_rows_step (Kd.int .i64) (w0 := w) w.heap.size (by rfl) (.tmp 3) (.tmp 5) 24 3 (.int .i64 0) 8 rfl Try.underlying24 info3 rfl (by decide) (by omega) v111 y110 l0_0 _ _ _ (fun _ => True) (fun _ => False) rfl rfl ?aO ?aR (fun _ _ h => h) (fun _ h => h.elim) ?aF ?aB ?aS ?aL ?_; ((case aR => exact ca (Kd.C_below HR0_0.out HB.out))); ((case aB => exact (qa_1))); ((case aF => exact (fun _ _ => trivial))); ((case aO => exact (ra qi.out))); ((case aS => exact (below_size (qa_1)))); ((case aL => have := LMc2.out; omega)); intro v114 w8 ho hb hg hat; rw [← Ny113.out] at ho
   have n0_ := q0_1 (blk_grown (g := qc) (o := .cells #[.slice A0_0 l0_0.length c0_0, .int .i64 a0_1] 51 (0, 0)) (ba q2.out) hg (Kd.R_ne qi.out q2.out (by decide))); have n1_ := q0_1 (blk_grown (g := q8) (o := .cells #[.slice none 0 0, .int .i64 0] 51 (0, 0)) (ba q4.out) hg (Kd.R_ne qi.out q4.out (by decide))); have n2_ := q0_1 (hb); have n3_ := q0_1 (ho); clear q2 q4 HB qi; have q2 := n0_; have q4 := n1_; have HB := n2_; have qj := n3_; clear n0_ n1_ n2_ n3_ ho hb hg hat; obtain ⟨qn, qm, eo9⟩ := Kd.R_slice qj.out; ((first | subst eo9 | (injection eo9 with f1_ f2_ f3_; have f4_ := f1_.symm; have f5_ := f3_.symm; clear f1_ f2_ f3_; subst f4_; subst f5_))); refine hK.out _ _ ⟨(blk_cell q2.out 0).trans rfl, (blk_cell q2.out 1).trans rfl⟩ (fun hHeld => ?_); clear hK K; refine norm_ (a' := ?_) ?_ ?_; rotate_left; ((show Act.put _ (some 6) _ = _); simp only [Act.put, List.setIfInBounds_toArray, List.set_cons_zero, List.set_cons_succ, i64_w, i32_w]; rfl); refine pure_ (i := 6) (N := some 9) (v := ?_) (a' := ?_) (bq 127 8) rfl rfl (any_of HT_.out (by kernel_rfl)) (fun _ _ _ h => h) (Or.inl ⟨by rfl, ?_⟩) ?_ ?_; rotate_left; (intro w'; go_simp; with_reducible rfl); rotate_left; (exact pb); refine one_ (i := 7) (N := none) (bq 255 8) rfl rfl (one_of HT_.out (by kernel_rfl)) (by decide) (fun K hK => ?_); (have hs10 : w8.cell? ⟨q8, 0, none⟩ = some (.slice none 0 0) := (blk_cell q4.out 0).trans rfl); have hfs10 := blk_frozen q4.out 0; have hns10_0 := q5.out; have hms10_0 := qd.out; (have hs11 : w8.cell? ⟨q8, 1, none⟩ = some (.int .i64 0) := (blk_cell q4.out 1).trans rfl); have hfs11 := blk_frozen q4.out 1; have hns11_0 := q5.out; have hms11_0 := qd.out; refine skip_ (w1 := ?_) (by rfl) rfl ?_ ?_; rotate_left; (go_simp; rfl); refine hK.out _ _ ⟨((cell_far (p := ⟨q8, _, none⟩) q5.out _).trans (((cell_far (p := ⟨q8, _, none⟩) q5.out _).trans (hHeld.1)))), ((cell_far (p := ⟨q8, _, none⟩) q5.out _).trans (((cell_far (p := ⟨q8, _, none⟩) q5.out _).trans (hHeld.2))))⟩ (fun hHeld => ?_); clear hK K; refine done_ (done_of HT_.out (by kernel_rfl)) ?_; (try go_wp2); refine bodyPost_ret (results_cell_row rfl _ _ q8 51 #[.slice qn y113.length qm, .int .i64 a0_1] (0, 0) _ rfl (by refine ba ?_; refine blk_put (cs := #[.slice qn y113.length qm, .int .i64 0]) ?_ 1 _ rfl; refine ba ?_; refine blk_put (cs := #[.slice none 0 0, .int .i64 0]) ?_ 0 _ rfl; refine ba ?_; exact q4.out) Try.underlying51 rfl (by kernel_rfl)) rfl ?_; (exact ⟨_, by first | rfl | (simp [errW_none, errW_some] <;> rfl) | (simp [*, errW_none, errW_some] <;> rfl), by refine ra ?_; exact Kd.R_mono (Kd.R_far (p := ⟨q8, 1, none⟩) (Kd.R_far (p := ⟨q8, 0, none⟩) (Kd.R_types qj.out q4.out (by decide)) (fun _ hk => hk.2) (.slice qn y113.length qm)) (fun _ hk => hk.2) (.int .i64 a0_1)) (fun _ hk => trivial), by exact (qa_1)⟩)
 · rw [if_neg c2] at H
   exact absurd H (by simp)
/-! ### spec_l18Ok: function 84 -/
def spec_l18Ok.l0 : Nat → List Int → Int → Int → List Int → Int → Option (Bool)
 | 0, _, _, _, _, _ => none
 | k + 1, x0, x2, x7, x117000, x117001 => if x7 < (x117000.length : Int) then (if 0 ≤ x7 then ((spec_l1In.f (rd x117000 x7) 0 500).bind fun t118 => (if t118 = true then (spec_l18Ok.l0 k x0 x2 (wrap64 (x7 + 1)) x117000 x117001) else (some false))) else (none)) else (if (x0.length : Int) ≤ 40 then (if (x117000.length : Int) = (wrap64 ((x0.length : Int) + 1)) then ((spec_l1In.f x117001 0 500).bind fun t119 => (if t119 = true then ((spec_l1In.f x2 1 40).bind fun t120 => (some t120)) else (some false))) else (some false)) else (some false))
def spec_l18Ok.f (k : Nat) (l0 : List Int) (l1_0 : List Int) (a1_1 : Int) (a2 : Int) : Option (Bool) := spec_l18Ok.l0 k l0 a2 0 l1_0 a1_1
theorem spec_l18Ok.mono_l : ∀ k, (∀ y0 y1 y2 y3 y4, LeO (spec_l18Ok.l0 k y0 y1 y2 y3 y4) (spec_l18Ok.l0 (k + 1) y0 y1 y2 y3 y4))
 | 0 => fun _ _ _ _ _ r h => by simp [spec_l18Ok.l0] at h
 | k + 1 => by
  have ih0 := spec_l18Ok.mono_l k
  · intro y0 y1 y2 y3 y4
    unfold spec_l18Ok.l0
    repeat' first
    | (with_reducible exact ih0 _ _ _ _ _)
    | (with_reducible exact LeO.refl _)
    | (with_reducible exact LeO.none _)
    | (with_reducible refine LeO.ite ?_ ?_)
    | (with_reducible refine LeO.bind ?_ (fun _ => ?_))
    | exact ih0 _ _ _ _ _
    | exact LeO.none _
    | refine LeO.ite ?_ ?_
    | refine LeO.bind ?_ (fun _ => ?_)
theorem spec_l18Ok.mono : ∀ a0 a1 a2 a3 k, LeO (spec_l18Ok.f k a0 a1 a2 a3) (spec_l18Ok.f (k + 1) a0 a1 a2 a3) := by
 intro a0 a1 a2 a3 k; have ih0 := spec_l18Ok.mono_l k; unfold spec_l18Ok.f
 repeat' first
  | (with_reducible exact ih0 _ _ _ _ _)
  | (with_reducible exact LeO.refl _)
  | (with_reducible exact LeO.none _)
  | (with_reducible refine LeO.ite ?_ ?_)
  | (with_reducible refine LeO.bind ?_ (fun _ => ?_))
  | exact ih0 _ _ _ _ _
  | exact LeO.none _
  | refine LeO.ite ?_ ?_
  | refine LeO.bind ?_ (fun _ => ?_)
set_option maxHeartbeats 8000000 in
set_option maxRecDepth 100000 in
theorem spec_l18Ok.calls (k : Nat) (A0 : Option Addr) (c0 : Nat) (l0 : List Int) (A1_0 : Option Addr) (c1_0 : Nat) (l1_0 : List Int) (a1_1 : Int) (a2 : Int) (r : Bool) (w : World) (hr0 : Kd.C (Kd.int .i64) w A0 l0.length l0) (hc0 : l0.length ≤ c0) (hr1_0 : Kd.C (Kd.int .i64) w A1_0 l1_0.length l1_0) (hc1_0 : l1_0.length ≤ c1_0) (h : spec_l18Ok.f k l0 l1_0 a1_1 a2 = some r) :
 Calls Try.prog 84 #[.slice A0 l0.length c0, .agg #[.slice A1_0 l1_0.length c1_0, .int .i64 a1_1], .int .i64 a2] w fun e w' => e = .returned (.bool r) ∧ Below w.heap.size w w' := by
 have hu51 := Try.underlying51; have HR0 := q0_1 hr0; have HC0 := q0_1 hc0; clear hr0 hc0; have HR1_0 := q0_1 hr1_0; have HC1_0 := q0_1 hc1_0; clear hr1_0 hc1_0; have HB := q0_1 (Below.refl w.heap.size w); (have H : (spec_l18Ok.l0 k l0 a2 0 l1_0 a1_1) = some r := h); clear h; (have H' := q0_1 H); clear H; go_enter Try.func84, Try.ntmps84; (go_wp2_with (first | ((with_reducible refine gate_dst (N := 4) rfl ?_); (try (refine gate_guard (by rfl) ?_; dsimp only)); refine box_event ?hg (N := 4) ?hd (cs := #[.slice A1_0 l1_0.length c1_0, .int .i64 a1_1]) (t := 51) ?hr ?_; (case hd => rfl); (case hg => rfl); (case hr => first | (go_simp; done) | (go_simp; rfl)); intro q6 hg w4 hbox hb; have n0_ := q0_1 (below_step (qe_1) hb); have n1_ := q0_1 (hbox); have n2_ := q0_1 ((by rw [hg]; exact (below_size (qe_1)) : w.heap.size ≤ q6)); have n3_ := q0_1 ((by rw [hg]; exact (below_size (qe_1)) : w.heap.size ≤ q6)); clear HB; have HB := n0_; have q1 := n1_; have GW116 := n2_; have qr := n3_; clear n0_ n1_ n2_ n3_; clear hb hbox hg))); (go_loopg [7] k (fun kq v7 w' => ∃ (x7_1 : Int), v7 = .int .i64 x7_1 ∧ Aside0 (spec_l18Ok.l0 kq l0 a2 x7_1 l1_0 a1_1 = some r) ∧ Aside0 (kq ≤ k) ∧ Aside0 (w'.heap[q6]? = some (.cells #[(.slice A1_0 l1_0.length c1_0), .int .i64 a1_1] 51 (0, 0))) ∧ Aside0 (Below w.heap.size w w')))
 case atStart => exact ⟨(0), (by first | rfl | (simp; done) | (simp [*]; done)), H', ⟨Nat.le_refl _⟩, ⟨by refine ba ?_; exact q1.out⟩, ⟨by exact (qb_1)⟩⟩
 case round =>
  clear H'; (try clear c1); (try clear p2); obtain ⟨x7_1, rfl, HA, HK1, q1, HB⟩ := hrel
  cases gk with
  | zero => exact absurd HA.out (by simp [spec_l18Ok.l0])
  | succ k1 =>
   have H := HA.out; clear HA; (simp only [spec_l18Ok.l0] at H)
   by_cases c5 : x7_1 < (l1_0.length : Int)
   · rw [if_pos c5] at H
     (have c5b0 : decide (x7_1 < (l1_0.length : Int)) = true := decide_eq_true c5); clear c5
     by_cases c6 : 0 ≤ x7_1
     · rw [if_pos c6] at H
       (have c6b0 : decide (0 ≤ x7_1) = true := decide_eq_true c6); clear c6; replace H := Option.bind_eq_some_iff.mp H; obtain ⟨t118, A70, H⟩ := H; replace H : (if t118 = true then (spec_l18Ok.l0 k1 l0 a2 (wrap64 (x7_1 + 1)) l1_0 a1_1) else (some false)) = some r := H; have A7 := q0_1 A70; clear A70
       by_cases c8 : t118 = true
       · subst c8
         have H1 : (spec_l18Ok.l0 k1 l0 a2 (wrap64 (x7_1 + 1)) l1_0 a1_1) = some r := by rw [if_pos rfl] at H; exact H
         clear H; have H := H1; clear H1; (have H' := q0_1 H); clear H; (have hcz9_0 : wr.cell? ⟨q6, 0, none⟩ = some (.slice A1_0 l1_0.length c1_0) := (blk_cell q1.out 0).trans rfl); (have hcz9_1 : wr.cell? ⟨q6, 1, none⟩ = some (.int .i64 a1_1) := (blk_cell q1.out 1).trans rfl); have hfz9_0 := blk_frozen q1.out 0; have hfz9_1 := blk_frozen q1.out 1; (have p117 : 0 ≤ (x7_1 : Int) := of_decide_eq_true (by first | (with_reducible assumption) | assumption)); (have q117 : x7_1 < (l1_0.length : Int) := of_decide_eq_true (by first | (with_reducible assumption) | assumption)); obtain ⟨ad117, e117, hx117_0⟩ := Kd.at_int HR1_0.out x7_1 p117 q117
         cases e117
         replace hx117_0 := (HB.out.cell (World.block_lt_of_cell? w _ hx117_0)).trans hx117_0; replace p117 := eq_true p117; replace q117 := eq_true q117; (go_wp2_with (first | ((with_reducible refine gate_callee (f := 71) rfl ?_); refine goesL_ (some 20) rfl rfl Try.func71 (by kernel_rfl) rfl #[.int .i64 (rd l1_0 x7_1), .int .i64 0, .int .i64 500] rfl ma ?_; (with_reducible refine (spec_l1In.calls (rd l1_0 x7_1) 0 500 true _ A7.out).mono ?_); rintro e w' ⟨rfl, ⟨nd, rfl⟩⟩; refine ⟨_, rfl, ?_⟩))); (go_roundg k1)
         case measure => have := HK1.out; omega
         case rel => exact ⟨(wrap64 (x7_1 + 1)), (by first | rfl | (simp; done) | (simp [*]; done)), H', ⟨by have := HK1.out; omega⟩, ⟨by refine ba ?_; exact q1.out⟩, ⟨by exact (qb_1)⟩⟩
       · replace c8 := Bool.eq_false_iff.mpr c8
         subst c8; (have H1 : (some false) = some r := by rw [if_neg (show ¬ (false = true) by decide)] at H; exact H); clear H; have H := H1; clear H1; obtain rfl := Option.some.inj H; (have hcz10_0 : wr.cell? ⟨q6, 0, none⟩ = some (.slice A1_0 l1_0.length c1_0) := (blk_cell q1.out 0).trans rfl); (have hcz10_1 : wr.cell? ⟨q6, 1, none⟩ = some (.int .i64 a1_1) := (blk_cell q1.out 1).trans rfl); have hfz10_0 := blk_frozen q1.out 0; have hfz10_1 := blk_frozen q1.out 1; (have p117 : 0 ≤ (x7_1 : Int) := of_decide_eq_true (by first | (with_reducible assumption) | assumption)); (have q117 : x7_1 < (l1_0.length : Int) := of_decide_eq_true (by first | (with_reducible assumption) | assumption)); obtain ⟨ad117, e117, hx117_0⟩ := Kd.at_int HR1_0.out x7_1 p117 q117
         cases e117
         replace hx117_0 := (HB.out.cell (World.block_lt_of_cell? w _ hx117_0)).trans hx117_0; replace p117 := eq_true p117; replace q117 := eq_true q117; (go_wp2_with (first | ((with_reducible refine gate_callee (f := 71) rfl ?_); refine goesL_ (some 20) rfl rfl Try.func71 (by kernel_rfl) rfl #[.int .i64 (rd l1_0 x7_1), .int .i64 0, .int .i64 500] rfl ma ?_; (with_reducible refine (spec_l1In.calls (rd l1_0 x7_1) 0 500 false _ A7.out).mono ?_); rintro e w' ⟨rfl, ⟨nd, rfl⟩⟩; refine ⟨_, rfl, ?_⟩))); go_ret; (exact ⟨by first | rfl | (simp [errW_none, errW_some] <;> rfl) | (simp [*, errW_none, errW_some] <;> rfl), by exact (qb_1)⟩)
     · rw [if_neg c6] at H
       exact absurd H (by simp)
   · rw [if_neg c5] at H
     (have c5b0 : decide (x7_1 < (l1_0.length : Int)) = false := decide_eq_false c5); clear c5
     by_cases c11 : (l0.length : Int) ≤ 40
     · rw [if_pos c11] at H
       (have c11b0 : decide ((l0.length : Int) ≤ 40) = true := decide_eq_true c11); (have c11b1 : decide (l0.length ≤ 40) = true := decide_eq_true (by omega)); clear c11
       by_cases c12 : (l1_0.length : Int) = (wrap64 ((l0.length : Int) + 1))
       · rw [if_pos c12] at H
         (have c12b0 : ((l1_0.length : Int) == (wrap64 ((l0.length : Int) + 1))) = true := beq_iff_eq.mpr c12); (have c12b1 : ((l1_0.length : Int) != (wrap64 ((l0.length : Int) + 1))) = false := bne_eq_false_iff_eq.mpr c12); clear c12; replace H := Option.bind_eq_some_iff.mp H; obtain ⟨t119, A130, H⟩ := H; replace H : (if t119 = true then ((spec_l1In.f a2 1 40).bind fun t120 => (some t120)) else (some false)) = some r := H; have A13 := q0_1 A130; clear A130
         by_cases c14 : t119 = true
         · subst c14
           have H1 : ((spec_l1In.f a2 1 40).bind fun t120 => (some t120)) = some r := by rw [if_pos rfl] at H; exact H
           clear H; have H := H1; clear H1; replace H := Option.bind_eq_some_iff.mp H; obtain ⟨t120, A150, H⟩ := H; replace H : (some t120) = some r := H; have A15 := q0_1 A150; clear A150; obtain rfl := Option.some.inj H; (have hcz16_0 : wr.cell? ⟨q6, 0, none⟩ = some (.slice A1_0 l1_0.length c1_0) := (blk_cell q1.out 0).trans rfl); (have hcz16_1 : wr.cell? ⟨q6, 1, none⟩ = some (.int .i64 a1_1) := (blk_cell q1.out 1).trans rfl); have hfz16_0 := blk_frozen q1.out 0; have hfz16_1 := blk_frozen q1.out 1; (go_wp2_with (first | (go_at_call 71; (with_reducible refine (spec_l1In.calls a1_1 0 500 true _ A13.out).mono ?_); rintro e w' ⟨rfl, ⟨nd, rfl⟩⟩) | (go_at_call 71; (with_reducible refine (spec_l1In.calls a2 1 40 t120 _ A15.out).mono ?_); rintro e w' ⟨rfl, ⟨nd, rfl⟩⟩))); go_ret; (exact ⟨by first | rfl | (simp [errW_none, errW_some] <;> rfl) | (simp [*, errW_none, errW_some] <;> rfl), by exact (qb_1)⟩)
         · replace c14 := Bool.eq_false_iff.mpr c14
           subst c14; (have H1 : (some false) = some r := by rw [if_neg (show ¬ (false = true) by decide)] at H; exact H); clear H; have H := H1; clear H1; obtain rfl := Option.some.inj H; (have hcz17_0 : wr.cell? ⟨q6, 0, none⟩ = some (.slice A1_0 l1_0.length c1_0) := (blk_cell q1.out 0).trans rfl); (have hcz17_1 : wr.cell? ⟨q6, 1, none⟩ = some (.int .i64 a1_1) := (blk_cell q1.out 1).trans rfl); have hfz17_0 := blk_frozen q1.out 0; have hfz17_1 := blk_frozen q1.out 1; (go_wp2_with (first | (go_at_call 71; (with_reducible refine (spec_l1In.calls a1_1 0 500 false _ A13.out).mono ?_); rintro e w' ⟨rfl, ⟨nd, rfl⟩⟩))); go_ret; (exact ⟨by first | rfl | (simp [errW_none, errW_some] <;> rfl) | (simp [*, errW_none, errW_some] <;> rfl), by exact (qb_1)⟩)
       · rw [if_neg c12] at H
         (have c12b0 : ((l1_0.length : Int) == (wrap64 ((l0.length : Int) + 1))) = false := beq_eq_false_iff_ne.mpr c12); (have c12b1 : ((l1_0.length : Int) != (wrap64 ((l0.length : Int) + 1))) = true := bne_iff_ne.mpr c12); obtain rfl := Option.some.inj H; (have hcz18_0 : wr.cell? ⟨q6, 0, none⟩ = some (.slice A1_0 l1_0.length c1_0) := (blk_cell q1.out 0).trans rfl); (have hcz18_1 : wr.cell? ⟨q6, 1, none⟩ = some (.int .i64 a1_1) := (blk_cell q1.out 1).trans rfl); have hfz18_0 := blk_frozen q1.out 0; have hfz18_1 := blk_frozen q1.out 1; (go_wp2); go_ret; (exact ⟨by first | rfl | (simp [errW_none, errW_some] <;> rfl) | (simp [*, errW_none, errW_some] <;> rfl), by exact (qb_1)⟩)
     · rw [if_neg c11] at H
       (have c11b0 : decide ((l0.length : Int) ≤ 40) = false := decide_eq_false c11); (have c11b1 : decide (l0.length ≤ 40) = false := decide_eq_false (by omega)); clear c11; obtain rfl := Option.some.inj H; (have hcz19_0 : wr.cell? ⟨q6, 0, none⟩ = some (.slice A1_0 l1_0.length c1_0) := (blk_cell q1.out 0).trans rfl); (have hcz19_1 : wr.cell? ⟨q6, 1, none⟩ = some (.int .i64 a1_1) := (blk_cell q1.out 1).trans rfl); have hfz19_0 := blk_frozen q1.out 0; have hfz19_1 := blk_frozen q1.out 1; (go_wp2); go_ret; (exact ⟨by first | rfl | (simp [errW_none, errW_some] <;> rfl) | (simp [*, errW_none, errW_some] <;> rfl), by exact (qb_1)⟩)
/-! ### spec_PositionOf: function 85 -/
def spec_PositionOf.l0 : Nat → Int → Int → List Int → Int → Option (Int)
 | 0, _, _, _, _ => none
 | k + 1, x3, x4, x122000, x122001 => if x4 < (x122000.length : Int) then (if 0 ≤ x4 then (if 0 ≤ x3 then (if x3 < (x122000.length : Int) then (if (rd x122000 x4) < (rd x122000 x3) then (spec_PositionOf.l0 k x4 (wrap64 (x4 + 1)) x122000 x122001) else (spec_PositionOf.l0 k x3 (wrap64 (x4 + 1)) x122000 x122001)) else (none)) else (none)) else (none)) else (some x3)
def spec_PositionOf.f (k : Nat) (l0_0 : List Int) (a0_1 : Int) : Option (Int) := spec_PositionOf.l0 k 0 1 l0_0 a0_1
theorem spec_PositionOf.mono_l : ∀ k, (∀ y0 y1 y2 y3, LeO (spec_PositionOf.l0 k y0 y1 y2 y3) (spec_PositionOf.l0 (k + 1) y0 y1 y2 y3))
 | 0 => fun _ _ _ _ r h => by simp [spec_PositionOf.l0] at h
 | k + 1 => by
  have ih0 := spec_PositionOf.mono_l k
  · intro y0 y1 y2 y3
    unfold spec_PositionOf.l0
    repeat' first
    | (with_reducible exact ih0 _ _ _ _)
    | (with_reducible exact LeO.refl _)
    | (with_reducible exact LeO.none _)
    | (with_reducible refine LeO.ite ?_ ?_)
    | (with_reducible refine LeO.bind ?_ (fun _ => ?_))
    | exact ih0 _ _ _ _
    | exact LeO.none _
    | refine LeO.ite ?_ ?_
    | refine LeO.bind ?_ (fun _ => ?_)
theorem spec_PositionOf.mono : ∀ a0 a1 k, LeO (spec_PositionOf.f k a0 a1) (spec_PositionOf.f (k + 1) a0 a1) := by
 intro a0 a1 k; have ih0 := spec_PositionOf.mono_l k; unfold spec_PositionOf.f
 repeat' first
  | (with_reducible exact ih0 _ _ _ _)
  | (with_reducible exact LeO.refl _)
  | (with_reducible exact LeO.none _)
  | (with_reducible refine LeO.ite ?_ ?_)
  | (with_reducible refine LeO.bind ?_ (fun _ => ?_))
  | exact ih0 _ _ _ _
  | exact LeO.none _
  | refine LeO.ite ?_ ?_
  | refine LeO.bind ?_ (fun _ => ?_)
set_option maxHeartbeats 8000000 in
set_option maxRecDepth 100000 in
theorem spec_PositionOf.calls (k : Nat) (A0_0 : Option Addr) (c0_0 : Nat) (l0_0 : List Int) (a0_1 : Int) (r : Int) (w : World) (hr0_0 : Kd.C (Kd.int .i64) w A0_0 l0_0.length l0_0) (hc0_0 : l0_0.length ≤ c0_0) (h : spec_PositionOf.f k l0_0 a0_1 = some r) :
 Calls Try.prog 85 #[.agg #[.slice A0_0 l0_0.length c0_0, .int .i64 a0_1]] w fun e w' => e = .returned (.int .i64 r) ∧ Below w.heap.size w w' := by
 have hu51 := Try.underlying51; have HR0_0 := q0_1 hr0_0; have HC0_0 := q0_1 hc0_0; clear hr0_0 hc0_0; have HB := q0_1 (Below.refl w.heap.size w); (have H : (spec_PositionOf.l0 k 0 1 l0_0 a0_1) = some r := h); clear h; (have H' := q0_1 H); clear H; go_enter Try.func85, Try.ntmps85; (go_wp2_with (first | ((with_reducible refine gate_dst (N := 1) rfl ?_); refine box_event ?hg (N := 1) ?hd (cs := #[.slice A0_0 l0_0.length c0_0, .int .i64 a0_1]) (t := 51) ?hr ?_; (case hd => rfl); (case hg => rfl); (case hr => first | (go_simp; done) | (go_simp; rfl)); intro q7 hg w2 hbox hb; have n0_ := q0_1 (below_step (qe_1) hb); have n1_ := q0_1 (hbox); have n2_ := q0_1 ((by rw [hg]; exact (below_size (qe_1)) : w.heap.size ≤ q7)); have n3_ := q0_1 ((by rw [hg]; exact (below_size (qe_1)) : w.heap.size ≤ q7)); clear HB; have HB := n0_; have q3 := n1_; have GW121 := n2_; have qk := n3_; clear n0_ n1_ n2_ n3_; clear hb hbox hg))); (repeat (go_quiet (first | ((with_reducible refine gate_dst (N := 1) rfl ?_); refine box_event ?hg (N := 1) ?hd (cs := #[.slice A0_0 l0_0.length c0_0, .int .i64 a0_1]) (t := 51) ?hr ?_; (case hd => rfl); (case hg => rfl); (case hr => first | (go_simp; done) | (go_simp; rfl)); intro q7 hg w2 hbox hb; have n0_ := q0_1 (below_step (qe_1) hb); have n1_ := q0_1 (hbox); have n2_ := q0_1 ((by rw [hg]; exact (below_size (qe_1)) : w.heap.size ≤ q7)); have n3_ := q0_1 ((by rw [hg]; exact (below_size (qe_1)) : w.heap.size ≤ q7)); clear HB; have HB := n0_; have q3 := n1_; have GW121 := n2_; have qk := n3_; clear n0_ n1_ n2_ n3_; clear hb hbox hg)); try go_wp2_with (first | ((with_reducible refine gate_dst (N := 1) rfl ?_); refine box_event ?hg (N := 1) ?hd (cs := #[.slice A0_0 l0_0.length c0_0, .int .i64 a0_1]) (t := 51) ?hr ?_; (case hd => rfl); (case hg => rfl); (case hr => first | (go_simp; done) | (go_simp; rfl)); intro q7 hg w2 hbox hb; have n0_ := q0_1 (below_step (qe_1) hb); have n1_ := q0_1 (hbox); have n2_ := q0_1 ((by rw [hg]; exact (below_size (qe_1)) : w.heap.size ≤ q7)); have n3_ := q0_1 ((by rw [hg]; exact (below_size (qe_1)) : w.heap.size ≤ q7)); clear HB; have HB := n0_; have q3 := n1_; have GW121 := n2_; have qk := n3_; clear n0_ n1_ n2_ n3_; clear hb hbox hg)))); (go_loopg [3, 4] k (fun kq v3 v4 w' => ∃ (x3_1 : Int) (x4_1 : Int), v3 = .int .i64 x3_1 ∧ v4 = .int .i64 x4_1 ∧ Aside0 (spec_PositionOf.l0 kq x3_1 x4_1 l0_0 a0_1 = some r) ∧ Aside0 (kq ≤ k) ∧ Aside0 (w'.heap[q7]? = some (.cells #[(.slice A0_0 l0_0.length c0_0), .int .i64 a0_1] 51 (0, 0))) ∧ Aside0 (Below w.heap.size w w')))
 case atStart => exact ⟨(0), (1), (by first | rfl | (simp; done) | (simp [*]; done)), (by first | rfl | (simp; done) | (simp [*]; done)), H', ⟨Nat.le_refl _⟩, ⟨by refine ba ?_; exact q3.out⟩, ⟨by exact (qf_1)⟩⟩
 case round =>
  clear H'; (try clear p2); obtain ⟨x3_1, x4_1, rfl, rfl, HA, HK1, q3, HB⟩ := hrel
  cases gk with
  | zero => exact absurd HA.out (by simp [spec_PositionOf.l0])
  | succ k1 =>
   have H := HA.out; clear HA; (simp only [spec_PositionOf.l0] at H)
   by_cases c3 : x4_1 < (l0_0.length : Int)
   · rw [if_pos c3] at H
     (have c3b0 : decide (x4_1 < (l0_0.length : Int)) = true := decide_eq_true c3); clear c3
     by_cases c4 : 0 ≤ x4_1
     · rw [if_pos c4] at H
       (have c4b0 : decide (0 ≤ x4_1) = true := decide_eq_true c4); clear c4
       by_cases c5 : 0 ≤ x3_1
       · rw [if_pos c5] at H
         (have c5b0 : decide (0 ≤ x3_1) = true := decide_eq_true c5); clear c5
         by_cases c6 : x3_1 < (l0_0.length : Int)
         · rw [if_pos c6] at H
           (have c6b0 : decide (x3_1 < (l0_0.length : Int)) = true := decide_eq_true c6); clear c6
           by_cases c7 : (rd l0_0 x4_1) < (rd l0_0 x3_1)
           · rw [if_pos c7] at H
             (have c7b0 : decide ((rd l0_0 x4_1) < (rd l0_0 x3_1)) = true := decide_eq_true c7); clear c7; (have H' := q0_1 H); clear H; (have hcz8_0 : wr.cell? ⟨q7, 0, none⟩ = some (.slice A0_0 l0_0.length c0_0) := (blk_cell q3.out 0).trans rfl); (have hcz8_1 : wr.cell? ⟨q7, 1, none⟩ = some (.int .i64 a0_1) := (blk_cell q3.out 1).trans rfl); have hfz8_0 := blk_frozen q3.out 0; have hfz8_1 := blk_frozen q3.out 1; (have p122 : 0 ≤ (x4_1 : Int) := of_decide_eq_true (by first | (with_reducible assumption) | assumption)); (have q122 : x4_1 < (l0_0.length : Int) := of_decide_eq_true (by first | (with_reducible assumption) | assumption)); obtain ⟨ad122, e122, hx122_0⟩ := Kd.at_int HR0_0.out x4_1 p122 q122
             cases e122
             replace hx122_0 := (HB.out.cell (World.block_lt_of_cell? w _ hx122_0)).trans hx122_0; replace p122 := eq_true p122; replace q122 := eq_true q122; (have p123 : 0 ≤ (x3_1 : Int) := of_decide_eq_true (by first | (with_reducible assumption) | assumption)); (have q123 : x3_1 < (l0_0.length : Int) := of_decide_eq_true (by first | (with_reducible assumption) | assumption)); obtain ⟨ad123, e123, hx123_0⟩ := Kd.at_int HR0_0.out x3_1 p123 q123; obtain rfl : ad122 = ad123 := (by injection e123); replace hx123_0 := (HB.out.cell (World.block_lt_of_cell? w _ hx123_0)).trans hx123_0; replace p123 := eq_true p123; replace q123 := eq_true q123; (go_wp2); (repeat (go_quiet (fail); try go_wp2)); (go_roundg k1)
             case measure => have := HK1.out; omega
             case rel => exact ⟨(x4_1), (wrap64 (x4_1 + 1)), (by first | rfl | (simp; done) | (simp [*]; done)), (by first | rfl | (simp; done) | (simp [*]; done)), H', ⟨by have := HK1.out; omega⟩, ⟨by refine ba ?_; exact q3.out⟩, ⟨by exact (qf_1)⟩⟩
           · rw [if_neg c7] at H
             (have c7b0 : decide ((rd l0_0 x4_1) < (rd l0_0 x3_1)) = false := decide_eq_false c7); clear c7; (have H' := q0_1 H); clear H; (have hcz9_0 : wr.cell? ⟨q7, 0, none⟩ = some (.slice A0_0 l0_0.length c0_0) := (blk_cell q3.out 0).trans rfl); (have hcz9_1 : wr.cell? ⟨q7, 1, none⟩ = some (.int .i64 a0_1) := (blk_cell q3.out 1).trans rfl); have hfz9_0 := blk_frozen q3.out 0; have hfz9_1 := blk_frozen q3.out 1; (have p122 : 0 ≤ (x4_1 : Int) := of_decide_eq_true (by first | (with_reducible assumption) | assumption)); (have q122 : x4_1 < (l0_0.length : Int) := of_decide_eq_true (by first | (with_reducible assumption) | assumption)); obtain ⟨ad122, e122, hx122_0⟩ := Kd.at_int HR0_0.out x4_1 p122 q122
             cases e122
             replace hx122_0 := (HB.out.cell (World.block_lt_of_cell? w _ hx122_0)).trans hx122_0; replace p122 := eq_true p122; replace q122 := eq_true q122; (have p123 : 0 ≤ (x3_1 : Int) := of_decide_eq_true (by first | (with_reducible assumption) | assumption)); (have q123 : x3_1 < (l0_0.length : Int) := of_decide_eq_true (by first | (with_reducible assumption) | assumption)); obtain ⟨ad123, e123, hx123_0⟩ := Kd.at_int HR0_0.out x3_1 p123 q123; obtain rfl : ad122 = ad123 := (by injection e123); replace hx123_0 := (HB.out.cell (World.block_lt_of_cell? w _ hx123_0)).trans hx123_0; replace p123 := eq_true p123; replace q123 := eq_true q123; (go_wp2); (repeat (go_quiet (fail); try go_wp2)); (go_roundg k1)
             case measure => have := HK1.out; omega
             case rel => exact ⟨(x3_1), (wrap64 (x4_1 + 1)), (by first | rfl | (simp; done) | (simp [*]; done)), (by first | rfl | (simp; done) | (simp [*]; done)), H', ⟨by have := HK1.out; omega⟩, ⟨by refine ba ?_; exact q3.out⟩, ⟨by exact (qf_1)⟩⟩
         · rw [if_neg c6] at H
           exact absurd H (by simp)
       · rw [if_neg c5] at H
         exact absurd H (by simp)
     · rw [if_neg c4] at H
       exact absurd H (by simp)
   · rw [if_neg c3] at H
     (have c3b0 : decide (x4_1 < (l0_0.length : Int)) = false := decide_eq_false c3); clear c3; obtain rfl := Option.some.inj H; (have hcz10_0 : wr.cell? ⟨q7, 0, none⟩ = some (.slice A0_0 l0_0.length c0_0) := (blk_cell q3.out 0).trans rfl); (have hcz10_1 : wr.cell? ⟨q7, 1, none⟩ = some (.int .i64 a0_1) := (blk_cell q3.out 1).trans rfl); have hfz10_0 := blk_frozen q3.out 0; have hfz10_1 := blk_frozen q3.out 1; (go_wp2); (repeat (go_quiet (fail); try go_wp2)); go_ret; (exact ⟨by first | rfl | (simp [errW_none, errW_some] <;> rfl) | (simp [*, errW_none, errW_some] <;> rfl), by exact (qf_1)⟩)
/-! ### spec_Min: function 86 -/
def spec_Min.f (a0 : Int) (a1 : Int) : Option (Int) := if a1 < a0 then (some a1) else (some a0)
set_option maxHeartbeats 8000000 in
set_option maxRecDepth 100000 in
theorem spec_Min.calls (a0 : Int) (a1 : Int) (r : Int) (w : World) (h : spec_Min.f a0 a1 = some r) :
 Calls Try.prog 86 #[.int .i64 a0, .int .i64 a1] w fun e w' => e = .returned (.int .i64 r) ∧ Drawn0 w w' := by
 (have H : (if a1 < a0 then (some a1) else (some a0)) = some r := h); clear h
 by_cases c3 : a1 < a0
 · rw [if_pos c3] at H
   (have c3b0 : decide (a1 < a0) = true := decide_eq_true c3); clear c3; obtain rfl := Option.some.inj H; go_enter Try.func86, Try.ntmps86; (go_wp2); go_ret; exact ⟨by first | rfl | (simp; done) | (simp [*]; done), by repeat (first | exact Drawn0.refl _ | apply Drawn0.step)⟩
 · rw [if_neg c3] at H
   (have c3b0 : decide (a1 < a0) = false := decide_eq_false c3); clear c3; obtain rfl := Option.some.inj H; go_enter Try.func86, Try.ntmps86; (go_wp2); go_ret; exact ⟨by first | rfl | (simp; done) | (simp [*]; done), by repeat (first | exact Drawn0.refl _ | apply Drawn0.step)⟩
end Go.Proofs.Ytlkcbmcbmanmiaa.PFnExactSamePlace
