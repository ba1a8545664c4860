-- Written for this claim by a program of this repository (wip/tools/print2.py), out of the translation; Lean checks it.
import Derived.Test.YtcgkmcnfhobkiaaPFnAlignedx0
import Derived.Test.YtcgkmcnfhobkiaaPFnAlignedx1
namespace Go.Proofs.Ytcgkmcnfhobkiaa.PFnAligned
open Go.RowKit Go.Proofs.YtcgkmcnfhobkiaaW.PrintWords Go.Proofs.YtcgkmcnfhobkiaaW.PrintLast Go.Proofs.YtcgkmcnfhobkiaaW.PrintMore
attribute [local go_sem] max2_int min2_int max_two min_two max_three min_three max_four min_four   -- for this text's walks alone
set_option linter.unusedVariables false
set_option linter.unusedSimpArgs false
-- SHORT
theorem q6_2 {p : Prop} (f : p := by repeat (first | (with_reducible first | exact HB.out | apply below_alloc | apply pw_below_drewN | apply below_drew1) | exact HB.out)) : p := f
theorem qc_2 {p : Prop} (f : p := by repeat (first | (with_reducible first | exact HB.out | apply below_alloc | apply pw_below_drewN | apply below_drew1 | refine below_set ?_ q8.out) | exact HB.out)) : p := f
theorem qd_2 {p : Prop} (f : p := by repeat (first | (with_reducible first | exact HB.out | apply below_alloc | apply pw_below_drewN | apply below_drew1 | refine below_set ?_ qa.out) | exact HB.out)) : p := f
theorem gz0_2 {p : Prop} (f : p := by repeat (first | (with_reducible first | exact HI0.out | apply IsS103.alloc | apply IsS103.drewN | apply IsS103.drew | apply IsS103.set_1 | apply IsS103.set_2) | exact HI0.out)) : p := f
theorem gz1_2 {p : Prop} (f : p := by repeat (first | (with_reducible first | exact HB.out | apply below_alloc | apply pw_below_drewN | apply below_drew1 | refine below_set ?_ (IsS103.ge HI0.out)) | exact HB.out)) : p := f
theorem gz4_2 {p : Prop} (f : p := by repeat (first | (with_reducible first | exact HK.out | apply KeepBut.set_ | apply keep_drewN | apply keep_drew | apply keep_alloc) | exact HK.out)) : p := f
theorem gz5_2 {p : Prop} (f : p := by repeat (first | (with_reducible first | exact HBW.out | apply below_alloc | apply pw_below_drewN | apply below_drew1) | exact HBW.out)) : p := f
theorem q0_2 {p : Prop} (h : p) : Aside0 p := ⟨h⟩
/-! ### impl_AlignCost: function 11 -/
def impl_AlignCost.f (k : Nat) (l0 : List Int) (l1 : List Int) : Option (Int) := if (l0.length : Int) > 40 then (some (-1)) else (if (l1.length : Int) > 40 then (some (-1)) else ((impl_costs.f k l0 l1).bind fun t121 => (if 0 ≤ (l0.length : Int) then (if (l0.length : Int) < (t121.length : Int) then (if 0 ≤ (l1.length : Int) then (if (l1.length : Int) < ((rd_L2 t121 (l0.length : Int)).length : Int) then (some (rd (rd_L2 t121 (l0.length : Int)) (l1.length : Int))) else (none)) else (none)) else (none)) else (none))))
theorem impl_AlignCost.mono : ∀ a0 a1 k, LeO (impl_AlignCost.f k a0 a1) (impl_AlignCost.f (k + 1) a0 a1) := by
 intro a0 a1 k; unfold impl_AlignCost.f; (repeat' (with_reducible first | exact impl_costs.mono _ _ _ | exact LeO.refl _ | exact LeO.none _ | refine LeO.ite ?_ ?_ | refine LeO.bind ?_ (fun _ => ?_)))
set_option maxHeartbeats 8000000 in
set_option maxRecDepth 100000 in
theorem impl_AlignCost.calls (k : Nat) (A0 : Option Addr) (c0 : Nat) (l0 : List Int) (A1 : Option Addr) (c1 : Nat) (l1 : List Int) (r : Int) (w : World) (hr0 : Kd.C (Kd.int .i64) w A0 l0.length l0) (hc0 : l0.length ≤ c0) (hr1 : Kd.C (Kd.int .i64) w A1 l1.length l1) (hc1 : l1.length ≤ c1) (h : impl_AlignCost.f k l0 l1 = some r) :
 Calls Try.prog 11 #[.slice A0 l0.length c0, .slice A1 l1.length c1] w fun e w' => e = .returned (.int .i64 r) ∧ Below w.heap.size w w' := by
 have HR0 := q0_2 hr0; have HC0 := q0_2 hc0; clear hr0 hc0; have HR1 := q0_2 hr1; have HC1 := q0_2 hc1; clear hr1 hc1; have HB := q0_2 (Below.refl w.heap.size w); (have H : (if (l0.length : Int) > 40 then (some (-1)) else (if (l1.length : Int) > 40 then (some (-1)) else ((impl_costs.f k l0 l1).bind fun t121 => (if 0 ≤ (l0.length : Int) then (if (l0.length : Int) < (t121.length : Int) then (if 0 ≤ (l1.length : Int) then (if (l1.length : Int) < ((rd_L2 t121 (l0.length : Int)).length : Int) then (some (rd (rd_L2 t121 (l0.length : Int)) (l1.length : Int))) else (none)) else (none)) else (none)) else (none))))) = some r := h); clear h
 by_cases c3 : (l0.length : Int) > 40
 · rw [if_pos c3] at H
   (have c3b0 : decide (40 < (l0.length : Int)) = true := decide_eq_true c3); (have c3b1 : decide (40 < l0.length) = true := decide_eq_true (by omega)); clear c3; obtain rfl := Option.some.inj H; go_enter Try.func11, Try.ntmps11; (go_wp2); go_ret; (exact ⟨by first | rfl | (simp [errW_none, errW_some] <;> rfl) | (simp [*, errW_none, errW_some] <;> rfl), by exact (q6_2)⟩)
 · rw [if_neg c3] at H
   (have c3b0 : decide (40 < (l0.length : Int)) = false := decide_eq_false c3); (have c3b1 : decide (40 < l0.length) = false := decide_eq_false (by omega)); clear c3
   by_cases c4 : (l1.length : Int) > 40
   · rw [if_pos c4] at H
     (have c4b0 : decide (40 < (l1.length : Int)) = true := decide_eq_true c4); (have c4b1 : decide (40 < l1.length) = true := decide_eq_true (by omega)); clear c4; obtain rfl := Option.some.inj H; go_enter Try.func11, Try.ntmps11; (go_wp2); go_ret; (exact ⟨by first | rfl | (simp [errW_none, errW_some] <;> rfl) | (simp [*, errW_none, errW_some] <;> rfl), by exact (q6_2)⟩)
   · rw [if_neg c4] at H
     (have c4b0 : decide (40 < (l1.length : Int)) = false := decide_eq_false c4); (have c4b1 : decide (40 < l1.length) = false := decide_eq_false (by omega)); clear c4; replace H := Option.bind_eq_some_iff.mp H; obtain ⟨t121, A50, H⟩ := H; (try dsimp only at H); have A5 := q0_2 A50; clear A50
     by_cases c6 : 0 ≤ (l0.length : Int)
     · rw [if_pos c6] at H
       (have c6b0 : decide (0 ≤ (l0.length : Int)) = true := decide_eq_true c6); (have c6b1 : decide (0 ≤ l0.length) = true := decide_eq_true (by omega)); clear c6
       by_cases c7 : (l0.length : Int) < (t121.length : Int)
       · rw [if_pos c7] at H
         (have c7b0 : decide ((l0.length : Int) < (t121.length : Int)) = true := decide_eq_true c7); (have c7b1 : decide (l0.length < t121.length) = true := decide_eq_true (Int.ofNat_lt.mp c7)); clear c7
         by_cases c8 : 0 ≤ (l1.length : Int)
         · rw [if_pos c8] at H
           (have c8b0 : decide (0 ≤ (l1.length : Int)) = true := decide_eq_true c8); (have c8b1 : decide (0 ≤ l1.length) = true := decide_eq_true (by omega)); clear c8
           by_cases c9 : (l1.length : Int) < ((rd_L2 t121 (l0.length : Int)).length : Int)
           · rw [if_pos c9] at H
             (have c9b0 : decide ((l1.length : Int) < ((rd_L2 t121 (l0.length : Int)).length : Int)) = true := decide_eq_true c9); (have c9b1 : decide (l1.length < (rd_L2 t121 (l0.length : Int)).length) = true := decide_eq_true (Int.ofNat_lt.mp c9)); clear c9; obtain rfl := Option.some.inj H; go_enter Try.func11, Try.ntmps11; (go_wp2_with (first | ((with_reducible refine gate_callee (f := 43) rfl ?_); refine goesL_ (some 15) rfl rfl Try.func43 (by kernel_rfl) rfl #[.slice A0 l0.length c0, .slice A1 l1.length c1] rfl ma ?_; (with_reducible refine (impl_costs.calls k _ _ l0 _ _ l1 t121 _ ?side1 ?side2 ?side3 ?side4 A5.out).mono ?_); (case side1 => repeat (first | exact HR0.out | (with_reducible refine Kd.C_alloc ?_ _) | (with_reducible refine Kd.C_drewN ?_ _) | (with_reducible refine Kd.C_drew ?_))); (case side2 => exact HC0.out); (case side3 => repeat (first | exact HR1.out | (with_reducible refine Kd.C_alloc ?_ _) | (with_reducible refine Kd.C_drewN ?_ _) | (with_reducible refine Kd.C_drew ?_))); (case side4 => exact HC1.out); rintro e w10 ⟨v122, rfl, ho0, hb⟩; refine ⟨_, rfl, ?_⟩; have q2 := q0_2 (Kd.S_lower ho0 (below_size (q6_2))); replace HB := q0_2 (below_step (q6_2) hb); (try clear hb); (try clear hb2); (try clear hk); (try clear hi); (try clear ho0); obtain ⟨qe, qf, eo11⟩ := Kd.S_slice q2.out; subst eo11; have p124 : 0 ≤ ((l0.length : Int) : Int) := od; have q124 : (l0.length : Int) < (t121.length : Int) := od; obtain ⟨ad124, A124_0, c124_0, e124, hx124_0, hl124_0, hi124_0⟩ := at_L2 (Kd.S_reads' q2.out).2.2 (l0.length : Int) p124 q124; cases e124; obtain ⟨ce124, hce124, hMe124, hcc124⟩ := Kd.S_get q2.out [] (l0.length : Int) p124 (by first | exact q124 | exact od | (have e_ := (Kd.S_reads' q2.out).1; omega)); obtain ⟨ve124_0, rfl, ge124_0⟩ := hMe124; have hv124_0 := hcc124 0 _ rfl; rw [Nat.add_zero, show ((Kd.slice 3 (Kd.int .i64))).sz = 1 from rfl, Nat.mul_one] at hv124_0; replace hv124_0 := Option.some.inj (hv124_0.symm.trans hx124_0); rw [hv124_0] at ge124_0; have HL124_0 := q0_2 (show Kd.R (Kd.int .i64) 3 _ _ _ _ (rd_L2 t121 (l0.length : Int)) from ge124_0); clear hv124_0 ge124_0; clear hcc124 hce124; have HR124_0 := q0_2 hi124_0; have HC124_0 := q0_2 hl124_0; clear hi124_0 hl124_0; (try simp only [Go.IntWalk.toNatUp] at hx124_0); replace p124 := eq_true p124; replace q124 := eq_true q124; have p125 : 0 ≤ ((l1.length : Int) : Int) := od; have q125 : (l1.length : Int) < ((rd_L2 t121 (l0.length : Int)).length : Int) := od; obtain ⟨ad125, e125, hx125_0⟩ := Kd.at_int (by repeat (first | (with_reducible exact HR124_0.out) | (with_reducible refine Kd.C_alloc ?_ _) | (with_reducible refine Kd.C_drewN ?_ _) | (with_reducible refine Kd.C_drew ?_) | exact HR124_0.out)) (l1.length : Int) p125 q125; cases e125; (try simp only [Go.IntWalk.toNatUp] at hx125_0); replace p125 := eq_true p125; replace q125 := eq_true q125))); go_ret
             (exact ⟨by first | rfl | (simp [errW_none, errW_some] <;> rfl) | (simp [*, errW_none, errW_some] <;> rfl), by exact (q6_2)⟩)
           · rw [if_neg c9] at H
             exact absurd H (by simp)
         · rw [if_neg c8] at H
           exact absurd H (by simp)
       · rw [if_neg c7] at H
         exact absurd H (by simp)
     · rw [if_neg c6] at H
       exact absurd H (by simp)
/-- A state of type 103 at block g of W; what its slices lead to came in by w0. -/
def IsS103 (w0 W : World) (g : Nat) (f0 : List Int) (f1 : Int) (f2 : Int) : Prop := ∃ A0 c0, W.heap[g]? = some (.cells #[.slice A0 f0.length c0, .int .i64 f1, .int .i64 f2] 103 (0, 0)) ∧ w0.heap.size ≤ g ∧ Kd.C (Kd.int .u8) w0 A0 f0.length f0
theorem IsS103.grown {w0 W : World} {g : Nat} {f0 : List Int} {f1 : Int} {f2 : Int} {W1 : World} {row : Option Nat} (h : IsS103 w0 W g f0 f1 f2) (hw : W.grownBy W1 row) (hne : some g ≠ row) : IsS103 w0 W1 g f0 f1 f2 := by
 obtain ⟨A0, c0, hb, hg, hr0⟩ := h; exact ⟨A0, c0, blk_grown hb hw hne, hg, hr0⟩
theorem IsS103.own_neN {w0 W : World} {g : Nat} {f0 : List Int} {f1 : Int} {f2 : Int} {α : Type} {d : Kd α} {e : Nat} {base : Nat} {ok : Nat → Prop} {v : Value} {xs : List α} (h : IsS103 w0 W g f0 f1 f2) (ho : Kd.N d e W base ok v xs) (ht : e ≠ 103) : some g ≠ v.ownBlock := by
 obtain ⟨A0, c0, hb, hg, hr0⟩ := h; exact Kd.N_ne ho hb ht
theorem IsS103.fresh {w0 W : World} {g : Nat} {f0 : List Int} {f1 : Int} {f2 : Int} (h : IsS103 w0 W g f0 f1 f2) : ∀ k, W.heap.size ≤ k → k ≠ g := by
 obtain ⟨A0, c0, hb, hg, hr0⟩ := h; exact Kd.freshB hb
theorem IsS103.kept {w0 W : World} {g : Nat} {f0 : List Int} {f1 : Int} {f2 : Int} {W1 : World} {S : Nat → Prop} (h : IsS103 w0 W g f0 f1 f2) (hk : Kept W W1 S) (hne : ¬ S g) : IsS103 w0 W1 g f0 f1 f2 := by
 obtain ⟨A0, c0, hb, hg, hr0⟩ := h; exact ⟨A0, c0, blk_kept hb hk hne, hg, hr0⟩
theorem IsS103.below {w0 W : World} {g : Nat} {f0 : List Int} {f1 : Int} {f2 : Int} {W1 : World} (h : IsS103 w0 W g f0 f1 f2) (hw : Below W.heap.size W W1) : IsS103 w0 W1 g f0 f1 f2 := h.grown (grown_of_below hw none) (by simp)
theorem IsS103.alloc {w0 W : World} {g : Nat} {f0 : List Int} {f1 : Int} {f2 : Int} (h : IsS103 w0 W g f0 f1 f2) (o : Obj) : IsS103 w0 (W.alloc o) g f0 f1 f2 := h.below (below_alloc (Below.refl _ _) o)
theorem IsS103.drewN {w0 W : World} {g : Nat} {f0 : List Int} {f1 : Int} {f2 : Int} (h : IsS103 w0 W g f0 f1 f2) (m : Nat) : IsS103 w0 (W.drewN m) g f0 f1 f2 := h
theorem IsS103.drew {w0 W : World} {g : Nat} {f0 : List Int} {f1 : Int} {f2 : Int} (h : IsS103 w0 W g f0 f1 f2) : IsS103 w0 W.drew g f0 f1 f2 := h
theorem IsS103.at_ {w0 W : World} {g : Nat} {f0 : List Int} {f1 : Int} {f2 : Int} {w' : World} {m : Nat} (hq : W.drewN m = w') (h : IsS103 w0 W g f0 f1 f2) : IsS103 w0 w' g f0 f1 f2 := by subst hq; exact IsS103.drewN h m
theorem IsS103.apart {w0 W : World} {g : Nat} {f0 : List Int} {f1 : Int} {f2 : Int} {α : Type} {d : Kd α} {e : Nat} {base : Nat} {ok : Nat → Prop} {v : Value} {xs : List α} (h : IsS103 w0 W g f0 f1 f2) (ho : d.R e W base ok v xs) (ht : ∀ q, q ∈ e :: d.E → q ≠ 103) : d.R e W base (fun k => ok k ∧ k ≠ g) v xs := by
 obtain ⟨A0, c0, hb, hg, hr0⟩ := h; exact Kd.R_types ho hb ht
theorem IsS103.own_ne {w0 W : World} {g : Nat} {f0 : List Int} {f1 : Int} {f2 : Int} {α : Type} {d : Kd α} {e : Nat} {base : Nat} {ok : Nat → Prop} {v : Value} {xs : List α} (h : IsS103 w0 W g f0 f1 f2) (ho : d.R e W base ok v xs) (ht : e ≠ 103) : some g ≠ v.ownBlock := by
 obtain ⟨A0, c0, hb, hg, hr0⟩ := h; exact Kd.R_ne ho hb ht
theorem IsS103.apartQ {w0 W : World} {g : Nat} {f0 : List Int} {f1 : Int} {f2 : Int} {α : Type} {d : Kd α} {e : Nat} {base : Nat} {ok : Nat → Prop} {v : Value} {xs : List α} (h : IsS103 w0 W g f0 f1 f2) (ho : d.Q e W base ok v xs) (ht : ∀ q, q ∈ e :: d.E → q ≠ 103) : d.Q e W base (fun k => ok k ∧ k ≠ g) v xs := by
 obtain ⟨A0, c0, hb, hg, hr0⟩ := h; exact Kd.Q_types ho hb ht
theorem IsS103.own_neQ {w0 W : World} {g : Nat} {f0 : List Int} {f1 : Int} {f2 : Int} {α : Type} {d : Kd α} {e : Nat} {base : Nat} {ok : Nat → Prop} {v : Value} {xs : List α} (h : IsS103 w0 W g f0 f1 f2) (ho : d.Q e W base ok v xs) (ht : e ≠ 103) : some g ≠ v.ownBlock := by
 obtain ⟨A0, c0, hb, hg, hr0⟩ := h; exact Kd.Q_ne ho hb ht
theorem IsS103.apartS {w0 W : World} {g : Nat} {f0 : List Int} {f1 : Int} {f2 : Int} {α : Type} {d : Kd α} {e : Nat} {base : Nat} {ok : Nat → Prop} {v : Value} {xs : List α} (h : IsS103 w0 W g f0 f1 f2) (ho : d.S e W base ok v xs) (ht : ∀ q, q ∈ e :: d.E → q ≠ 103) : d.S e W base (fun k => ok k ∧ k ≠ g) v xs := by
 obtain ⟨A0, c0, hb, hg, hr0⟩ := h; exact Kd.S_types ho hb ht
theorem IsS103.own_neS {w0 W : World} {g : Nat} {f0 : List Int} {f1 : Int} {f2 : Int} {α : Type} {d : Kd α} {e : Nat} {base : Nat} {ok : Nat → Prop} {v : Value} {xs : List α} (h : IsS103 w0 W g f0 f1 f2) (ho : d.S e W base ok v xs) (ht : e ≠ 103) : some g ≠ v.ownBlock := by
 obtain ⟨A0, c0, hb, hg, hr0⟩ := h; exact Kd.S_ne ho hb ht
theorem IsS103.lt {w0 W : World} {g : Nat} {f0 : List Int} {f1 : Int} {f2 : Int} (h : IsS103 w0 W g f0 f1 f2) : g < W.heap.size := by
 obtain ⟨A0, c0, hb, hg, hr0⟩ := h; exact blk_lt hb
theorem IsS103.ge {w0 W : World} {g : Nat} {f0 : List Int} {f1 : Int} {f2 : Int} (h : IsS103 w0 W g f0 f1 f2) : w0.heap.size ≤ g := by
 obtain ⟨A0, c0, hb, hg, hr0⟩ := h; exact hg
theorem IsS103.ne_blk {w0 W : World} {g : Nat} {f0 : List Int} {f1 : Int} {f2 : Int} {a : Nat} {cs : Array Value} {t : TypeId} {fr : Nat × Nat} (h : IsS103 w0 W g f0 f1 f2) (hb2 : W.heap[a]? = some (.cells cs t fr)) (ht : t ≠ 103) : g ≠ a := by
 obtain ⟨A0, c0, hb, hg, hr0⟩ := h; rintro rfl; rw [hb] at hb2; (injection hb2 with hb2); (injection hb2 with _ ht2); exact ht ht2.symm
theorem IsS103.far {w0 W : World} {g : Nat} {f0 : List Int} {f1 : Int} {f2 : Int} {p : Addr} (h : IsS103 w0 W g f0 f1 f2) (hne : g ≠ p.block) (u : Value) : IsS103 w0 (W.setCell p u) g f0 f1 f2 := by
 obtain ⟨A0, c0, hb, hg, hr0⟩ := h; exact ⟨A0, c0, blk_far hb hne u, hg, hr0⟩
theorem cellS103_0 {W : World} {g : Nat} {A0 : Option Addr} {c0 : Nat} {f0 : List Int} {f1 : Int} {f2 : Int} (h : W.heap[g]? = some (.cells #[.slice A0 f0.length c0, .int .i64 f1, .int .i64 f2] 103 (0, 0))) : W.cell? ⟨g, 0, none⟩ = some (.slice A0 f0.length c0) := (blk_cell h 0).trans rfl
theorem cellS103_1 {W : World} {g : Nat} {A0 : Option Addr} {c0 : Nat} {f0 : List Int} {f1 : Int} {f2 : Int} (h : W.heap[g]? = some (.cells #[.slice A0 f0.length c0, .int .i64 f1, .int .i64 f2] 103 (0, 0))) : W.cell? ⟨g, 1, none⟩ = some (.int .i64 f1) := (blk_cell h 1).trans rfl
theorem IsS103.set_1 {w0 W : World} {g : Nat} {f0 : List Int} {f1 : Int} {f2 : Int} (h : IsS103 w0 W g f0 f1 f2) (x : Int) : IsS103 w0 (W.setCell ⟨g, 1, none⟩ (.int .i64 x)) g f0 x f2 := by
 obtain ⟨A0, c0, hb, hg, hr0⟩ := h; exact ⟨A0, c0, by simpa using blk_set hb 1 (.int .i64 x), hg, hr0⟩
theorem cellS103_2 {W : World} {g : Nat} {A0 : Option Addr} {c0 : Nat} {f0 : List Int} {f1 : Int} {f2 : Int} (h : W.heap[g]? = some (.cells #[.slice A0 f0.length c0, .int .i64 f1, .int .i64 f2] 103 (0, 0))) : W.cell? ⟨g, 2, none⟩ = some (.int .i64 f2) := (blk_cell h 2).trans rfl
theorem IsS103.set_2 {w0 W : World} {g : Nat} {f0 : List Int} {f1 : Int} {f2 : Int} (h : IsS103 w0 W g f0 f1 f2) (x : Int) : IsS103 w0 (W.setCell ⟨g, 2, none⟩ (.int .i64 x)) g f0 f1 x := by
 obtain ⟨A0, c0, hb, hg, hr0⟩ := h; exact ⟨A0, c0, by simpa using blk_set hb 2 (.int .i64 x), hg, hr0⟩
theorem IsS103.new (w0 W : World) (A0 : Option Addr) (c0 : Nat) (f0 : List Int) (f1 : Int) (f2 : Int) (hB : Below w0.heap.size w0 W) (hr0 : Kd.C (Kd.int .u8) w0 A0 f0.length f0) : IsS103 w0 (W.alloc (.cells #[.slice A0 f0.length c0, .int .i64 f1, .int .i64 f2] 103)) W.heap.size f0 f1 f2 := ⟨A0, c0, by simpa using heap_alloc_new W _, hB.size, hr0⟩
/-! ### spec_l1New: function 35 -/
def spec_l1New.l0 : Nat → List Int → Int → Int → Option (List Int × Int × Int)
 | 0, _, _, _ => none
 | k + 1, x0, x3, x4 => if x4 < (x0.length : Int) then (if x4 < 4000 then (if 0 ≤ x4 then (spec_l1New.l0 k x0 (Go.bits .and .i64 (wrap64 ((wrap64 ((wrap64 (x3 * 137)) + (wrap64 (rd x0 x4)))) + 11)) 1073741823) (wrap64 (x4 + 1))) else (none)) else (some (x0, 0, x3))) else (some (x0, 0, x3))
def spec_l1New.f (k : Nat) (l0 : List Int) : Option (List Int × Int × Int) := spec_l1New.l0 k l0 (wrap64 (193017 + (l0.length : Int))) 0
theorem spec_l1New.mono_l : ∀ k, (∀ y0 y1 y2, LeO (spec_l1New.l0 k y0 y1 y2) (spec_l1New.l0 (k + 1) y0 y1 y2))
 | 0 => fun _ _ _ r h => by simp [spec_l1New.l0] at h
 | k + 1 => by
  have ih0 := spec_l1New.mono_l k; (intro y0 y1 y2; unfold spec_l1New.l0; (repeat' (with_reducible first | exact ih0 _ _ _ | exact LeO.refl _ | exact LeO.none _ | refine LeO.ite ?_ ?_ | refine LeO.bind ?_ (fun _ => ?_))))
theorem spec_l1New.mono : ∀ a0 k, LeO (spec_l1New.f k a0) (spec_l1New.f (k + 1) a0) := by
 intro a0 k; have ih0 := spec_l1New.mono_l k; unfold spec_l1New.f; (repeat' (with_reducible first | exact ih0 _ _ _ | exact LeO.refl _ | exact LeO.none _ | refine LeO.ite ?_ ?_ | refine LeO.bind ?_ (fun _ => ?_)))
set_option maxHeartbeats 8000000 in
set_option maxRecDepth 100000 in
theorem spec_l1New.calls (k : Nat) (A0 : Option Addr) (c0 : Nat) (l0 : List Int) (r1 : List Int) (r2 : Int) (r3 : Int) (w0 w : World) (hB : Below w0.heap.size w0 w) (hr0 : Kd.C (Kd.int .u8) w0 A0 l0.length l0) (hc0 : l0.length ≤ c0) (h : spec_l1New.f k l0 = some (r1, r2, r3)) :
 Calls Try.prog 35 #[.slice A0 l0.length c0] w fun e w' => ∃ g_ : Nat, e = .returned (.pointer (some ⟨g_, 0, none⟩)) ∧ IsS103 w0 w' g_ r1 r2 r3 ∧ Below w0.heap.size w0 w' ∧ Below w.heap.size w w' := by
 have hu103 := Try.underlying103; have HR0 := q0_2 hr0; have HC0 := q0_2 hc0; clear hr0 hc0; have HBW := q0_2 (Below.refl w.heap.size w); have HW0 := q0_2 hB.size; have HB := q0_2 hB; clear hB; (have H : (spec_l1New.l0 k l0 (wrap64 (193017 + (l0.length : Int))) 0) = some (r1, r2, r3) := h); clear h; (have H' := q0_2 H); clear H; go_enter Try.func35, Try.ntmps35; (go_wp2); (go_loopg [3, 4] k (fun kq v3 v4 w' => ∃ (x3_1 : Int) (x4_1 : Int), v3 = .int .i64 x3_1 ∧ v4 = .int .i64 x4_1 ∧ Aside0 (spec_l1New.l0 kq l0 x3_1 x4_1 = some (r1, r2, r3)) ∧ Aside0 (kq ≤ k) ∧ Aside0 (Below w0.heap.size w0 w') ∧ Aside0 (Below w.heap.size w w')))
 case atStart => exact ⟨(wrap64 (193017 + (l0.length : Int))), (0), (by first | rfl | (simp; done) | (simp [*]; done)), (by first | rfl | (simp; done) | (simp [*]; done)), H', ⟨Nat.le_refl _⟩, ⟨by exact (q6_2)⟩, ⟨gz5_2⟩⟩
 case round =>
  clear H'; obtain ⟨x3_1, x4_1, rfl, rfl, HA, HK1, HB, HBW⟩ := hrel
  cases gk with
  | zero => exact absurd HA.out (by simp [spec_l1New.l0])
  | succ k1 =>
   have H := HA.out; clear HA; (simp only [spec_l1New.l0] at H)
   by_cases c2 : x4_1 < (l0.length : Int)
   · rw [if_pos c2] at H
     (have c2b0 : decide (x4_1 < (l0.length : Int)) = true := decide_eq_true c2); clear c2
     by_cases c3 : x4_1 < 4000
     · rw [if_pos c3] at H
       (have c3b0 : decide (x4_1 < 4000) = true := decide_eq_true c3); clear c3
       by_cases c4 : 0 ≤ x4_1
       · rw [if_pos c4] at H
         (have c4b0 : decide (0 ≤ x4_1) = true := decide_eq_true c4); clear c4; (have H' := q0_2 H); clear H; (have p126 : 0 ≤ (x4_1 : Int) := od); (have q126 : x4_1 < (l0.length : Int) := od); obtain ⟨ad126, e126, hx126_0⟩ := Kd.at_int HR0.out x4_1 p126 q126
         cases e126
         replace hx126_0 := pw_cell_below HB.out hx126_0; replace p126 := eq_true p126; replace q126 := eq_true q126; (go_wp2); (go_roundg k1)
         case measure => have := HK1.out; omega
         case rel => exact ⟨(Go.bits .and .i64 (wrap64 ((wrap64 ((wrap64 (x3_1 * 137)) + (wrap64 (rd l0 x4_1)))) + 11)) 1073741823), (wrap64 (x4_1 + 1)), (by first | rfl | (simp; done) | (simp [*]; done)), (by first | rfl | (simp; done) | (simp [*]; done)), H', ⟨by have := HK1.out; omega⟩, ⟨by exact (q6_2)⟩, ⟨gz5_2⟩⟩
       · rw [if_neg c4] at H
         exact absurd H (by simp)
     · rw [if_neg c3] at H
       (have c3b0 : decide (x4_1 < 4000) = false := decide_eq_false c3); clear c3; (simp only [Option.some.injEq, Prod.mk.injEq] at H); obtain ⟨rfl, rfl, rfl⟩ := H; (go_wp2_with (first | ((with_reducible refine gate_dst (N := 31) rfl ?_); refine bx 31 #[.slice A0 l0.length c0, .int .i64 0, .int .i64 x3_1] 103 ?_; intro q3 hg w5 hbox hb; replace HB := q0_2 (below_step (q6_2) hb); have q7 := q0_2 (hbox); have GW127 := q0_2 ((by rw [hg]; exact (below_size gz5_2) : w.heap.size ≤ q3)); have q8 := q0_2 ((Nat.le_trans HW0.out (by rw [hg]; exact (below_size gz5_2) : w.heap.size ≤ q3) : w0.heap.size ≤ q3)); replace HBW := q0_2 (below_step HBW.out hb); clear hb hbox hg))); go_ret; exact ⟨_, rfl, (show IsS103 w0 _ q3 l0 0 x3_1 from ⟨_, _, by refine ba ?_; exact q7.out, q8.out, HR0.out⟩), by exact (qc_2), by repeat (first | (with_reducible first | exact HBW.out | apply below_alloc | apply pw_below_drewN | apply below_drew1 | refine below_set ?_ GW127.out) | exact HBW.out)⟩
   · rw [if_neg c2] at H
     (have c2b0 : decide (x4_1 < (l0.length : Int)) = false := decide_eq_false c2); clear c2; (simp only [Option.some.injEq, Prod.mk.injEq] at H); obtain ⟨rfl, rfl, rfl⟩ := H; (go_wp2_with (first | ((with_reducible refine gate_dst (N := 31) rfl ?_); refine bx 31 #[.slice A0 l0.length c0, .int .i64 0, .int .i64 x3_1] 103 ?_; intro q4 hg w6 hbox hb; replace HB := q0_2 (below_step (q6_2) hb); have q9 := q0_2 (hbox); have GW128 := q0_2 ((by rw [hg]; exact (below_size gz5_2) : w.heap.size ≤ q4)); have qa := q0_2 ((Nat.le_trans HW0.out (by rw [hg]; exact (below_size gz5_2) : w.heap.size ≤ q4) : w0.heap.size ≤ q4)); replace HBW := q0_2 (below_step HBW.out hb); clear hb hbox hg))); go_ret; exact ⟨_, rfl, (show IsS103 w0 _ q4 l0 0 x3_1 from ⟨_, _, by refine ba ?_; exact q9.out, qa.out, HR0.out⟩), by exact (qd_2), by repeat (first | (with_reducible first | exact HBW.out | apply below_alloc | apply pw_below_drewN | apply below_drew1 | refine below_set ?_ GW128.out) | exact HBW.out)⟩
/-! ### spec_l1Byte: function 68 -/
def spec_l1Byte.f (s0_0 : List Int) (s0_1 : Int) (s0_2 : Int) : Option (Int × Int × Int) := if s0_1 < (s0_0.length : Int) then (if 0 ≤ s0_1 then (some (Go.bits .and .i64 (wrap64 ((Go.bits .and .i64 (Go.bits .xor .i64 ((wrap64 ((wrap64 (s0_2 * 6364136223846793005)) + 1442695040888963407)) / 8589934592) ((wrap64 ((wrap64 (s0_2 * 6364136223846793005)) + 1442695040888963407)) / 140737488355328)) 255) + (wrap64 (rd s0_0 s0_1)))) 255, wrap64 (s0_1 + 1), wrap64 ((wrap64 (s0_2 * 6364136223846793005)) + 1442695040888963407))) else (none)) else (some (Go.bits .and .i64 (Go.bits .xor .i64 ((wrap64 ((wrap64 (s0_2 * 6364136223846793005)) + 1442695040888963407)) / 8589934592) ((wrap64 ((wrap64 (s0_2 * 6364136223846793005)) + 1442695040888963407)) / 140737488355328)) 255, s0_1, wrap64 ((wrap64 (s0_2 * 6364136223846793005)) + 1442695040888963407)))
set_option maxHeartbeats 8000000 in
set_option maxRecDepth 100000 in
theorem spec_l1Byte.calls (g : Nat) (s0_0 : List Int) (s0_1 : Int) (s0_2 : Int) (r1 : Int) (r2 : Int) (r3 : Int) (w0 w : World) (hI : IsS103 w0 w g s0_0 s0_1 s0_2) (hB : Below w0.heap.size w0 w) (h : spec_l1Byte.f s0_0 s0_1 s0_2 = some (r1, r2, r3)) :
 Calls Try.prog 68 #[.pointer (some ⟨g, 0, none⟩)] w fun e w' => e = .returned (.int .i64 r1) ∧ IsS103 w0 w' g s0_0 r2 r3 ∧ Below w0.heap.size w0 w' ∧ KeepBut w w' g none := by
 have HI0 := q0_2 hI; have HK := q0_2 (KeepBut.refl w g none); have HL := q0_2 hB.size; clear hI; have HW0 := q0_2 hB.size; have HB := q0_2 hB; clear hB; (have H : (if s0_1 < (s0_0.length : Int) then (if 0 ≤ s0_1 then (some (Go.bits .and .i64 (wrap64 ((Go.bits .and .i64 (Go.bits .xor .i64 ((wrap64 ((wrap64 (s0_2 * 6364136223846793005)) + 1442695040888963407)) / 8589934592) ((wrap64 ((wrap64 (s0_2 * 6364136223846793005)) + 1442695040888963407)) / 140737488355328)) 255) + (wrap64 (rd s0_0 s0_1)))) 255, wrap64 (s0_1 + 1), wrap64 ((wrap64 (s0_2 * 6364136223846793005)) + 1442695040888963407))) else (none)) else (some (Go.bits .and .i64 (Go.bits .xor .i64 ((wrap64 ((wrap64 (s0_2 * 6364136223846793005)) + 1442695040888963407)) / 8589934592) ((wrap64 ((wrap64 (s0_2 * 6364136223846793005)) + 1442695040888963407)) / 140737488355328)) 255, s0_1, wrap64 ((wrap64 (s0_2 * 6364136223846793005)) + 1442695040888963407)))) = some (r1, r2, r3) := h); clear h
 by_cases c2 : s0_1 < (s0_0.length : Int)
 · rw [if_pos c2] at H
   (have c2b0 : decide (s0_1 < (s0_0.length : Int)) = true := decide_eq_true c2); clear c2
   by_cases c3 : 0 ≤ s0_1
   · rw [if_pos c3] at H
     (have c3b0 : decide (0 ≤ s0_1) = true := decide_eq_true c3); clear c3; (simp only [Option.some.injEq, Prod.mk.injEq] at H); obtain ⟨rfl, rfl, rfl⟩ := H; obtain ⟨ASz4_0, cSz4_0, HGz4, hgz4, HSz4_0⟩ := HI0.out; have hcz4_0 := cellS103_0 HGz4; have hcz4_1 := cellS103_1 HGz4; have hcz4_2 := cellS103_2 HGz4; have hfz4_1 := blk_frozen HGz4 1; have hfz4_2 := blk_frozen HGz4 2; clear HGz4 hgz4; (have p129 : 0 ≤ (s0_1 : Int) := od); (have q129 : s0_1 < (s0_0.length : Int) := od); obtain ⟨ad129, e129, hx129_0⟩ := Kd.at_int HSz4_0 s0_1 p129 q129
     cases e129
     (have hn129_0 : ad129.block ≠ g := Nat.ne_of_lt (Nat.lt_of_lt_of_le (by have := World.block_lt_of_cell? _ _ hx129_0; first | rwa [add_block] at this | exact this) (IsS103.ge HI0.out))); replace hx129_0 := pw_cell_below HB.out hx129_0; replace hx129_0 := (cell_far (p := ⟨g, 2, none⟩) (by first | (rw [add_block]; exact hn129_0) | (show (Addr.add _ _).block ≠ _; rw [add_block]; exact hn129_0) | exact hn129_0) (.int .i64 (wrap64 ((wrap64 (s0_2 * 6364136223846793005)) + 1442695040888963407)))).trans hx129_0; ((try have hy129_0 := fun (n_ : Nat) => (show (((w.drewN n_).setCell ⟨g, 2, none⟩ (.int .i64 (wrap64 ((wrap64 (s0_2 * 6364136223846793005)) + 1442695040888963407))))).cell? _ = some _ from hx129_0))); clear hn129_0; replace p129 := eq_true p129; replace q129 := eq_true q129; go_enter Try.func68, Try.ntmps68; (go_wp2); (repeat (go_quiet (fail); try go_wp2)); go_ret; (exact ⟨by first | rfl | (simp [errW_none, errW_some] <;> rfl) | (simp [*, errW_none, errW_some] <;> rfl), gz0_2, gz1_2, gz4_2⟩)
   · rw [if_neg c3] at H
     exact absurd H (by simp)
 · rw [if_neg c2] at H
   (have c2b0 : decide (s0_1 < (s0_0.length : Int)) = false := decide_eq_false c2); clear c2; (simp only [Option.some.injEq, Prod.mk.injEq] at H); obtain ⟨rfl, rfl, rfl⟩ := H; obtain ⟨ASz5_0, cSz5_0, HGz5, hgz5, HSz5_0⟩ := HI0.out; have hcz5_0 := cellS103_0 HGz5; have hcz5_1 := cellS103_1 HGz5; have hcz5_2 := cellS103_2 HGz5; have hfz5_1 := blk_frozen HGz5 1; have hfz5_2 := blk_frozen HGz5 2; clear HGz5 hgz5; go_enter Try.func68, Try.ntmps68; (go_wp2); (repeat (go_quiet (fail); try go_wp2)); go_ret; (exact ⟨by first | rfl | (simp [errW_none, errW_some] <;> rfl) | (simp [*, errW_none, errW_some] <;> rfl), gz0_2, gz1_2, gz4_2⟩)
/-! ### spec_l1Below: function 39 -/
def spec_l1Below.f (s0_0 : List Int) (s0_1 : Int) (s0_2 : Int) (a1 : Int) : Option (Int × Int × Int) := if a1 ≤ 0 then (some (0, s0_1, s0_2)) else (if a1 ≤ 256 then ((spec_l1Byte.f s0_0 s0_1 s0_2).bind fun bt130 => (if a1 = 0 then (none) else (some (Int.tmod bt130.1 a1, bt130.2.1, bt130.2.2)))) else ((spec_l1Byte.f s0_0 s0_1 s0_2).bind fun bt133 => ((spec_l1Byte.f s0_0 bt133.2.1 bt133.2.2).bind fun bt136 => ((spec_l1Byte.f s0_0 bt136.2.1 bt136.2.2).bind fun bt139 => (if a1 = 0 then (none) else (some (Int.tmod (wrap64 ((wrap64 ((wrap64 (bt133.1 * 65536)) + (wrap64 (bt136.1 * 256)))) + bt139.1)) a1, bt139.2.1, bt139.2.2)))))))
set_option maxHeartbeats 8000000 in
set_option maxRecDepth 100000 in
theorem spec_l1Below.calls (g : Nat) (s0_0 : List Int) (s0_1 : Int) (s0_2 : Int) (a1 : Int) (r1 : Int) (r2 : Int) (r3 : Int) (w0 w : World) (hI : IsS103 w0 w g s0_0 s0_1 s0_2) (hB : Below w0.heap.size w0 w) (h : spec_l1Below.f s0_0 s0_1 s0_2 a1 = some (r1, r2, r3)) :
 Calls Try.prog 39 #[.pointer (some ⟨g, 0, none⟩), .int .i64 a1] w fun e w' => e = .returned (.int .i64 r1) ∧ IsS103 w0 w' g s0_0 r2 r3 ∧ Below w0.heap.size w0 w' ∧ KeepBut w w' g none := by
 have HI0 := q0_2 hI; have HK := q0_2 (KeepBut.refl w g none); have HL := q0_2 hB.size; clear hI; have HW0 := q0_2 hB.size; have HB := q0_2 hB; clear hB; (have H : (if a1 ≤ 0 then (some (0, s0_1, s0_2)) else (if a1 ≤ 256 then ((spec_l1Byte.f s0_0 s0_1 s0_2).bind fun bt130 => (if a1 = 0 then (none) else (some (Int.tmod bt130.1 a1, bt130.2.1, bt130.2.2)))) else ((spec_l1Byte.f s0_0 s0_1 s0_2).bind fun bt133 => ((spec_l1Byte.f s0_0 bt133.2.1 bt133.2.2).bind fun bt136 => ((spec_l1Byte.f s0_0 bt136.2.1 bt136.2.2).bind fun bt139 => (if a1 = 0 then (none) else (some (Int.tmod (wrap64 ((wrap64 ((wrap64 (bt133.1 * 65536)) + (wrap64 (bt136.1 * 256)))) + bt139.1)) a1, bt139.2.1, bt139.2.2)))))))) = some (r1, r2, r3) := h); clear h
 by_cases c3 : a1 ≤ 0
 · rw [if_pos c3] at H
   (have c3b0 : decide (a1 ≤ 0) = true := decide_eq_true c3); clear c3; (simp only [Option.some.injEq, Prod.mk.injEq] at H); obtain ⟨rfl, rfl, rfl⟩ := H; go_enter Try.func39, Try.ntmps39; (go_wp2); go_ret; (exact ⟨by first | rfl | (simp [errW_none, errW_some] <;> rfl) | (simp [*, errW_none, errW_some] <;> rfl), gz0_2, gz1_2, gz4_2⟩)
 · rw [if_neg c3] at H
   (have c3b0 : decide (a1 ≤ 0) = false := decide_eq_false c3); clear c3
   by_cases c4 : a1 ≤ 256
   · rw [if_pos c4] at H
     (have c4b0 : decide (a1 ≤ 256) = true := decide_eq_true c4); clear c4; replace H := Option.bind_eq_some_iff.mp H; obtain ⟨⟨t130, t131, t132⟩, A50, H⟩ := H; (try dsimp only at H); have A5 := q0_2 A50; clear A50
     by_cases c6 : a1 = 0
     · rw [if_pos c6] at H
       exact absurd H (by simp)
     · rw [if_neg c6] at H
       (have c6b0 : (a1 == 0) = false := beq_eq_false_iff_ne.mpr c6); (have c6b1 : (a1 != 0) = true := bne_iff_ne.mpr c6); (simp only [Option.some.injEq, Prod.mk.injEq] at H); obtain ⟨rfl, rfl, rfl⟩ := H; go_enter Try.func39, Try.ntmps39; (go_wp2_with (first | ((with_reducible refine gate_callee (f := 68) rfl ?_); refine goesL_ (some 13) rfl rfl Try.func68 (by kernel_rfl) rfl #[.pointer (some ⟨g, 0, none⟩)] rfl ma ?_; (with_reducible refine (spec_l1Byte.calls g s0_0 s0_1 s0_2 t130 t131 t132 w0 _ ?side1 ?side2 A5.out).mono ?_); (case side1 => exact gz0_2); (case side2 => exact gz1_2); rintro e w7 ⟨rfl, hi, hb, hk⟩; refine ⟨_, rfl, ?_⟩; replace HK := q0_2 (KeepBut.trans gz4_2 hk (.inl rfl)); replace HB := q0_2 (hb); replace HI0 := q0_2 (hi); (try clear hb); (try clear hb2); (try clear hk); (try clear hi)))); go_ret; (exact ⟨by first | rfl | (simp [errW_none, errW_some] <;> rfl) | (simp [*, errW_none, errW_some] <;> rfl), gz0_2, gz1_2, gz4_2⟩)
   · rw [if_neg c4] at H
     (have c4b0 : decide (a1 ≤ 256) = false := decide_eq_false c4); clear c4; replace H := Option.bind_eq_some_iff.mp H; obtain ⟨⟨t133, t134, t135⟩, A80, H⟩ := H; (try dsimp only at H); have A8 := q0_2 A80; clear A80; replace H := Option.bind_eq_some_iff.mp H; obtain ⟨⟨t136, t137, t138⟩, A90, H⟩ := H; (try dsimp only at H); have A9 := q0_2 A90; clear A90; replace H := Option.bind_eq_some_iff.mp H; obtain ⟨⟨t139, t140, t141⟩, A100, H⟩ := H; (try dsimp only at H); have A10 := q0_2 A100; clear A100
     by_cases c11 : a1 = 0
     · rw [if_pos c11] at H
       exact absurd H (by simp)
     · rw [if_neg c11] at H
       (have c11b0 : (a1 == 0) = false := beq_eq_false_iff_ne.mpr c11); (have c11b1 : (a1 != 0) = true := bne_iff_ne.mpr c11); (simp only [Option.some.injEq, Prod.mk.injEq] at H); obtain ⟨rfl, rfl, rfl⟩ := H; go_enter Try.func39, Try.ntmps39
       (go_wp2_with (first | ((with_reducible refine gate_callee (f := 68) rfl ?_); refine goesL_ (some 17) rfl rfl Try.func68 (by kernel_rfl) rfl #[.pointer (some ⟨g, 0, none⟩)] rfl ma ?_; (with_reducible refine (spec_l1Byte.calls g s0_0 s0_1 s0_2 t133 t134 t135 w0 _ ?side1 ?side2 A8.out).mono ?_); (case side1 => exact gz0_2); (case side2 => exact gz1_2); rintro e w12 ⟨rfl, hi, hb, hk⟩; refine ⟨_, rfl, ?_⟩; replace HK := q0_2 (KeepBut.trans gz4_2 hk (.inl rfl)); replace HB := q0_2 (hb); replace HI0 := q0_2 (hi); (try clear hb); (try clear hb2); (try clear hk); (try clear hi)) | ((with_reducible refine gate_callee (f := 68) rfl ?_); refine goesL_ (some 19) rfl rfl Try.func68 (by kernel_rfl) rfl #[.pointer (some ⟨g, 0, none⟩)] rfl ma ?_; (with_reducible refine (spec_l1Byte.calls g s0_0 t134 t135 t136 t137 t138 w0 _ ?side1 ?side2 A9.out).mono ?_); (case side1 => exact gz0_2); (case side2 => exact gz1_2); rintro e w13 ⟨rfl, hi, hb, hk⟩; refine ⟨_, rfl, ?_⟩; replace HK := q0_2 (KeepBut.trans gz4_2 hk (.inl rfl)); replace HB := q0_2 (hb); replace HI0 := q0_2 (hi); (try clear hb); (try clear hb2); (try clear hk); (try clear hi)) | ((with_reducible refine gate_callee (f := 68) rfl ?_); refine goesL_ (some 21) rfl rfl Try.func68 (by kernel_rfl) rfl #[.pointer (some ⟨g, 0, none⟩)] rfl ma ?_; (with_reducible refine (spec_l1Byte.calls g s0_0 t137 t138 t139 t140 t141 w0 _ ?side1 ?side2 A10.out).mono ?_); (case side1 => exact gz0_2); (case side2 => exact gz1_2); rintro e w14 ⟨rfl, hi, hb, hk⟩; refine ⟨_, rfl, ?_⟩; replace HK := q0_2 (KeepBut.trans gz4_2 hk (.inl rfl)); replace HB := q0_2 (hb); replace HI0 := q0_2 (hi); (try clear hb); (try clear hb2); (try clear hk); (try clear hi))))
       go_ret; (exact ⟨by first | rfl | (simp [errW_none, errW_some] <;> rfl) | (simp [*, errW_none, errW_some] <;> rfl), gz0_2, gz1_2, gz4_2⟩)
/-! ### spec_l1Once: function 37 -/
def spec_l1Once.f (s0_0 : List Int) (s0_1 : Int) (s0_2 : Int) (a1 : Int) : Option (Bool × Int × Int) := (spec_l1Below.f s0_0 s0_1 s0_2 a1).bind fun bt142 => (some ((bt142.1 == 0), bt142.2.1, bt142.2.2))
set_option maxHeartbeats 8000000 in
set_option maxRecDepth 100000 in
theorem spec_l1Once.calls (g : Nat) (s0_0 : List Int) (s0_1 : Int) (s0_2 : Int) (a1 : Int) (r1 : Bool) (r2 : Int) (r3 : Int) (w0 w : World) (hI : IsS103 w0 w g s0_0 s0_1 s0_2) (hB : Below w0.heap.size w0 w) (h : spec_l1Once.f s0_0 s0_1 s0_2 a1 = some (r1, r2, r3)) :
 Calls Try.prog 37 #[.pointer (some ⟨g, 0, none⟩), .int .i64 a1] w fun e w' => e = .returned (.bool r1) ∧ IsS103 w0 w' g s0_0 r2 r3 ∧ Below w0.heap.size w0 w' ∧ KeepBut w w' g none := by
 have HI0 := q0_2 hI; have HK := q0_2 (KeepBut.refl w g none); have HL := q0_2 hB.size; clear hI; have HW0 := q0_2 hB.size; have HB := q0_2 hB; clear hB; (have H : ((spec_l1Below.f s0_0 s0_1 s0_2 a1).bind fun bt142 => (some ((bt142.1 == 0), bt142.2.1, bt142.2.2))) = some (r1, r2, r3) := h); clear h; replace H := Option.bind_eq_some_iff.mp H; obtain ⟨⟨t142, t143, t144⟩, A30, H⟩ := H; (try dsimp only at H); have A3 := q0_2 A30; clear A30; (simp only [Option.some.injEq, Prod.mk.injEq] at H); obtain ⟨rfl, rfl, rfl⟩ := H; go_enter Try.func37, Try.ntmps37; (go_wp2_with (first | ((with_reducible refine gate_callee (f := 39) rfl ?_); refine goesL_ (some 7) rfl rfl Try.func39 (by kernel_rfl) rfl #[.pointer (some ⟨g, 0, none⟩), .int .i64 a1] rfl ma ?_; (with_reducible refine (spec_l1Below.calls g s0_0 s0_1 s0_2 a1 t142 t143 t144 w0 _ ?side1 ?side2 A3.out).mono ?_); (case side1 => exact gz0_2); (case side2 => exact gz1_2); rintro e w4 ⟨rfl, hi, hb, hk⟩; refine ⟨_, rfl, ?_⟩; replace HK := q0_2 (KeepBut.trans gz4_2 hk (.inl rfl)); replace HB := q0_2 (hb); replace HI0 := q0_2 (hi); (try clear hb); (try clear hb2); (try clear hk); (try clear hi)))); go_ret; (exact ⟨by first | rfl | (simp [errW_none, errW_some] <;> rfl) | (simp [*, errW_none, errW_some] <;> rfl), gz0_2, gz1_2, gz4_2⟩)
/-! ### spec_l15Pitches: function 53 -/
def spec_l15Pitches.l0 : Nat → List Int → Int → List Int → Int → Int → Option (List Int × Int × Int)
 | 0, _, _, _, _, _ => none
 | k + 1, x5, x6, x1000, x1001, x1002 => if x6 > 0 then ((spec_l1Below.f x1000 x1001 x1002 6).bind fun bt151 => (if x5.length < 17592186044416 then (spec_l15Pitches.l0 k (x5 ++ [wrap64 (60 + bt151.1)]) (wrap64 (x6 - 1)) x1000 bt151.2.1 bt151.2.2) else (none))) else (some (x5, x1001, x1002))
def spec_l15Pitches.f (k : Nat) (s0_0 : List Int) (s0_1 : Int) (s0_2 : Int) (a1 : Int) : Option (List Int × Int × Int) := (spec_l1Below.f s0_0 s0_1 s0_2 a1).bind fun bt148 => (spec_l15Pitches.l0 k (([] : List Int)) bt148.1 s0_0 bt148.2.1 bt148.2.2)
theorem spec_l15Pitches.mono_l : ∀ k, (∀ y0 y1 y2 y3 y4, LeO (spec_l15Pitches.l0 k y0 y1 y2 y3 y4) (spec_l15Pitches.l0 (k + 1) y0 y1 y2 y3 y4))
 | 0 => fun _ _ _ _ _ r h => by simp [spec_l15Pitches.l0] at h
 | k + 1 => by
  have ih0 := spec_l15Pitches.mono_l k; (intro y0 y1 y2 y3 y4; unfold spec_l15Pitches.l0; (repeat' (with_reducible first | exact ih0 _ _ _ _ _ | exact LeO.refl _ | exact LeO.none _ | refine LeO.ite ?_ ?_ | refine LeO.bind ?_ (fun _ => ?_))))
theorem spec_l15Pitches.mono : ∀ a0 a1 a2 a3 k, LeO (spec_l15Pitches.f k a0 a1 a2 a3) (spec_l15Pitches.f (k + 1) a0 a1 a2 a3) := by
 intro a0 a1 a2 a3 k; have ih0 := spec_l15Pitches.mono_l k; unfold spec_l15Pitches.f; (repeat' (with_reducible first | exact ih0 _ _ _ _ _ | exact LeO.refl _ | exact LeO.none _ | refine LeO.ite ?_ ?_ | refine LeO.bind ?_ (fun _ => ?_)))
set_option maxHeartbeats 8000000 in
set_option maxRecDepth 100000 in
theorem spec_l15Pitches.calls (k : Nat) (g : Nat) (s0_0 : List Int) (s0_1 : Int) (s0_2 : Int) (a1 : Int) (r1 : List Int) (r2 : Int) (r3 : Int) (w0 w : World) (hI : IsS103 w0 w g s0_0 s0_1 s0_2) (hB : Below w0.heap.size w0 w) (h : spec_l15Pitches.f k s0_0 s0_1 s0_2 a1 = some (r1, r2, r3)) :
 Calls Try.prog 53 #[.pointer (some ⟨g, 0, none⟩), .int .i64 a1] w fun e w' => ∃ v0_ : Value, e = .returned (v0_) ∧ Kd.R (Kd.int .i64) 3 w' w.heap.size (fun _ => True) v0_ r1 ∧ IsS103 w0 w' g s0_0 r2 r3 ∧ Below w0.heap.size w0 w' ∧ KeepBut w w' g none := by
 have HI0 := q0_2 hI; have HK := q0_2 (KeepBut.refl w g none); have HL := q0_2 hB.size; clear hI; have HW0 := q0_2 hB.size; have HB := q0_2 hB; clear hB; (have H : ((spec_l1Below.f s0_0 s0_1 s0_2 a1).bind fun bt148 => (spec_l15Pitches.l0 k (([] : List Int)) bt148.1 s0_0 bt148.2.1 bt148.2.2)) = some (r1, r2, r3) := h); clear h; obtain ⟨y145, hy145⟩ : ∃ y_ : List Int, y_ = (([] : List Int)) := ⟨_, rfl⟩; (first | rw [Option.bind_some, ← hy145] at H | rw [← hy145] at H | replace H := (Option.bind_some _ _).symm.trans H | skip); have Ny145 := q0_2 hy145; clear hy145; replace H := Option.bind_eq_some_iff.mp H; obtain ⟨⟨t148, t149, t150⟩, A30, H⟩ := H; (try dsimp only at H); have A3 := q0_2 A30; clear A30; (have H' := q0_2 H); clear H; go_enter Try.func53, Try.ntmps53
 (go_wp2_with (first | ((with_reducible refine gate_dst (N := 7) rfl ?_); refine Kd.R_lit (Kd.int .i64) _ 3 ?hg (N := 7) ?hd (xs := ([] : List Int)) (inner := []) (ok := fun _ => True) (okp := fun _ => True) ?hr ?hp (fun _ hk => hk) trivial (Below.refl _ _) (Nat.le_refl _) (by simp) ?_; (case hd => rfl); (case hg => rfl); (case hr => first | (go_simp; done) | (go_simp; rfl)); (case hp => exact (Reps.none _ _)); intro v146 w4 ho5 hb hg_ hnew_; clear hg_ hnew_; (first | rw [← Ny145.out] at ho5 | (simp only [Int.reduceToNat] at ho5; rw [← Ny145.out] at ho5)); have q5 := q0_2 (Kd.R_lower ho5 (keep_size (w := w) (g := g) (row := none) gz4_2)); replace HK := q0_2 (KeepBut.trans gz4_2 (KeepBut.of_below hb g none) (.inl rfl)); replace HB := q0_2 (below_step gz1_2 hb); replace HI0 := q0_2 (IsS103.below gz0_2 hb); clear hb ho5) | ((with_reducible refine gate_callee (f := 39) rfl ?_); refine goesL_ (some 10) rfl rfl Try.func39 (by kernel_rfl) rfl #[.pointer (some ⟨g, 0, none⟩), .int .i64 a1] rfl ma ?_; (with_reducible refine (spec_l1Below.calls g s0_0 s0_1 s0_2 a1 t148 t149 t150 w0 _ ?side1 ?side2 A3.out).mono ?_); (case side1 => exact gz0_2); (case side2 => exact gz1_2); rintro e w6 ⟨rfl, hi, hb, hk⟩; refine ⟨_, rfl, ?_⟩; replace q5 := q0_2 (Kd.R_mono (Kd.R_keep (IsS103.apart (show IsS103 w0 _ g s0_0 s0_1 s0_2 from gz0_2) (ra q5.out) (by decide)) hk (fun _ h => h.2)) (fun _ h => h.1)); replace HK := q0_2 (KeepBut.trans gz4_2 hk (.inl rfl)); replace HB := q0_2 (hb); replace HI0 := q0_2 (hi); (try clear hb); (try clear hb2); (try clear hk); (try clear hi))))
 (go_loopg [5, 6] k (fun kq v5 v6 w' => ∃ (x5_1 : List Int) (x6_1 : Int) (x1001_1 : Int) (x1002_1 : Int), v6 = .int .i64 x6_1 ∧ Aside0 (spec_l15Pitches.l0 kq x5_1 x6_1 s0_0 x1001_1 x1002_1 = some (r1, r2, r3)) ∧ Aside0 (kq ≤ k) ∧ Aside0 (Kd.R (Kd.int .i64) 3 w' w.heap.size (fun _ => True) v5 x5_1) ∧ Aside0 (IsS103 w0 w' g s0_0 x1001_1 x1002_1) ∧ Aside0 (KeepBut w w' g none) ∧ Aside0 (Below w0.heap.size w0 w')))
 case atStart => exact ⟨(y145), (t148), (t149), (t150), (by first | rfl | (simp; done) | (simp [*]; done)), H', ⟨Nat.le_refl _⟩, ⟨by refine ra ?_; exact q5.out⟩, ⟨gz0_2⟩, ⟨gz4_2⟩, ⟨gz1_2⟩⟩
 case round =>
  clear H'; (try clear p2); (try clear c3); (try clear c5); obtain ⟨x5_1, x6_1, x1001_1, x1002_1, rfl, HA, HK1, q1, HI0, HK, HB⟩ := hrel
  cases gk with
  | zero => exact absurd HA.out (by simp [spec_l15Pitches.l0])
  | succ k1 =>
   have H := HA.out; clear HA; (simp only [spec_l15Pitches.l0] at H)
   by_cases c7 : x6_1 > 0
   · rw [if_pos c7] at H
     (have c7b0 : decide (0 < x6_1) = true := decide_eq_true c7); clear c7; replace H := Option.bind_eq_some_iff.mp H; obtain ⟨⟨t151, t152, t153⟩, A80, H⟩ := H; (try dsimp only at H); have A8 := q0_2 A80; clear A80
     by_cases c9 : x5_1.length < 17592186044416
     · rw [if_pos c9] at H
       have LMc9 := q0_2 c9; clear c9; obtain ⟨y154, hy154⟩ : ∃ y_ : List Int, y_ = (x5_1 ++ [wrap64 (60 + t151)]) := ⟨_, rfl⟩; (first | rw [Option.bind_some, ← hy154] at H | rw [← hy154] at H | replace H := (Option.bind_some _ _).symm.trans H | skip); have Ny154 := q0_2 hy154; clear hy154; (have H' := q0_2 H); clear H
       (go_wp2_with (first | ((with_reducible refine gate_callee (f := 39) rfl ?_); refine goesL_ (some 17) rfl rfl Try.func39 (by kernel_rfl) rfl #[.pointer (some ⟨g, 0, none⟩), .int .i64 6] rfl ma ?_; (with_reducible refine (spec_l1Below.calls g s0_0 x1001_1 x1002_1 6 t151 t152 t153 w0 _ ?side1 ?side2 A8.out).mono ?_); (case side1 => exact gz0_2); (case side2 => exact gz1_2); rintro e w10 ⟨rfl, hi, hb, hk⟩; refine ⟨_, rfl, ?_⟩; replace q1 := q0_2 (Kd.R_mono (Kd.R_keep (IsS103.apart (show IsS103 w0 _ g s0_0 x1001_1 x1002_1 from gz0_2) (ra q1.out) (by decide)) hk (fun _ h => h.2)) (fun _ h => h.1)); replace HK := q0_2 (KeepBut.trans gz4_2 hk (.inl rfl)); replace HB := q0_2 (hb); replace HI0 := q0_2 (hi); (try clear hb); (try clear hb2); (try clear hk); (try clear hi)) | ((with_reducible refine gate_builtin (b := .append) (xs := #[.tmp 15, .tmp 19]) rfl ?_); at_builtin; refine Kd.R_append (Kd.int .i64) w.heap.size rfl (.tmp 15) (.tmp 19) 25 3 (.int .i64 0) 8 rfl Try.underlying25 info3 rfl (by decide) (by omega) u5 x5_1 (wrap64 (60 + t151)) [.int .i64 (wrap64 (60 + t151))] (fun _ => True) (fun _ => False) rfl rfl ?aP (fun _ hk => hk.elim) ?aF ?aO (Below.refl _ _) ?aS ?aL ?_; (case aP => exact rfl); (case aF => exact (fun _ _ => trivial)); (case aO => exact (ra q1.out)); (case aS => exact (keep_size (w := w) (g := g) (row := none) gz4_2)); (case aL => have := LMc9.out; omega); intro v155 w11 ho hb hg hat; rw [← Ny154.out] at ho; replace HB := q0_2 (below_weaken gz1_2 HL.out hb); replace HI0 := q0_2 (IsS103.grown gz0_2 hg (IsS103.own_ne HI0.out q1.out (by decide))); replace HK := q0_2 (KeepBut.trans gz4_2 (KeepBut.of_grown hg g) (Kd.R_base2 q1.out)); have qb := q0_2 (ho); clear q1; clear ho hb hg hat)))
       (go_roundg k1)
       case measure => have := HK1.out; omega
       case rel => exact ⟨(y154), (wrap64 (x6_1 - 1)), (t152), (t153), (by first | rfl | (simp; done) | (simp [*]; done)), H', ⟨by have := HK1.out; omega⟩, ⟨by refine ra ?_; exact qb.out⟩, ⟨gz0_2⟩, ⟨gz4_2⟩, ⟨gz1_2⟩⟩
     · rw [if_neg c9] at H
       exact absurd H (by simp)
   · rw [if_neg c7] at H
     (have c7b0 : decide (0 < x6_1) = false := decide_eq_false c7); clear c7; (simp only [Option.some.injEq, Prod.mk.injEq] at H); obtain ⟨rfl, rfl, rfl⟩ := H; (go_wp2); go_ret; (exact ⟨_, by first | rfl | (simp [errW_none, errW_some] <;> rfl) | (simp [*, errW_none, errW_some] <;> rfl), by refine ra ?_; exact q1.out, gz0_2, gz1_2, gz4_2⟩)
/-! ### spec_l1In: function 49 -/
def spec_l1In.f (a0 : Int) (a1 : Int) (a2 : Int) : Option (Bool) := if a0 ≥ a1 then (some (decide (a0 ≤ a2))) else (some false)
set_option maxHeartbeats 8000000 in
set_option maxRecDepth 100000 in
theorem spec_l1In.calls (a0 : Int) (a1 : Int) (a2 : Int) (r : Bool) (w : World) (h : spec_l1In.f a0 a1 a2 = some r) :
 Calls Try.prog 49 #[.int .i64 a0, .int .i64 a1, .int .i64 a2] w fun e w' => e = .returned (.bool r) ∧ Drawn0 w w' := by
 (have H : (if a0 ≥ a1 then (some (decide (a0 ≤ a2))) else (some false)) = some r := h); clear h
 by_cases c4 : a0 ≥ a1
 · rw [if_pos c4] at H
   (have c4b0 : decide (a1 ≤ a0) = true := decide_eq_true c4); clear c4; obtain rfl := Option.some.inj H; go_enter Try.func49, Try.ntmps49; (go_wp2); go_ret; exact ⟨by first | rfl | (simp; done) | (simp [*]; done), by repeat (first | exact Drawn0.refl _ | apply Drawn0.step)⟩
 · rw [if_neg c4] at H
   (have c4b0 : decide (a1 ≤ a0) = false := decide_eq_false c4); clear c4; obtain rfl := Option.some.inj H; go_enter Try.func49, Try.ntmps49; (go_wp2); go_ret; exact ⟨by first | rfl | (simp; done) | (simp [*]; done), by repeat (first | exact Drawn0.refl _ | apply Drawn0.step)⟩
end Go.Proofs.Ytcgkmcnfhobkiaa.PFnAligned
