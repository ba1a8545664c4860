import Derived.Test.YtcgkmcnfhobkiaaPFnNeverAheadx15
namespace Go.Proofs.Ytcgkmcnfhobkiaa.PFnNeverAhead
open Go.RowKit Go.Proofs.YtcgkmcnfhobkiaaW.PrintWords Go.Proofs.YtcgkmcnfhobkiaaW.PrintLast Go.Proofs.YtcgkmcnfhobkiaaW.PrintMore
attribute [local go_sem] max2_int min2_int max_two min_two max_three min_three max_four min_four
set_option maxHeartbeats 8000000
set_option maxRecDepth 100000
set_option linter.unusedVariables false
set_option linter.unusedSimpArgs false
/-! ### impl_IsFollower: function 18 -/
def impl_IsFollower.l0 : Nat → List Int → List Int → Int → Int → List Int → Int → Option (Bool)
 | 0, _, _, _, _, _, _ => none
 | k + 1, x0, x8, x9, x10, x564000, x564001 => if x10 < x9 then (if 0 ≤ x10 then (if x10 < (x8.length : Int) then ((impl_InRange.f (rd x8 x10) 0 1000).bind fun t566 => (if t566 = true then (if x10 > 0 then (if 0 ≤ (wrap64 (x10 - 1)) then (if (wrap64 (x10 - 1)) < (x564000.length : Int) then ((impl_InRange.f (wrap64 ((rd x8 x10) - (rd x564000 (wrap64 (x10 - 1))))) (-1) 1).bind fun t568 => (if t568 = true then (impl_IsFollower.l0 k x0 x8 x9 (wrap64 (x10 + 1)) x564000 x564001) else (some false))) else (none)) else (none)) else (impl_IsFollower.l0 k x0 x8 x9 (wrap64 (x10 + 1)) x564000 x564001)) else (some false))) else (none)) else (none)) else (if (x0.length : Int) ≤ 40 then (if (x564000.length : Int) = (wrap64 ((x0.length : Int) + 1)) then ((impl_InRange.f x564001 0 1000).bind fun t564 => (some t564)) else (some false)) else (some false))
def impl_IsFollower.f (k : Nat) (l0 : List Int) (l1_0 : List Int) (a1_1 : Int) : Option (Bool) := impl_IsFollower.l0 k l0 l1_0 (l1_0.length : Int) 0 l1_0 a1_1
theorem impl_IsFollower.mono_l : ∀ k, (∀ y0 y1 y2 y3 y4 y5, LeO (impl_IsFollower.l0 k y0 y1 y2 y3 y4 y5) (impl_IsFollower.l0 (k + 1) y0 y1 y2 y3 y4 y5))
 | 0 => fun _ _ _ _ _ _ r h => by simp [impl_IsFollower.l0] at h
 | k + 1 => by
  have ih0 := impl_IsFollower.mono_l k; (intro y0 y1 y2 y3 y4 y5; unfold impl_IsFollower.l0; exact mo)
theorem impl_IsFollower.mono : ∀ a0 a1 a2 k, LeO (impl_IsFollower.f k a0 a1 a2) (impl_IsFollower.f (k + 1) a0 a1 a2) := by
 intro a0 a1 a2 k; have ih0 := impl_IsFollower.mono_l k; unfold impl_IsFollower.f; exact mo
theorem impl_IsFollower.calls (k : Nat) (A0 : Option Addr) (c0 : Nat) (l0 : List Int) (A1_0 : Option Addr) (c1_0 : Nat) (l1_0 : List Int) (a1_1 : Int) (r : Bool) (w : World) (hr0 : Kd.C (Kd.int .i64) w A0 l0.length l0) (hc0 : l0.length ≤ c0) (hr1_0 : Kd.C (Kd.int .i64) w A1_0 l1_0.length l1_0) (hc1_0 : l1_0.length ≤ c1_0) (h : impl_IsFollower.f k l0 l1_0 a1_1 = some r) :
 Calls Try.prog 18 #[.slice A0 l0.length c0, .agg #[.slice A1_0 l1_0.length c1_0, .int .i64 a1_1]] w fun e w' => e = .returned (.bool r) ∧ Below w.heap.size w w' := by
 have hu40 := Try.underlying40; have HR0 := ai hr0; have HC0 := ai hc0; clear hr0 hc0; have HR1_0 := ai hr1_0; have HC1_0 := ai hc1_0; clear hr1_0 hc1_0; have HB := ai (Below.refl w.heap.size w); (have H : (impl_IsFollower.l0 k l0 l1_0 (l1_0.length : Int) 0 l1_0 a1_1) = some r := h); clear h; (have H' := ai H); clear H; go_enter Try.func18, Try.ntmps18; (go_wp2_with (first | ((with_reducible refine gate_dst (N := 3) rfl ?_); (try (refine gate_guard (by rfl) ?_; dsimp only)); refine bx 3 #[.slice A1_0 l1_0.length c1_0, .int .i64 a1_1] 40 ?_; intro qg hg w3 hbox hb; have q4 := ai hbox; have qn := gs w hg; replace HB := sb hb; clear hb hbox hg; obtain ⟨hcz4_0, hcz4_1, hfz4_0, hfz4_1⟩ := cel2 q4))); (go_loopg [10] k (fun kq v10 w' => ∃ (x10_1 : Int), v10 = .int .i64 x10_1 ∧ Aside0 (impl_IsFollower.l0 kq l0 l1_0 (l1_0.length : Int) x10_1 l1_0 a1_1 = some r) ∧ Aside0 (kq ≤ k) ∧ Aside0 (w'.heap[qg]? = some (.cells #[(.slice A1_0 l1_0.length c1_0), .int .i64 a1_1] 40 (0, 0))) ∧ Aside0 (Below w.heap.size w w')))
 case atStart => exact ⟨(0), rf, H', ⟨Nat.le_refl _⟩, ⟨bh q4⟩, ⟨by exact hz⟩⟩
 case round =>
  clear H'; (try clear c1); (try clear p2); (try clear hcz4_0); (try clear hcz4_1); (try clear hfz4_0); (try clear hfz4_1); obtain ⟨x10_1, rfl, HA, HK1, q4, HB⟩ := hrel
  cases gk with
  | zero => exact absurd HA.out (by simp [impl_IsFollower.l0])
  | succ k1 =>
   have H := HA.out; clear HA; (simp only [impl_IsFollower.l0] at H)
   by_cases c5 : x10_1 < (l1_0.length : Int)
   · rw [if_pos c5] at H
     (have c5b0 : decide (x10_1 < (l1_0.length : Int)) = true := decide_eq_true c5); clear c5
     by_cases c6 : 0 ≤ x10_1
     · rw [if_pos c6] at H
       (have c6b0 : decide (0 ≤ x10_1) = true := decide_eq_true c6); clear c6
       by_cases c7 : x10_1 < (l1_0.length : Int)
       · rw [if_pos c7] at H
         (have c7b0 : decide (x10_1 < (l1_0.length : Int)) = true := decide_eq_true c7); clear c7; obtain ⟨t566, A8, H⟩ := bs H; (try dsimp only at H)
         by_cases c9 : t566 = true
         · subst c9
           rw [if_pos rfl] at H
           by_cases c10 : x10_1 > 0
           · rw [if_pos c10] at H
             (have c10b0 : decide (0 < x10_1) = true := decide_eq_true c10); clear c10; obtain ⟨ji11, hji11⟩ : ∃ j_ : Int, (wrap64 (x10_1 - 1)) = j_ := ⟨_, rfl⟩; (replace H : (if 0 ≤ (ji11) then (if (ji11) < (l1_0.length : Int) then ((impl_InRange.f (wrap64 ((rd l1_0 x10_1) - (rd l1_0 (ji11)))) (-1) 1).bind fun t568 => (if t568 = true then (impl_IsFollower.l0 k1 l0 l1_0 (l1_0.length : Int) (wrap64 (x10_1 + 1)) l1_0 a1_1) else (some false))) else (none)) else (none)) = some r := by first | (rw [hji11] at H; exact H) | (simp only [hji11] at H ⊢; exact H)); ((try rw [hji11] at A8)); (have hji11w : (IntKind.i64.wrap (x10_1 - 1)) = ji11 := (i64_w _).trans hji11)
             by_cases c12 : 0 ≤ (ji11)
             · rw [if_pos c12] at H
               (have c12b0 : decide (0 ≤ (ji11)) = true := decide_eq_true c12); clear c12
               by_cases c13 : (ji11) < (l1_0.length : Int)
               · rw [if_pos c13] at H
                 (have c13b0 : decide ((ji11) < (l1_0.length : Int)) = true := decide_eq_true c13); clear c13; obtain ⟨t568, A14, H⟩ := bs H; (try dsimp only at H)
                 by_cases c15 : t568 = true
                 · subst c15
                   rw [if_pos rfl] at H; (have H' := ai H); clear H; (have p565 : 0 ≤ (x10_1 : Int) := od); (have q565 : x10_1 < (l1_0.length : Int) := od); obtain ⟨ad565, e565, hx565_0⟩ := Kd.at_int HR1_0.out x10_1 p565 q565
                   cases e565
                   replace hx565_0 := hxB HB hx565_0; replace p565 := eq_true p565; replace q565 := eq_true q565; (go_wp2_with (first | ((with_reducible refine gate_callee (f := 48) rfl ?_); refine goesL_ (some 16) rfl rfl Try.func48 (by kernel_rfl) rfl #[.int .i64 (rd l1_0 x10_1), .int .i64 0, .int .i64 1000] rfl ma ?_; (with_reducible refine (impl_InRange.calls (rd l1_0 x10_1) 0 1000 true _ A8.out).mono ?_); rintro e w' ⟨rfl, ⟨nd, rfl⟩⟩; refine ⟨_, rfl, ?_⟩; obtain ⟨hcz16_0, hcz16_1, hfz16_0, hfz16_1⟩ := cel2 q4; have p567 : 0 ≤ ((ji11) : Int) := od; have q567 : (ji11) < (l1_0.length : Int) := od; obtain ⟨ad567, e567, hx567_0⟩ := Kd.at_int HR1_0.out (ji11) p567 q567; obtain rfl : ad565 = ad567 := (by injection e567); replace hx567_0 := hxB HB hx567_0; replace p567 := eq_true p567; replace q567 := eq_true q567) | (go_at_call 48; (with_reducible refine (impl_InRange.calls (wrap64 ((rd l1_0 x10_1) - (rd l1_0 (ji11)))) (-1) 1 true _ A14.out).mono ?_); rintro e w' ⟨rfl, ⟨nd, rfl⟩⟩))); (go_roundg k1)
                   case measure => have := HK1.out; omega
                   case rel => exact ⟨(wrap64 (x10_1 + 1)), rf, (by first | exact H' | (have H2_ := H'; (try simp only [← hji11] at H2_); (try simp only [← hji11]); exact H2_)), ⟨by have := HK1.out; omega⟩, ⟨bh q4⟩, ⟨by exact hz⟩⟩
                 · replace c15 := Bool.eq_false_iff.mpr c15
                   subst c15; rw [if_neg (show ¬ (false = true) by decide)] at H; obtain rfl := Option.some.inj H; (have p565 : 0 ≤ (x10_1 : Int) := od); (have q565 : x10_1 < (l1_0.length : Int) := od); obtain ⟨ad565, e565, hx565_0⟩ := Kd.at_int HR1_0.out x10_1 p565 q565
                   cases e565
                   replace hx565_0 := hxB HB hx565_0; replace p565 := eq_true p565; replace q565 := eq_true q565; (go_wp2_with (first | ((with_reducible refine gate_callee (f := 48) rfl ?_); refine goesL_ (some 16) rfl rfl Try.func48 (by kernel_rfl) rfl #[.int .i64 (rd l1_0 x10_1), .int .i64 0, .int .i64 1000] rfl ma ?_; (with_reducible refine (impl_InRange.calls (rd l1_0 x10_1) 0 1000 true _ A8.out).mono ?_); rintro e w' ⟨rfl, ⟨nd, rfl⟩⟩; refine ⟨_, rfl, ?_⟩; obtain ⟨hcz17_0, hcz17_1, hfz17_0, hfz17_1⟩ := cel2 q4; have p567 : 0 ≤ ((ji11) : Int) := od; have q567 : (ji11) < (l1_0.length : Int) := od; obtain ⟨ad567, e567, hx567_0⟩ := Kd.at_int HR1_0.out (ji11) p567 q567; obtain rfl : ad565 = ad567 := (by injection e567); replace hx567_0 := hxB HB hx567_0; replace p567 := eq_true p567; replace q567 := eq_true q567) | (go_at_call 48; (with_reducible refine (impl_InRange.calls (wrap64 ((rd l1_0 x10_1) - (rd l1_0 (ji11)))) (-1) 1 false _ A14.out).mono ?_); rintro e w' ⟨rfl, ⟨nd, rfl⟩⟩))); go_ret; (exact ⟨by first | rfl | (simp [errW_none, errW_some] <;> rfl) | (simp only [← hji11]; first | rfl | (simp [errW_none, errW_some] <;> rfl)) | (simp [*, errW_none, errW_some] <;> rfl), by exact hz⟩)
               · exact (nn c13 H).elim
             · exact (nn c12 H).elim
           · rw [if_neg c10] at H
             (have c10b0 : decide (0 < x10_1) = false := decide_eq_false c10); clear c10; (have H' := ai H); clear H; (have p565 : 0 ≤ (x10_1 : Int) := od); (have q565 : x10_1 < (l1_0.length : Int) := od); obtain ⟨ad565, e565, hx565_0⟩ := Kd.at_int HR1_0.out x10_1 p565 q565
             cases e565
             replace hx565_0 := hxB HB hx565_0; replace p565 := eq_true p565; replace q565 := eq_true q565; (go_wp2_with (first | ((with_reducible refine gate_callee (f := 48) rfl ?_); refine goesL_ (some 16) rfl rfl Try.func48 (by kernel_rfl) rfl #[.int .i64 (rd l1_0 x10_1), .int .i64 0, .int .i64 1000] rfl ma ?_; (with_reducible refine (impl_InRange.calls (rd l1_0 x10_1) 0 1000 true _ A8.out).mono ?_); rintro e w' ⟨rfl, ⟨nd, rfl⟩⟩; refine ⟨_, rfl, ?_⟩))); (go_roundg k1)
             case measure => have := HK1.out; omega
             case rel => exact ⟨(wrap64 (x10_1 + 1)), rf, H', ⟨by have := HK1.out; omega⟩, ⟨bh q4⟩, ⟨by exact hz⟩⟩
         · replace c9 := Bool.eq_false_iff.mpr c9
           subst c9; rw [if_neg (show ¬ (false = true) by decide)] at H; obtain rfl := Option.some.inj H; (have p565 : 0 ≤ (x10_1 : Int) := od); (have q565 : x10_1 < (l1_0.length : Int) := od); obtain ⟨ad565, e565, hx565_0⟩ := Kd.at_int HR1_0.out x10_1 p565 q565
           cases e565
           replace hx565_0 := hxB HB hx565_0; replace p565 := eq_true p565; replace q565 := eq_true q565; (go_wp2_with (first | ((with_reducible refine gate_callee (f := 48) rfl ?_); refine goesL_ (some 16) rfl rfl Try.func48 (by kernel_rfl) rfl #[.int .i64 (rd l1_0 x10_1), .int .i64 0, .int .i64 1000] rfl ma ?_; (with_reducible refine (impl_InRange.calls (rd l1_0 x10_1) 0 1000 false _ A8.out).mono ?_); rintro e w' ⟨rfl, ⟨nd, rfl⟩⟩; refine ⟨_, rfl, ?_⟩))); go_ret; (exact ⟨er, by exact hz⟩)
       · exact (nn c7 H).elim
     · exact (nn c6 H).elim
   · rw [if_neg c5] at H
     (have c5b0 : decide (x10_1 < (l1_0.length : Int)) = false := decide_eq_false c5); clear c5
     by_cases c18 : (l0.length : Int) ≤ 40
     · rw [if_pos c18] at H
       (have c18b0 : decide ((l0.length : Int) ≤ 40) = true := decide_eq_true c18); (have c18b1 : decide (l0.length ≤ 40) = true := decide_eq_true (by omega)); clear c18
       by_cases c19 : (l1_0.length : Int) = (wrap64 ((l0.length : Int) + 1))
       · rw [if_pos c19] at H
         (have c19b0 : ((l1_0.length : Int) == (wrap64 ((l0.length : Int) + 1))) = true := beq_iff_eq.mpr c19); (have c19b1 : ((l1_0.length : Int) != (wrap64 ((l0.length : Int) + 1))) = false := bne_eq_false_iff_eq.mpr c19); clear c19; obtain ⟨t564, A20, H⟩ := bs H; (try dsimp only at H); obtain rfl := Option.some.inj H; obtain ⟨hcz21_0, hcz21_1, hfz21_0, hfz21_1⟩ := cel2 q4; (go_wp2_with (first | (go_at_call 48; (with_reducible refine (impl_InRange.calls a1_1 0 1000 t564 _ A20.out).mono ?_); rintro e w' ⟨rfl, ⟨nd, rfl⟩⟩))); go_ret; (exact ⟨er, by exact hz⟩)
       · rw [if_neg c19] at H
         (have c19b0 : ((l1_0.length : Int) == (wrap64 ((l0.length : Int) + 1))) = false := beq_eq_false_iff_ne.mpr c19); (have c19b1 : ((l1_0.length : Int) != (wrap64 ((l0.length : Int) + 1))) = true := bne_iff_ne.mpr c19); obtain rfl := Option.some.inj H; obtain ⟨hcz22_0, hcz22_1, hfz22_0, hfz22_1⟩ := cel2 q4; (go_wp2); go_ret; (exact ⟨er, by exact hz⟩)
     · rw [if_neg c18] at H
       (have c18b0 : decide ((l0.length : Int) ≤ 40) = false := decide_eq_false c18); (have c18b1 : decide (l0.length ≤ 40) = false := decide_eq_false (by omega)); clear c18; obtain rfl := Option.some.inj H; (go_wp2); go_ret; (exact ⟨er, by exact hz⟩)
/-! ### impl_SurelyBetween: function 27 -/
def impl_SurelyBetween.l0 : Nat → Int → Int → Int → List Int → Int → Int → Option (Int × Int)
 | 0, _, _, _, _, _, _ => none
 | k + 1, x1, x6, x7, x11, x12, x13 => if x13 < x12 then (if 0 ≤ x13 then (if x13 < (x11.length : Int) then (if (rd x11 x13) ≤ x1 then (if x6 < 0 then (impl_SurelyBetween.l0 k x1 x13 x13 x11 x12 (wrap64 (x13 + 1))) else (impl_SurelyBetween.l0 k x1 x6 x13 x11 x12 (wrap64 (x13 + 1)))) else (impl_SurelyBetween.l0 k x1 x6 x7 x11 x12 (wrap64 (x13 + 1)))) else (none)) else (none)) else (some (x6, x7))
def impl_SurelyBetween.f (k : Nat) (l0_0 : List Int) (a0_1 : Int) (a1 : Int) : Option (Int × Int) := impl_SurelyBetween.l0 k a1 (-1) (-1) l0_0 (l0_0.length : Int) 0
theorem impl_SurelyBetween.mono_l : ∀ k, (∀ y0 y1 y2 y3 y4 y5, LeO (impl_SurelyBetween.l0 k y0 y1 y2 y3 y4 y5) (impl_SurelyBetween.l0 (k + 1) y0 y1 y2 y3 y4 y5))
 | 0 => fun _ _ _ _ _ _ r h => by simp [impl_SurelyBetween.l0] at h
 | k + 1 => by
  have ih0 := impl_SurelyBetween.mono_l k; (intro y0 y1 y2 y3 y4 y5; unfold impl_SurelyBetween.l0; exact mo)
theorem impl_SurelyBetween.mono : ∀ a0 a1 a2 k, LeO (impl_SurelyBetween.f k a0 a1 a2) (impl_SurelyBetween.f (k + 1) a0 a1 a2) := by
 intro a0 a1 a2 k; have ih0 := impl_SurelyBetween.mono_l k; unfold impl_SurelyBetween.f; exact mo
theorem impl_SurelyBetween.calls (k : Nat) (A0_0 : Option Addr) (c0_0 : Nat) (l0_0 : List Int) (a0_1 : Int) (a1 : Int) (r1 : Int) (r2 : Int) (w : World) (hr0_0 : Kd.C (Kd.int .i64) w A0_0 l0_0.length l0_0) (hc0_0 : l0_0.length ≤ c0_0) (h : impl_SurelyBetween.f k l0_0 a0_1 a1 = some (r1, r2)) :
 Calls Try.prog 27 #[.agg #[.slice A0_0 l0_0.length c0_0, .int .i64 a0_1], .int .i64 a1] w fun e w' => e = .returned (.tuple #[.int .i64 r1, .int .i64 r2]) ∧ Below w.heap.size w w' := by
 have hu40 := Try.underlying40; have HR0_0 := ai hr0_0; have HC0_0 := ai hc0_0; clear hr0_0 hc0_0; have HB := ai (Below.refl w.heap.size w); (have H : (impl_SurelyBetween.l0 k a1 (-1) (-1) l0_0 (l0_0.length : Int) 0) = some (r1, r2) := h); clear h; (have H' := ai H); clear H; go_enter Try.func27, Try.ntmps27; (go_wp2_with (first | ((with_reducible refine gate_dst (N := 2) rfl ?_); refine bx 2 #[.slice A0_0 l0_0.length c0_0, .int .i64 a0_1] 40 ?_; intro qh hg w3 hbox hb; have qd := ai hbox; have qo := gs w hg; replace HB := sb hb; clear hb hbox hg; obtain ⟨hcz4_0, hcz4_1, hfz4_0, hfz4_1⟩ := cel2 qd))); (go_loopg [6, 7, 13] k (fun kq v6 v7 v13 w' => ∃ (x6_1 : Int) (x7_1 : Int) (x13_1 : Int), v6 = .int .i64 x6_1 ∧ v7 = .int .i64 x7_1 ∧ v13 = .int .i64 x13_1 ∧ Aside0 (impl_SurelyBetween.l0 kq a1 x6_1 x7_1 l0_0 (l0_0.length : Int) x13_1 = some (r1, r2)) ∧ Aside0 (kq ≤ k) ∧ Aside0 (w'.heap[qh]? = some (.cells #[(.slice A0_0 l0_0.length c0_0), .int .i64 a0_1] 40 (0, 0))) ∧ Aside0 (Below w.heap.size w w')))
 case atStart => exact ⟨((-1)), ((-1)), (0), rf, rf, rf, H', ⟨Nat.le_refl _⟩, ⟨bh qd⟩, ⟨by exact hz⟩⟩
 case round =>
  clear H'; (try clear c2); (try clear p2); (try clear hcz4_0); (try clear hcz4_1); (try clear hfz4_0); (try clear hfz4_1); obtain ⟨x6_1, x7_1, x13_1, rfl, rfl, rfl, HA, HK1, qd, HB⟩ := hrel
  cases gk with
  | zero => exact absurd HA.out (by simp [impl_SurelyBetween.l0])
  | succ k1 =>
   have H := HA.out; clear HA; (simp only [impl_SurelyBetween.l0] at H)
   by_cases c5 : x13_1 < (l0_0.length : Int)
   · rw [if_pos c5] at H
     (have c5b0 : decide (x13_1 < (l0_0.length : Int)) = true := decide_eq_true c5); clear c5
     by_cases c6 : 0 ≤ x13_1
     · rw [if_pos c6] at H
       (have c6b0 : decide (0 ≤ x13_1) = true := decide_eq_true c6); clear c6
       by_cases c7 : x13_1 < (l0_0.length : Int)
       · rw [if_pos c7] at H
         (have c7b0 : decide (x13_1 < (l0_0.length : Int)) = true := decide_eq_true c7); clear c7
         by_cases c8 : (rd l0_0 x13_1) ≤ a1
         · rw [if_pos c8] at H
           (have c8b0 : decide ((rd l0_0 x13_1) ≤ a1) = true := decide_eq_true c8); clear c8
           by_cases c9 : x6_1 < 0
           · rw [if_pos c9] at H
             (have c9b0 : decide (x6_1 < 0) = true := decide_eq_true c9); clear c9; (have H' := ai H); clear H; (have p570 : 0 ≤ (x13_1 : Int) := od); (have q570 : x13_1 < (l0_0.length : Int) := od); obtain ⟨ad570, e570, hx570_0⟩ := Kd.at_int HR0_0.out x13_1 p570 q570
             cases e570
             replace hx570_0 := hxB HB hx570_0; replace p570 := eq_true p570; replace q570 := eq_true q570; (go_wp2); (go_roundg k1)
             case measure => have := HK1.out; omega
             case rel => exact ⟨(x13_1), (x13_1), (wrap64 (x13_1 + 1)), rf, rf, rf, H', ⟨by have := HK1.out; omega⟩, ⟨bh qd⟩, ⟨by exact hz⟩⟩
           · rw [if_neg c9] at H
             (have c9b0 : decide (x6_1 < 0) = false := decide_eq_false c9); clear c9; (have H' := ai H); clear H; (have p570 : 0 ≤ (x13_1 : Int) := od); (have q570 : x13_1 < (l0_0.length : Int) := od); obtain ⟨ad570, e570, hx570_0⟩ := Kd.at_int HR0_0.out x13_1 p570 q570
             cases e570
             replace hx570_0 := hxB HB hx570_0; replace p570 := eq_true p570; replace q570 := eq_true q570; (go_wp2); (go_roundg k1)
             case measure => have := HK1.out; omega
             case rel => exact ⟨(x6_1), (x13_1), (wrap64 (x13_1 + 1)), rf, rf, rf, H', ⟨by have := HK1.out; omega⟩, ⟨bh qd⟩, ⟨by exact hz⟩⟩
         · rw [if_neg c8] at H
           (have c8b0 : decide ((rd l0_0 x13_1) ≤ a1) = false := decide_eq_false c8); clear c8; (have H' := ai H); clear H; (have p570 : 0 ≤ (x13_1 : Int) := od); (have q570 : x13_1 < (l0_0.length : Int) := od); obtain ⟨ad570, e570, hx570_0⟩ := Kd.at_int HR0_0.out x13_1 p570 q570
           cases e570
           replace hx570_0 := hxB HB hx570_0; replace p570 := eq_true p570; replace q570 := eq_true q570; (go_wp2); (go_roundg k1)
           case measure => have := HK1.out; omega
           case rel => exact ⟨(x6_1), (x7_1), (wrap64 (x13_1 + 1)), rf, rf, rf, H', ⟨by have := HK1.out; omega⟩, ⟨bh qd⟩, ⟨by exact hz⟩⟩
       · exact (nn c7 H).elim
     · exact (nn c6 H).elim
   · rw [if_neg c5] at H
     (have c5b0 : decide (x13_1 < (l0_0.length : Int)) = false := decide_eq_false c5); clear c5; (simp only [Option.some.injEq, Prod.mk.injEq] at H); obtain ⟨rfl, rfl⟩ := H; (go_wp2); (go_ret2); (exact ⟨er, by exact hz⟩)
/-! ### impl_IsCue: function 44 -/
def impl_IsCue.l0 : Nat → List Int → Int → Int → List Int → List Int → Option (Bool)
 | 0, _, _, _, _, _ => none
 | k + 1, x6, x7, x8, x572000, x572001 => if x8 < x7 then (if 0 ≤ x8 then (if x8 < (x6.length : Int) then ((impl_InRange.f (rd x6 x8) 0 2000).bind fun t573 => (if t573 = true then (if x8 > 0 then (if 0 ≤ (wrap64 (x8 - 1)) then (if (wrap64 (x8 - 1)) < (x572001.length : Int) then (if (rd x572001 (wrap64 (x8 - 1))) > (rd x6 x8) then (some false) else (impl_IsCue.l0 k x6 x7 (wrap64 (x8 + 1)) x572000 x572001)) else (none)) else (none)) else (impl_IsCue.l0 k x6 x7 (wrap64 (x8 + 1)) x572000 x572001)) else (some false))) else (none)) else (none)) else (if (x572000.length : Int) ≤ 40 then (some ((x572001.length : Int) == (x572000.length : Int))) else (some false))
def impl_IsCue.f (k : Nat) (l0_0 : List Int) (l0_1 : List Int) : Option (Bool) := impl_IsCue.l0 k l0_1 (l0_1.length : Int) 0 l0_0 l0_1
theorem impl_IsCue.mono_l : ∀ k, (∀ y0 y1 y2 y3 y4, LeO (impl_IsCue.l0 k y0 y1 y2 y3 y4) (impl_IsCue.l0 (k + 1) y0 y1 y2 y3 y4))
 | 0 => fun _ _ _ _ _ r h => by simp [impl_IsCue.l0] at h
 | k + 1 => by
  have ih0 := impl_IsCue.mono_l k; (intro y0 y1 y2 y3 y4; unfold impl_IsCue.l0; exact mo)
theorem impl_IsCue.mono : ∀ a0 a1 k, LeO (impl_IsCue.f k a0 a1) (impl_IsCue.f (k + 1) a0 a1) := by
 intro a0 a1 k; have ih0 := impl_IsCue.mono_l k; unfold impl_IsCue.f; exact mo
theorem impl_IsCue.calls (k : Nat) (A0_0 : Option Addr) (c0_0 : Nat) (l0_0 : List Int) (A0_1 : Option Addr) (c0_1 : Nat) (l0_1 : List Int) (r : Bool) (w : World) (hr0_0 : Kd.C (Kd.int .i64) w A0_0 l0_0.length l0_0) (hc0_0 : l0_0.length ≤ c0_0) (hr0_1 : Kd.C (Kd.int .i64) w A0_1 l0_1.length l0_1) (hc0_1 : l0_1.length ≤ c0_1) (h : impl_IsCue.f k l0_0 l0_1 = some r) :
 Calls Try.prog 44 #[.agg #[.slice A0_0 l0_0.length c0_0, .slice A0_1 l0_1.length c0_1]] w fun e w' => e = .returned (.bool r) ∧ Below w.heap.size w w' := by
 have hu29 := Try.underlying29; have HR0_0 := ai hr0_0; have HC0_0 := ai hc0_0; clear hr0_0 hc0_0; have HR0_1 := ai hr0_1; have HC0_1 := ai hc0_1; clear hr0_1 hc0_1; have HB := ai (Below.refl w.heap.size w); (have H : (impl_IsCue.l0 k l0_1 (l0_1.length : Int) 0 l0_0 l0_1) = some r := h); clear h; (have H' := ai H); clear H; go_enter Try.func44, Try.ntmps44; (go_wp2_with (first | ((with_reducible refine gate_dst (N := 1) rfl ?_); (try (refine gate_guard (by rfl) ?_; dsimp only)); refine bx 1 #[.slice A0_0 l0_0.length c0_0, .slice A0_1 l0_1.length c0_1] 29 ?_; intro qi hg w2 hbox hb; have q5 := ai hbox; have qp := gs w hg; replace HB := sb hb; clear hb hbox hg; obtain ⟨hcz3_0, hcz3_1, hfz3_0, hfz3_1⟩ := cel2 q5))); (go_loopg [8] k (fun kq v8 w' => ∃ (x8_1 : Int), v8 = .int .i64 x8_1 ∧ Aside0 (impl_IsCue.l0 kq l0_1 (l0_1.length : Int) x8_1 l0_0 l0_1 = some r) ∧ Aside0 (kq ≤ k) ∧ Aside0 (w'.heap[qi]? = some (.cells #[(.slice A0_0 l0_0.length c0_0), (.slice A0_1 l0_1.length c0_1)] 29 (0, 0))) ∧ Aside0 (Below w.heap.size w w')))
 case atStart => exact ⟨(0), rf, H', ⟨Nat.le_refl _⟩, ⟨bh q5⟩, ⟨by exact hz⟩⟩
 case round =>
  clear H'; (try clear p2); (try clear hcz3_0); (try clear hcz3_1); (try clear hfz3_0); (try clear hfz3_1); obtain ⟨x8_1, rfl, HA, HK1, q5, HB⟩ := hrel
  cases gk with
  | zero => exact absurd HA.out (by simp [impl_IsCue.l0])
  | succ k1 =>
   have H := HA.out; clear HA; (simp only [impl_IsCue.l0] at H)
   by_cases c4 : x8_1 < (l0_1.length : Int)
   · rw [if_pos c4] at H
     (have c4b0 : decide (x8_1 < (l0_1.length : Int)) = true := decide_eq_true c4); clear c4
     by_cases c5 : 0 ≤ x8_1
     · rw [if_pos c5] at H
       (have c5b0 : decide (0 ≤ x8_1) = true := decide_eq_true c5); clear c5
       by_cases c6 : x8_1 < (l0_1.length : Int)
       · rw [if_pos c6] at H
         (have c6b0 : decide (x8_1 < (l0_1.length : Int)) = true := decide_eq_true c6); clear c6; obtain ⟨t573, A7, H⟩ := bs H; (try dsimp only at H)
         by_cases c8 : t573 = true
         · subst c8
           rw [if_pos rfl] at H
           by_cases c9 : x8_1 > 0
           · rw [if_pos c9] at H
             (have c9b0 : decide (0 < x8_1) = true := decide_eq_true c9); clear c9; obtain ⟨ji10, hji10⟩ : ∃ j_ : Int, (wrap64 (x8_1 - 1)) = j_ := ⟨_, rfl⟩; (replace H : (if 0 ≤ (ji10) then (if (ji10) < (l0_1.length : Int) then (if (rd l0_1 (ji10)) > (rd l0_1 x8_1) then (some false) else (impl_IsCue.l0 k1 l0_1 (l0_1.length : Int) (wrap64 (x8_1 + 1)) l0_0 l0_1)) else (none)) else (none)) = some r := by first | (rw [hji10] at H; exact H) | (simp only [hji10] at H ⊢; exact H)); ((try rw [hji10] at A7)); (have hji10w : (IntKind.i64.wrap (x8_1 - 1)) = ji10 := (i64_w _).trans hji10)
             by_cases c11 : 0 ≤ (ji10)
             · rw [if_pos c11] at H
               (have c11b0 : decide (0 ≤ (ji10)) = true := decide_eq_true c11); clear c11
               by_cases c12 : (ji10) < (l0_1.length : Int)
               · rw [if_pos c12] at H
                 (have c12b0 : decide ((ji10) < (l0_1.length : Int)) = true := decide_eq_true c12); clear c12
                 by_cases c13 : (rd l0_1 (ji10)) > (rd l0_1 x8_1)
                 · rw [if_pos c13] at H
                   (have c13b0 : decide ((rd l0_1 x8_1) < (rd l0_1 (ji10))) = true := decide_eq_true c13); clear c13; obtain rfl := Option.some.inj H; (have p572 : 0 ≤ (x8_1 : Int) := od); (have q572 : x8_1 < (l0_1.length : Int) := od); obtain ⟨ad572, e572, hx572_0⟩ := Kd.at_int HR0_1.out x8_1 p572 q572
                   cases e572
                   replace hx572_0 := hxB HB hx572_0; replace p572 := eq_true p572; replace q572 := eq_true q572; (go_wp2_with (first | ((with_reducible refine gate_callee (f := 48) rfl ?_); refine goesL_ (some 14) rfl rfl Try.func48 (by kernel_rfl) rfl #[.int .i64 (rd l0_1 x8_1), .int .i64 0, .int .i64 2000] rfl ma ?_; (with_reducible refine (impl_InRange.calls (rd l0_1 x8_1) 0 2000 true _ A7.out).mono ?_); rintro e w' ⟨rfl, ⟨nd, rfl⟩⟩; refine ⟨_, rfl, ?_⟩; obtain ⟨hcz14_0, hcz14_1, hfz14_0, hfz14_1⟩ := cel2 q5; have p574 : 0 ≤ ((ji10) : Int) := od; have q574 : (ji10) < (l0_1.length : Int) := od; obtain ⟨ad574, e574, hx574_0⟩ := Kd.at_int HR0_1.out (ji10) p574 q574; obtain rfl : ad572 = ad574 := (by injection e574); replace hx574_0 := hxB HB hx574_0; replace p574 := eq_true p574; replace q574 := eq_true q574))); go_ret; (exact ⟨by first | rfl | (simp [errW_none, errW_some] <;> rfl) | (simp only [← hji10]; first | rfl | (simp [errW_none, errW_some] <;> rfl)) | (simp [*, errW_none, errW_some] <;> rfl), by exact hz⟩)
                 · rw [if_neg c13] at H
                   (have c13b0 : decide ((rd l0_1 x8_1) < (rd l0_1 (ji10))) = false := decide_eq_false c13); clear c13; (have H' := ai H); clear H; (have p572 : 0 ≤ (x8_1 : Int) := od); (have q572 : x8_1 < (l0_1.length : Int) := od); obtain ⟨ad572, e572, hx572_0⟩ := Kd.at_int HR0_1.out x8_1 p572 q572
                   cases e572
                   replace hx572_0 := hxB HB hx572_0; replace p572 := eq_true p572; replace q572 := eq_true q572; (go_wp2_with (first | ((with_reducible refine gate_callee (f := 48) rfl ?_); refine goesL_ (some 14) rfl rfl Try.func48 (by kernel_rfl) rfl #[.int .i64 (rd l0_1 x8_1), .int .i64 0, .int .i64 2000] rfl ma ?_; (with_reducible refine (impl_InRange.calls (rd l0_1 x8_1) 0 2000 true _ A7.out).mono ?_); rintro e w' ⟨rfl, ⟨nd, rfl⟩⟩; refine ⟨_, rfl, ?_⟩; obtain ⟨hcz15_0, hcz15_1, hfz15_0, hfz15_1⟩ := cel2 q5; have p574 : 0 ≤ ((ji10) : Int) := od; have q574 : (ji10) < (l0_1.length : Int) := od; obtain ⟨ad574, e574, hx574_0⟩ := Kd.at_int HR0_1.out (ji10) p574 q574; obtain rfl : ad572 = ad574 := (by injection e574); replace hx574_0 := hxB HB hx574_0; replace p574 := eq_true p574; replace q574 := eq_true q574))); (go_roundg k1)
                   case measure => have := HK1.out; omega
                   case rel => exact ⟨(wrap64 (x8_1 + 1)), rf, (by first | exact H' | (have H2_ := H'; (try simp only [← hji10] at H2_); (try simp only [← hji10]); exact H2_)), ⟨by have := HK1.out; omega⟩, ⟨bh q5⟩, ⟨by exact hz⟩⟩
               · exact (nn c12 H).elim
             · exact (nn c11 H).elim
           · rw [if_neg c9] at H
             (have c9b0 : decide (0 < x8_1) = false := decide_eq_false c9); clear c9; (have H' := ai H); clear H; (have p572 : 0 ≤ (x8_1 : Int) := od); (have q572 : x8_1 < (l0_1.length : Int) := od); obtain ⟨ad572, e572, hx572_0⟩ := Kd.at_int HR0_1.out x8_1 p572 q572
             cases e572
             replace hx572_0 := hxB HB hx572_0; replace p572 := eq_true p572; replace q572 := eq_true q572; (go_wp2_with (first | ((with_reducible refine gate_callee (f := 48) rfl ?_); refine goesL_ (some 14) rfl rfl Try.func48 (by kernel_rfl) rfl #[.int .i64 (rd l0_1 x8_1), .int .i64 0, .int .i64 2000] rfl ma ?_; (with_reducible refine (impl_InRange.calls (rd l0_1 x8_1) 0 2000 true _ A7.out).mono ?_); rintro e w' ⟨rfl, ⟨nd, rfl⟩⟩; refine ⟨_, rfl, ?_⟩))); (go_roundg k1)
             case measure => have := HK1.out; omega
             case rel => exact ⟨(wrap64 (x8_1 + 1)), rf, H', ⟨by have := HK1.out; omega⟩, ⟨bh q5⟩, ⟨by exact hz⟩⟩
         · replace c8 := Bool.eq_false_iff.mpr c8
           subst c8; rw [if_neg (show ¬ (false = true) by decide)] at H; obtain rfl := Option.some.inj H; (have p572 : 0 ≤ (x8_1 : Int) := od); (have q572 : x8_1 < (l0_1.length : Int) := od); obtain ⟨ad572, e572, hx572_0⟩ := Kd.at_int HR0_1.out x8_1 p572 q572
           cases e572
           replace hx572_0 := hxB HB hx572_0; replace p572 := eq_true p572; replace q572 := eq_true q572; (go_wp2_with (first | ((with_reducible refine gate_callee (f := 48) rfl ?_); refine goesL_ (some 14) rfl rfl Try.func48 (by kernel_rfl) rfl #[.int .i64 (rd l0_1 x8_1), .int .i64 0, .int .i64 2000] rfl ma ?_; (with_reducible refine (impl_InRange.calls (rd l0_1 x8_1) 0 2000 false _ A7.out).mono ?_); rintro e w' ⟨rfl, ⟨nd, rfl⟩⟩; refine ⟨_, rfl, ?_⟩))); go_ret; (exact ⟨er, by exact hz⟩)
       · exact (nn c6 H).elim
     · exact (nn c5 H).elim
   · rw [if_neg c4] at H
     (have c4b0 : decide (x8_1 < (l0_1.length : Int)) = false := decide_eq_false c4); clear c4
     by_cases c16 : (l0_0.length : Int) ≤ 40
     · rw [if_pos c16] at H
       (have c16b0 : decide ((l0_0.length : Int) ≤ 40) = true := decide_eq_true c16); (have c16b1 : decide (l0_0.length ≤ 40) = true := decide_eq_true (by omega)); clear c16; obtain rfl := Option.some.inj H; obtain ⟨hcz17_0, hcz17_1, hfz17_0, hfz17_1⟩ := cel2 q5; (go_wp2); go_ret; (exact ⟨er, by exact hz⟩)
     · rw [if_neg c16] at H
       (have c16b0 : decide ((l0_0.length : Int) ≤ 40) = false := decide_eq_false c16); (have c16b1 : decide (l0_0.length ≤ 40) = false := decide_eq_false (by omega)); clear c16; obtain rfl := Option.some.inj H; obtain ⟨hcz18_0, hcz18_1, hfz18_0, hfz18_1⟩ := cel2 q5; (go_wp2); go_ret; (exact ⟨er, by exact hz⟩)
/-! ### impl_SureTick: function 14 -/
def impl_SureTick.f (k : Nat) (l0_0 : List Int) (l0_1 : List Int) (l1_0 : List Int) (a1_1 : Int) (a2 : Int) : Option (Int) := (impl_SurelyBetween.f k l1_0 a1_1 a2).bind fun bt577 => (if bt577.1 < 1 then (some (-1)) else ((impl_IsCue.f k l0_0 l0_1).bind fun t579 => (if t579 = true then ((impl_IsFollower.f k l0_0 l1_0 a1_1).bind fun t580 => (if t580 = true then (if 0 ≤ (wrap64 (bt577.1 - 1)) then (if (wrap64 (bt577.1 - 1)) < (l0_1.length : Int) then (some (rd l0_1 (wrap64 (bt577.1 - 1)))) else (none)) else (none)) else (some (-1)))) else (some (-1)))))
theorem impl_SureTick.mono : ∀ a0 a1 a2 a3 a4 k, LeO (impl_SureTick.f k a0 a1 a2 a3 a4) (impl_SureTick.f (k + 1) a0 a1 a2 a3 a4) := by
 intro a0 a1 a2 a3 a4 k; unfold impl_SureTick.f; (have m0 := @impl_IsCue.mono; have m1 := @impl_IsFollower.mono; have m2 := @impl_SurelyBetween.mono; exact mo)
theorem impl_SureTick.calls (k : Nat) (A0_0 : Option Addr) (c0_0 : Nat) (l0_0 : List Int) (A0_1 : Option Addr) (c0_1 : Nat) (l0_1 : List Int) (A1_0 : Option Addr) (c1_0 : Nat) (l1_0 : List Int) (a1_1 : Int) (a2 : Int) (r : Int) (w : World) (hr0_0 : Kd.C (Kd.int .i64) w A0_0 l0_0.length l0_0) (hc0_0 : l0_0.length ≤ c0_0) (hr0_1 : Kd.C (Kd.int .i64) w A0_1 l0_1.length l0_1) (hc0_1 : l0_1.length ≤ c0_1) (hr1_0 : Kd.C (Kd.int .i64) w A1_0 l1_0.length l1_0) (hc1_0 : l1_0.length ≤ c1_0) (h : impl_SureTick.f k l0_0 l0_1 l1_0 a1_1 a2 = some r) :
 Calls Try.prog 14 #[.agg #[.slice A0_0 l0_0.length c0_0, .slice A0_1 l0_1.length c0_1], .agg #[.slice A1_0 l1_0.length c1_0, .int .i64 a1_1], .int .i64 a2] w fun e w' => e = .returned (.int .i64 r) ∧ Below w.heap.size w w' := by
 have hu29 := Try.underlying29; have hu40 := Try.underlying40; have HR0_0 := ai hr0_0; have HC0_0 := ai hc0_0; clear hr0_0 hc0_0; have HR0_1 := ai hr0_1; have HC0_1 := ai hc0_1; clear hr0_1 hc0_1; have HR1_0 := ai hr1_0; have HC1_0 := ai hc1_0; clear hr1_0 hc1_0; have HB := ai (Below.refl w.heap.size w); (have H : ((impl_SurelyBetween.f k l1_0 a1_1 a2).bind fun bt577 => (if bt577.1 < 1 then (some (-1)) else ((impl_IsCue.f k l0_0 l0_1).bind fun t579 => (if t579 = true then ((impl_IsFollower.f k l0_0 l1_0 a1_1).bind fun t580 => (if t580 = true then (if 0 ≤ (wrap64 (bt577.1 - 1)) then (if (wrap64 (bt577.1 - 1)) < (l0_1.length : Int) then (some (rd l0_1 (wrap64 (bt577.1 - 1)))) else (none)) else (none)) else (some (-1)))) else (some (-1)))))) = some r := h); clear h; obtain ⟨⟨t577, t578⟩, A4, H⟩ := bs H; (try dsimp only at H)
 by_cases c5 : t577 < 1
 · rw [if_pos c5] at H
   (have c5b0 : decide (t577 < 1) = true := decide_eq_true c5); clear c5; obtain rfl := Option.some.inj H; go_enter Try.func14, Try.ntmps14; (go_wp2_with (first | ((with_reducible refine gate_dst (N := 3) rfl ?_); refine bx 3 #[.slice A0_0 l0_0.length c0_0, .slice A0_1 l0_1.length c0_1] 29 ?_; intro q6 hg w6 hbox hb; have q1 := ai hbox; have qj := gs w hg; replace HB := sb hb; clear hb hbox hg) | ((with_reducible refine gate_dst (N := 4) rfl ?_); refine bx 4 #[.slice A1_0 l1_0.length c1_0, .int .i64 a1_1] 40 ?_; intro q7 hg w7 hbox hb; have q2 := ai hbox; have qk := gs w hg; replace HB := sb hb; have q9 := nl hg q1; have qa := ng hg q1; replace q1 := ai (bb q1.out hb); clear hb hbox hg; have hnb8 := qa.out; have hnc8 := q9.out; obtain ⟨hcz9_0, hcz9_1, hfz9_0, hfz9_1⟩ := cel2 q2) | ((with_reducible refine gate_callee (f := 27) rfl ?_); refine goesL_ (some 12) rfl rfl Try.func27 (by kernel_rfl) rfl #[.agg #[.slice A1_0 l1_0.length c1_0, .int .i64 a1_1], .int .i64 a2] rfl ma ?_; (with_reducible refine (impl_SurelyBetween.calls k _ _ l1_0 a1_1 a2 t577 t578 _ ?side1 ?side2 A4.out).mono ?_); (case side1 => exact ca (Kd.C_below HR1_0.out HB.out)); (case side2 => exact HC1_0.out); rintro e w10 ⟨rfl, hb⟩; refine ⟨_, rfl, ?_⟩; replace q1 := ai (bb q1.out hb); replace q2 := ai (bb q2.out hb); replace HB := sb hb; (try clear hb); (try clear hb2); (try clear hk); (try clear hi)))); go_ret; (exact ⟨er, by exact hz⟩)
 · rw [if_neg c5] at H
   (have c5b0 : decide (t577 < 1) = false := decide_eq_false c5); clear c5; obtain ⟨t579, A11, H⟩ := bs H; (try dsimp only at H)
   by_cases c12 : t579 = true
   · subst c12
     rw [if_pos rfl] at H; obtain ⟨t580, A13, H⟩ := bs H; (try dsimp only at H)
     by_cases c14 : t580 = true
     · subst c14
       rw [if_pos rfl] at H; obtain ⟨ji15, hji15⟩ : ∃ j_ : Int, (wrap64 (t577 - 1)) = j_ := ⟨_, rfl⟩; (replace H : (if 0 ≤ (ji15) then (if (ji15) < (l0_1.length : Int) then (some (rd l0_1 (ji15))) else (none)) else (none)) = some r := by first | (rw [hji15] at H; exact H) | (simp only [hji15] at H ⊢; exact H)); ((try rw [hji15] at A4)); ((try rw [hji15] at A11)); ((try rw [hji15] at A13)); (have hji15w : (IntKind.i64.wrap (t577 - 1)) = ji15 := (i64_w _).trans hji15)
       by_cases c16 : 0 ≤ (ji15)
       · rw [if_pos c16] at H
         (have c16b0 : decide (0 ≤ (ji15)) = true := decide_eq_true c16); clear c16
         by_cases c17 : (ji15) < (l0_1.length : Int)
         · rw [if_pos c17] at H
           (have c17b0 : decide ((ji15) < (l0_1.length : Int)) = true := decide_eq_true c17); clear c17; obtain rfl := Option.some.inj H; go_enter Try.func14, Try.ntmps14
           (go_wp2_with (first | ((with_reducible refine gate_dst (N := 3) rfl ?_); refine bx 3 #[.slice A0_0 l0_0.length c0_0, .slice A0_1 l0_1.length c0_1] 29 ?_; intro q6 hg w18 hbox hb; have q1 := ai hbox; have qj := gs w hg; replace HB := sb hb; clear hb hbox hg) | ((with_reducible refine gate_dst (N := 4) rfl ?_); refine bx 4 #[.slice A1_0 l1_0.length c1_0, .int .i64 a1_1] 40 ?_; intro q7 hg w19 hbox hb; have q2 := ai hbox; have qk := gs w hg; replace HB := sb hb; have q9 := nl hg q1; have qa := ng hg q1; replace q1 := ai (bb q1.out hb); clear hb hbox hg; have hnb20 := qa.out; have hnc20 := q9.out; obtain ⟨hcz21_0, hcz21_1, hfz21_0, hfz21_1⟩ := cel2 q2) | ((with_reducible refine gate_callee (f := 27) rfl ?_); refine goesL_ (some 12) rfl rfl Try.func27 (by kernel_rfl) rfl #[.agg #[.slice A1_0 l1_0.length c1_0, .int .i64 a1_1], .int .i64 a2] rfl ma ?_; (with_reducible refine (impl_SurelyBetween.calls k _ _ l1_0 a1_1 a2 t577 t578 _ ?side1 ?side2 A4.out).mono ?_); (case side1 => exact ca (Kd.C_below HR1_0.out HB.out)); (case side2 => exact HC1_0.out); rintro e w22 ⟨rfl, hb⟩; refine ⟨_, rfl, ?_⟩; replace q1 := ai (bb q1.out hb); replace q2 := ai (bb q2.out hb); replace HB := sb hb; (try clear hb); (try clear hb2); (try clear hk); (try clear hi); obtain ⟨hcz23_0, hcz23_1, hfz23_0, hfz23_1⟩ := cel2 q1) | (go_at_call 44; (with_reducible refine (impl_IsCue.calls k _ _ l0_0 _ _ l0_1 true _ ?side1 ?side2 ?side3 ?side4 A11.out).mono ?_); (case side1 => exact ca (Kd.C_below HR0_0.out HB.out)); (case side2 => exact HC0_0.out); (case side3 => exact ca (Kd.C_below HR0_1.out HB.out)); (case side4 => exact HC0_1.out); rintro e w24 ⟨rfl, hb⟩; replace q1 := ai (bb q1.out hb); replace q2 := ai (bb q2.out hb); replace HB := sb hb; (try clear hb); (try clear hb2); (try clear hk); (try clear hi); obtain ⟨hcz25_0, hcz25_1, hfz25_0, hfz25_1⟩ := cel2 q1; obtain ⟨hcz26_0, hcz26_1, hfz26_0, hfz26_1⟩ := cel2 q2) | (go_at_call 18; (with_reducible refine (impl_IsFollower.calls k _ _ l0_0 _ _ l1_0 a1_1 true _ ?side1 ?side2 ?side3 ?side4 A13.out).mono ?_); (case side1 => exact ca (Kd.C_below HR0_0.out HB.out)); (case side2 => exact HC0_0.out); (case side3 => exact ca (Kd.C_below HR1_0.out HB.out)); (case side4 => exact HC1_0.out); rintro e w27 ⟨rfl, hb⟩; replace q1 := ai (bb q1.out hb); replace q2 := ai (bb q2.out hb); replace HB := sb hb; (try clear hb); (try clear hb2); (try clear hk); (try clear hi); obtain ⟨hcz28_0, hcz28_1, hfz28_0, hfz28_1⟩ := cel2 q1; have p581 : 0 ≤ ((ji15) : Int) := od; have q581 : (ji15) < (l0_1.length : Int) := od; obtain ⟨ad581, e581, hx581_0⟩ := Kd.at_int HR0_1.out (ji15) p581 q581; cases e581; replace hx581_0 := hxB HB hx581_0; replace p581 := eq_true p581; replace q581 := eq_true q581)))
           go_ret; (exact ⟨by first | rfl | (simp [errW_none, errW_some] <;> rfl) | (simp only [← hji15]; first | rfl | (simp [errW_none, errW_some] <;> rfl)) | (simp [*, errW_none, errW_some] <;> rfl), by exact hz⟩)
         · exact (nn c17 H).elim
       · exact (nn c16 H).elim
     · replace c14 := Bool.eq_false_iff.mpr c14
       subst c14; rw [if_neg (show ¬ (false = true) by decide)] at H; obtain rfl := Option.some.inj H; go_enter Try.func14, Try.ntmps14
       (go_wp2_with (first | ((with_reducible refine gate_dst (N := 3) rfl ?_); refine bx 3 #[.slice A0_0 l0_0.length c0_0, .slice A0_1 l0_1.length c0_1] 29 ?_; intro q6 hg w29 hbox hb; have q1 := ai hbox; have qj := gs w hg; replace HB := sb hb; clear hb hbox hg) | ((with_reducible refine gate_dst (N := 4) rfl ?_); refine bx 4 #[.slice A1_0 l1_0.length c1_0, .int .i64 a1_1] 40 ?_; intro q7 hg w30 hbox hb; have q2 := ai hbox; have qk := gs w hg; replace HB := sb hb; have q9 := nl hg q1; have qa := ng hg q1; replace q1 := ai (bb q1.out hb); clear hb hbox hg; have hnb31 := qa.out; have hnc31 := q9.out; obtain ⟨hcz32_0, hcz32_1, hfz32_0, hfz32_1⟩ := cel2 q2) | ((with_reducible refine gate_callee (f := 27) rfl ?_); refine goesL_ (some 12) rfl rfl Try.func27 (by kernel_rfl) rfl #[.agg #[.slice A1_0 l1_0.length c1_0, .int .i64 a1_1], .int .i64 a2] rfl ma ?_; (with_reducible refine (impl_SurelyBetween.calls k _ _ l1_0 a1_1 a2 t577 t578 _ ?side1 ?side2 A4.out).mono ?_); (case side1 => exact ca (Kd.C_below HR1_0.out HB.out)); (case side2 => exact HC1_0.out); rintro e w33 ⟨rfl, hb⟩; refine ⟨_, rfl, ?_⟩; replace q1 := ai (bb q1.out hb); replace q2 := ai (bb q2.out hb); replace HB := sb hb; (try clear hb); (try clear hb2); (try clear hk); (try clear hi); obtain ⟨hcz34_0, hcz34_1, hfz34_0, hfz34_1⟩ := cel2 q1) | (go_at_call 44; (with_reducible refine (impl_IsCue.calls k _ _ l0_0 _ _ l0_1 true _ ?side1 ?side2 ?side3 ?side4 A11.out).mono ?_); (case side1 => exact ca (Kd.C_below HR0_0.out HB.out)); (case side2 => exact HC0_0.out); (case side3 => exact ca (Kd.C_below HR0_1.out HB.out)); (case side4 => exact HC0_1.out); rintro e w35 ⟨rfl, hb⟩; replace q1 := ai (bb q1.out hb); replace q2 := ai (bb q2.out hb); replace HB := sb hb; (try clear hb); (try clear hb2); (try clear hk); (try clear hi); obtain ⟨hcz36_0, hcz36_1, hfz36_0, hfz36_1⟩ := cel2 q1; obtain ⟨hcz37_0, hcz37_1, hfz37_0, hfz37_1⟩ := cel2 q2) | (go_at_call 18; (with_reducible refine (impl_IsFollower.calls k _ _ l0_0 _ _ l1_0 a1_1 false _ ?side1 ?side2 ?side3 ?side4 A13.out).mono ?_); (case side1 => exact ca (Kd.C_below HR0_0.out HB.out)); (case side2 => exact HC0_0.out); (case side3 => exact ca (Kd.C_below HR1_0.out HB.out)); (case side4 => exact HC1_0.out); rintro e w38 ⟨rfl, hb⟩; replace q1 := ai (bb q1.out hb); replace q2 := ai (bb q2.out hb); replace HB := sb hb; (try clear hb); (try clear hb2); (try clear hk); (try clear hi))))
       go_ret; (exact ⟨er, by exact hz⟩)
   · replace c12 := Bool.eq_false_iff.mpr c12
     subst c12; rw [if_neg (show ¬ (false = true) by decide)] at H; obtain rfl := Option.some.inj H; go_enter Try.func14, Try.ntmps14
     (go_wp2_with (first | ((with_reducible refine gate_dst (N := 3) rfl ?_); refine bx 3 #[.slice A0_0 l0_0.length c0_0, .slice A0_1 l0_1.length c0_1] 29 ?_; intro q6 hg w39 hbox hb; have q1 := ai hbox; have qj := gs w hg; replace HB := sb hb; clear hb hbox hg) | ((with_reducible refine gate_dst (N := 4) rfl ?_); refine bx 4 #[.slice A1_0 l1_0.length c1_0, .int .i64 a1_1] 40 ?_; intro q7 hg w40 hbox hb; have q2 := ai hbox; have qk := gs w hg; replace HB := sb hb; have q9 := nl hg q1; have qa := ng hg q1; replace q1 := ai (bb q1.out hb); clear hb hbox hg; have hnb41 := qa.out; have hnc41 := q9.out; obtain ⟨hcz42_0, hcz42_1, hfz42_0, hfz42_1⟩ := cel2 q2) | ((with_reducible refine gate_callee (f := 27) rfl ?_); refine goesL_ (some 12) rfl rfl Try.func27 (by kernel_rfl) rfl #[.agg #[.slice A1_0 l1_0.length c1_0, .int .i64 a1_1], .int .i64 a2] rfl ma ?_; (with_reducible refine (impl_SurelyBetween.calls k _ _ l1_0 a1_1 a2 t577 t578 _ ?side1 ?side2 A4.out).mono ?_); (case side1 => exact ca (Kd.C_below HR1_0.out HB.out)); (case side2 => exact HC1_0.out); rintro e w43 ⟨rfl, hb⟩; refine ⟨_, rfl, ?_⟩; replace q1 := ai (bb q1.out hb); replace q2 := ai (bb q2.out hb); replace HB := sb hb; (try clear hb); (try clear hb2); (try clear hk); (try clear hi); obtain ⟨hcz44_0, hcz44_1, hfz44_0, hfz44_1⟩ := cel2 q1) | (go_at_call 44; (with_reducible refine (impl_IsCue.calls k _ _ l0_0 _ _ l0_1 false _ ?side1 ?side2 ?side3 ?side4 A11.out).mono ?_); (case side1 => exact ca (Kd.C_below HR0_0.out HB.out)); (case side2 => exact HC0_0.out); (case side3 => exact ca (Kd.C_below HR0_1.out HB.out)); (case side4 => exact HC0_1.out); rintro e w45 ⟨rfl, hb⟩; replace q1 := ai (bb q1.out hb); replace q2 := ai (bb q2.out hb); replace HB := sb hb; (try clear hb); (try clear hb2); (try clear hk); (try clear hi))))
     go_ret; (exact ⟨er, by exact hz⟩)
/-! ### impl_clone_int: function 46 -/
def impl_clone_int.f (l0 : List Int) : Option (List Int) := (some (([] : List Int) : List Int)).bind fun y582 => (if y582.length + l0.length < 17592186044416 then (some (y582 ++ l0)) else (none))
theorem impl_clone_int.calls (A0 : Option Addr) (c0 : Nat) (l0 : List Int) (r : List Int) (w : World) (hr0 : Kd.C (Kd.int .i64) w A0 l0.length l0) (hc0 : l0.length ≤ c0) (h : impl_clone_int.f l0 = some r) :
 Calls Try.prog 46 #[.slice A0 l0.length c0] w fun e w' => ∃ v0_ : Value, e = .returned (v0_) ∧ Kd.R (Kd.int .i64) 3 w' w.heap.size (fun _ => True) v0_ r ∧ Below w.heap.size w w' := by
 have HR0 := ai hr0; have HC0 := ai hc0; clear hr0 hc0; have HB := ai (Below.refl w.heap.size w); (have H : ((some (([] : List Int) : List Int)).bind fun y582 => (if y582.length + l0.length < 17592186044416 then (some (y582 ++ l0)) else (none))) = some r := h); clear h; obtain ⟨y582, hy582⟩ : ∃ y_ : List Int, y_ = (([] : List Int)) := ⟨_, rfl⟩; (replace H : (if y582.length + l0.length < 17592186044416 then (some (y582 ++ l0)) else (none)) = some r := by first | (rw [hy582]; with_reducible exact H) | (have H2_ := (Option.bind_some _ _).symm.trans H; rw [hy582]; with_reducible exact H2_) | (have H2_ := (Option.bind_some _ _).symm.trans H; with_reducible exact H2_) | with_reducible exact H | (rw [hy582]; exact H) | exact H); have Ny582 := ai hy582; clear hy582
 by_cases c2 : y582.length + l0.length < 17592186044416
 · rw [if_pos c2] at H
   have LMc2 := ai c2; clear c2; obtain ⟨y585, hy585⟩ : ∃ y_ : List Int, y_ = (y582 ++ l0) := ⟨_, rfl⟩; (first | rw [Option.bind_some, ← hy585] at H | rw [← hy585] at H | replace H := (Option.bind_some _ _).symm.trans H | skip); have Ny585 := ai hy585; clear hy585; obtain rfl := Option.some.inj H; go_enter Try.func46, Try.ntmps46; (go_wp2_with (first | ((with_reducible refine gate_dst (N := 3) rfl ?_); refine Kd.R_lit (Kd.int .i64) _ 3 ?hg (N := 3) ?hd (xs := ([] : List Int)) (inner := []) (ok := fun _ => True) (okp := fun _ => True) ?hr ?hp (fun _ hk => hk) trivial (Below.refl _ _) (Nat.le_refl _) (by simp) ?_; (case hd => rfl); (case hg => rfl); (case hr => first | (go_simp; done) | (go_simp; rfl)); (case hp => exact (Reps.none _ _)); intro v583 w3 ho4 hb hg_ hnew_; clear hg_ hnew_; (first | rw [← Ny582.out] at ho4 | (simp only [Int.reduceToNat] at ho4; rw [← Ny582.out] at ho4)); have ql := ai (Kd.R_lower ho4 (below_size hz)); replace HB := sb hb; clear hb ho4) | ((with_reducible refine gate_builtin (b := .append) (xs := #[.tmp 3, .tmp 4]) rfl ?_); at_builtin; refine Kd.R_append_rows (Kd.int .i64) (w0 := w) w.heap.size rfl (.tmp 3) (.tmp 4) 25 3 (.int .i64 0) 8 rfl Try.underlying25 info3 rfl (by decide) (by omega) v583 y582 l0 _ _ _ (fun _ => True) (fun _ => False) rfl rfl ?aO ?aR (fun _ _ h => h) (fun _ h => h.elim) ?aF ?aB ?aS ?aL ?_; (case aR => exact ca (Kd.C_below HR0.out HB.out)); (case aB => exact hz); (case aF => exact (fun _ _ => trivial)); (case aO => exact (ra ql.out)); (case aS => exact (below_size hz)); (case aL => have := LMc2.out; omega); intro v586 w5 ho hb hg hat; rw [← Ny585.out] at ho; replace HB := ai hb; have qm := ai ho; clear ql; clear ho hb hg hat))); go_ret; (exact ⟨_, er, by refine ra ?_; exact qm.out, by exact hz⟩)
 · exact (nn c2 H).elim
/-! ### impl_unlike: function 47 -/
def impl_unlike.f (a0 : Int) (a1 : Int) : Option (Int) := if a0 = a1 then (some 0) else (some 1)
theorem impl_unlike.calls (a0 : Int) (a1 : Int) (r : Int) (w : World) (h : impl_unlike.f a0 a1 = some r) :
 Calls Try.prog 47 #[.int .i64 a0, .int .i64 a1] w fun e w' => e = .returned (.int .i64 r) ∧ Drawn0 w w' := by
 (have H : (if a0 = a1 then (some 0) else (some 1)) = some r := h); clear h
 by_cases c3 : a0 = a1
 · rw [if_pos c3] at H
   (have c3b0 : (a0 == a1) = true := beq_iff_eq.mpr c3); (have c3b1 : (a0 != a1) = false := bne_eq_false_iff_eq.mpr c3); clear c3; obtain rfl := Option.some.inj H; go_enter Try.func47, Try.ntmps47; (go_wp2); go_ret; exact ⟨by first | rfl | (simp; done) | (simp [*]; done), by repeat (first | exact Drawn0.refl _ | apply Drawn0.step)⟩
 · rw [if_neg c3] at H
   (have c3b0 : (a0 == a1) = false := beq_eq_false_iff_ne.mpr c3); (have c3b1 : (a0 != a1) = true := bne_iff_ne.mpr c3); obtain rfl := Option.some.inj H; go_enter Try.func47, Try.ntmps47; (go_wp2); go_ret; exact ⟨by first | rfl | (simp; done) | (simp [*]; done), by repeat (first | exact Drawn0.refl _ | apply Drawn0.step)⟩
end Go.Proofs.Ytcgkmcnfhobkiaa.PFnNeverAhead
