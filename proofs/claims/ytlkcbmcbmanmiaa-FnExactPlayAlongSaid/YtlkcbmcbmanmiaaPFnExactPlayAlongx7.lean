-- Written for this claim by a program of this repository (wip/tools/print2.py), out of the translation; Lean checks it.
import Derived.Test.YtlkcbmcbmanmiaaPFnExactPlayAlongx0
import Derived.Test.YtlkcbmcbmanmiaaPFnExactPlayAlongx2
import Derived.Test.YtlkcbmcbmanmiaaPFnExactPlayAlongx5
namespace Go.Proofs.Ytlkcbmcbmanmiaa.PFnExactPlayAlong
open Go.RowKit Go.Proofs.YtlkcbmcbmanmiaaW.PrintWords Go.Proofs.YtlkcbmcbmanmiaaW.PrintLast Go.Proofs.YtlkcbmcbmanmiaaW.PrintMore
attribute [local go_sem] max2_int min2_int max_two min_two max_three min_three max_four min_four   -- for this text's walks alone
set_option linter.unusedVariables false
set_option linter.unusedSimpArgs false
-- SHORT
theorem qe_7 {p : Prop} (f : p := by repeat (first | (with_reducible first | exact HB.out | apply below_alloc | apply pw_below_drewN | apply below_drew1) | exact HB.out)) : p := f
theorem qf_7 {p : Prop} (f : p := by repeat (first | (with_reducible first | exact HB.out | apply below_alloc | apply pw_below_drewN | apply below_drew1 | refine below_set ?_ qi.out) | exact HB.out)) : p := f
theorem q4_7 {p : Prop} (f : p := by repeat (first | (with_reducible first | exact HB.out | apply below_alloc | apply pw_below_drewN | apply below_drew1 | refine below_set ?_ qi.out | refine below_set ?_ qj.out) | exact HB.out)) : p := f
theorem qa_7 {p : Prop} (f : p := by repeat (first | (with_reducible first | exact HB.out | apply below_alloc | apply pw_below_drewN | apply below_drew1 | refine below_set ?_ qg.out) | exact HB.out)) : p := f
theorem qd_7 {p : Prop} (f : p := by repeat (first | (with_reducible first | exact HB.out | apply below_alloc | apply pw_below_drewN | apply below_drew1 | refine below_set ?_ qh.out) | exact HB.out)) : p := f
theorem q0_7 {p : Prop} (h : p) : Aside0 p := ⟨h⟩
/-! ### spec_Max: function 110 -/
def spec_Max.f (a0 : Int) (a1 : Int) : Option (Int) := if a1 > a0 then (some a1) else (some a0)
set_option maxHeartbeats 8000000 in
set_option maxRecDepth 100000 in
theorem spec_Max.calls (a0 : Int) (a1 : Int) (r : Int) (w : World) (h : spec_Max.f a0 a1 = some r) :
 Calls Try.prog 110 #[.int .i64 a0, .int .i64 a1] w fun e w' => e = .returned (.int .i64 r) ∧ Drawn0 w w' := by
 (have H : (if a1 > a0 then (some a1) else (some a0)) = some r := h); clear h
 by_cases c3 : a1 > a0
 · rw [if_pos c3] at H
   (have c3b0 : decide (a0 < a1) = true := decide_eq_true c3); clear c3; obtain rfl := Option.some.inj H; go_enter Try.func110, Try.ntmps110; (go_wp2); go_ret; exact ⟨by first | rfl | (simp; done) | (simp [*]; done), by repeat (first | exact Drawn0.refl _ | apply Drawn0.step)⟩
 · rw [if_neg c3] at H
   (have c3b0 : decide (a0 < a1) = false := decide_eq_false c3); clear c3; obtain rfl := Option.some.inj H; go_enter Try.func110, Try.ntmps110; (go_wp2); go_ret; exact ⟨by first | rfl | (simp; done) | (simp [*]; done), by repeat (first | exact Drawn0.refl _ | apply Drawn0.step)⟩
/-! ### spec_IsCue: function 143 -/
def spec_IsCue.l0 : Nat → Int → List Int → List Int → Option (Bool)
 | 0, _, _, _ => none
 | k + 1, x3, x207000, x207001 => if x3 < (x207001.length : Int) then (if 0 ≤ x3 then ((spec_l1In.f (rd x207001 x3) 0 2000).bind fun t208 => (if t208 = true then (if x3 > 0 then (if 0 ≤ (wrap64 (x3 - 1)) then (if (wrap64 (x3 - 1)) < (x207001.length : Int) then (if (rd x207001 (wrap64 (x3 - 1))) > (rd x207001 x3) then (some false) else (spec_IsCue.l0 k (wrap64 (x3 + 1)) x207000 x207001)) else (none)) else (none)) else (spec_IsCue.l0 k (wrap64 (x3 + 1)) x207000 x207001)) else (some false))) else (none)) else (if (x207000.length : Int) ≤ 40 then (some ((x207001.length : Int) == (x207000.length : Int))) else (some false))
def spec_IsCue.f (k : Nat) (l0_0 : List Int) (l0_1 : List Int) : Option (Bool) := spec_IsCue.l0 k 0 l0_0 l0_1
theorem spec_IsCue.mono_l : ∀ k, (∀ y0 y1 y2, LeO (spec_IsCue.l0 k y0 y1 y2) (spec_IsCue.l0 (k + 1) y0 y1 y2))
 | 0 => fun _ _ _ r h => by simp [spec_IsCue.l0] at h
 | k + 1 => by
  have ih0 := spec_IsCue.mono_l k
  · intro y0 y1 y2
    unfold spec_IsCue.l0
    repeat' first
    | (with_reducible exact ih0 _ _ _)
    | (with_reducible exact LeO.refl _)
    | (with_reducible exact LeO.none _)
    | (with_reducible refine LeO.ite ?_ ?_)
    | (with_reducible refine LeO.bind ?_ (fun _ => ?_))
    | exact ih0 _ _ _
    | exact LeO.none _
    | refine LeO.ite ?_ ?_
    | refine LeO.bind ?_ (fun _ => ?_)
theorem spec_IsCue.mono : ∀ a0 a1 k, LeO (spec_IsCue.f k a0 a1) (spec_IsCue.f (k + 1) a0 a1) := by
 intro a0 a1 k; have ih0 := spec_IsCue.mono_l k; unfold spec_IsCue.f
 repeat' first
  | (with_reducible exact ih0 _ _ _)
  | (with_reducible exact LeO.refl _)
  | (with_reducible exact LeO.none _)
  | (with_reducible refine LeO.ite ?_ ?_)
  | (with_reducible refine LeO.bind ?_ (fun _ => ?_))
  | exact ih0 _ _ _
  | exact LeO.none _
  | refine LeO.ite ?_ ?_
  | refine LeO.bind ?_ (fun _ => ?_)
set_option maxHeartbeats 8000000 in
set_option maxRecDepth 100000 in
theorem spec_IsCue.calls (k : Nat) (A0_0 : Option Addr) (c0_0 : Nat) (l0_0 : List Int) (A0_1 : Option Addr) (c0_1 : Nat) (l0_1 : List Int) (r : Bool) (w : World) (hr0_0 : Kd.C (Kd.int .i64) w A0_0 l0_0.length l0_0) (hc0_0 : l0_0.length ≤ c0_0) (hr0_1 : Kd.C (Kd.int .i64) w A0_1 l0_1.length l0_1) (hc0_1 : l0_1.length ≤ c0_1) (h : spec_IsCue.f k l0_0 l0_1 = some r) :
 Calls Try.prog 143 #[.agg #[.slice A0_0 l0_0.length c0_0, .slice A0_1 l0_1.length c0_1]] w fun e w' => e = .returned (.bool r) ∧ Below w.heap.size w w' := by
 have hu42 := Try.underlying42; have HR0_0 := q0_7 hr0_0; have HC0_0 := q0_7 hc0_0; clear hr0_0 hc0_0; have HR0_1 := q0_7 hr0_1; have HC0_1 := q0_7 hc0_1; clear hr0_1 hc0_1; have HB := q0_7 (Below.refl w.heap.size w); (have H : (spec_IsCue.l0 k 0 l0_0 l0_1) = some r := h); clear h; (have H' := q0_7 H); clear H; go_enter Try.func143, Try.ntmps143; (go_wp2_with (first | ((with_reducible refine gate_dst (N := 1) rfl ?_); (try (refine gate_guard (by rfl) ?_; dsimp only)); refine box_event ?hg (N := 1) ?hd (cs := #[.slice A0_0 l0_0.length c0_0, .slice A0_1 l0_1.length c0_1]) (t := 42) ?hr ?_; (case hd => rfl); (case hg => rfl); (case hr => first | (go_simp; done) | (go_simp; rfl)); intro q5 hg w2 hbox hb; have n0_ := q0_7 (below_step (qe_7) hb); have n1_ := q0_7 (hbox); have n2_ := q0_7 ((by rw [hg]; exact (below_size (qe_7)) : w.heap.size ≤ q5)); have n3_ := q0_7 ((by rw [hg]; exact (below_size (qe_7)) : w.heap.size ≤ q5)); clear HB; have HB := n0_; have q2 := n1_; have GW206 := n2_; have qg := n3_; clear n0_ n1_ n2_ n3_; clear hb hbox hg))); (repeat (go_quiet (first | ((with_reducible refine gate_dst (N := 1) rfl ?_); (try (refine gate_guard (by rfl) ?_; dsimp only)); refine box_event ?hg (N := 1) ?hd (cs := #[.slice A0_0 l0_0.length c0_0, .slice A0_1 l0_1.length c0_1]) (t := 42) ?hr ?_; (case hd => rfl); (case hg => rfl); (case hr => first | (go_simp; done) | (go_simp; rfl)); intro q5 hg w2 hbox hb; have n0_ := q0_7 (below_step (qe_7) hb); have n1_ := q0_7 (hbox); have n2_ := q0_7 ((by rw [hg]; exact (below_size (qe_7)) : w.heap.size ≤ q5)); have n3_ := q0_7 ((by rw [hg]; exact (below_size (qe_7)) : w.heap.size ≤ q5)); clear HB; have HB := n0_; have q2 := n1_; have GW206 := n2_; have qg := n3_; clear n0_ n1_ n2_ n3_; clear hb hbox hg)); try go_wp2_with (first | ((with_reducible refine gate_dst (N := 1) rfl ?_); (try (refine gate_guard (by rfl) ?_; dsimp only)); refine box_event ?hg (N := 1) ?hd (cs := #[.slice A0_0 l0_0.length c0_0, .slice A0_1 l0_1.length c0_1]) (t := 42) ?hr ?_; (case hd => rfl); (case hg => rfl); (case hr => first | (go_simp; done) | (go_simp; rfl)); intro q5 hg w2 hbox hb; have n0_ := q0_7 (below_step (qe_7) hb); have n1_ := q0_7 (hbox); have n2_ := q0_7 ((by rw [hg]; exact (below_size (qe_7)) : w.heap.size ≤ q5)); have n3_ := q0_7 ((by rw [hg]; exact (below_size (qe_7)) : w.heap.size ≤ q5)); clear HB; have HB := n0_; have q2 := n1_; have GW206 := n2_; have qg := n3_; clear n0_ n1_ n2_ n3_; clear hb hbox hg)))); (go_loopg [3] k (fun kq v3 w' => ∃ (x3_1 : Int), v3 = .int .i64 x3_1 ∧ Aside0 (spec_IsCue.l0 kq x3_1 l0_0 l0_1 = some r) ∧ Aside0 (kq ≤ k) ∧ Aside0 (w'.heap[q5]? = some (.cells #[(.slice A0_0 l0_0.length c0_0), (.slice A0_1 l0_1.length c0_1)] 42 (0, 0))) ∧ Aside0 (Below w.heap.size w w')))
 case atStart => exact ⟨(0), (by first | rfl | (simp; done) | (simp [*]; done)), H', ⟨Nat.le_refl _⟩, ⟨by refine ba ?_; exact q2.out⟩, ⟨by exact (qa_7)⟩⟩
 case round =>
  clear H'; (try clear c1); (try clear p2); obtain ⟨x3_1, rfl, HA, HK1, q2, HB⟩ := hrel
  cases gk with
  | zero => exact absurd HA.out (by simp [spec_IsCue.l0])
  | succ k1 =>
   have H := HA.out; clear HA; (simp only [spec_IsCue.l0] at H)
   by_cases c3 : x3_1 < (l0_1.length : Int)
   · rw [if_pos c3] at H
     (have c3b0 : decide (x3_1 < (l0_1.length : Int)) = true := decide_eq_true c3); clear c3
     by_cases c4 : 0 ≤ x3_1
     · rw [if_pos c4] at H
       (have c4b0 : decide (0 ≤ x3_1) = true := decide_eq_true c4); clear c4; replace H := Option.bind_eq_some_iff.mp H; obtain ⟨t208, A50, H⟩ := H; replace H : (if t208 = true then (if x3_1 > 0 then (if 0 ≤ (wrap64 (x3_1 - 1)) then (if (wrap64 (x3_1 - 1)) < (l0_1.length : Int) then (if (rd l0_1 (wrap64 (x3_1 - 1))) > (rd l0_1 x3_1) then (some false) else (spec_IsCue.l0 k1 (wrap64 (x3_1 + 1)) l0_0 l0_1)) else (none)) else (none)) else (spec_IsCue.l0 k1 (wrap64 (x3_1 + 1)) l0_0 l0_1)) else (some false)) = some r := H; have A5 := q0_7 A50; clear A50
       by_cases c6 : t208 = true
       · subst c6
         have H1 : (if x3_1 > 0 then (if 0 ≤ (wrap64 (x3_1 - 1)) then (if (wrap64 (x3_1 - 1)) < (l0_1.length : Int) then (if (rd l0_1 (wrap64 (x3_1 - 1))) > (rd l0_1 x3_1) then (some false) else (spec_IsCue.l0 k1 (wrap64 (x3_1 + 1)) l0_0 l0_1)) else (none)) else (none)) else (spec_IsCue.l0 k1 (wrap64 (x3_1 + 1)) l0_0 l0_1)) = some r := by rw [if_pos rfl] at H; exact H
         clear H; have H := H1; clear H1
         by_cases c7 : x3_1 > 0
         · rw [if_pos c7] at H
           (have c7b0 : decide (0 < x3_1) = true := decide_eq_true c7); clear c7; obtain ⟨ji8, hji8⟩ : ∃ j_ : Int, (wrap64 (x3_1 - 1)) = j_ := ⟨_, rfl⟩; (replace H : (if 0 ≤ (ji8) then (if (ji8) < (l0_1.length : Int) then (if (rd l0_1 (ji8)) > (rd l0_1 x3_1) then (some false) else (spec_IsCue.l0 k1 (wrap64 (x3_1 + 1)) l0_0 l0_1)) else (none)) else (none)) = some r := by first | (rw [hji8] at H; exact H) | (simp only [hji8] at H ⊢; exact H)); ((try rw [hji8] at A5)); (have hji8w : (IntKind.i64.wrap (x3_1 - 1)) = ji8 := (i64_w _).trans hji8)
           by_cases c9 : 0 ≤ (ji8)
           · rw [if_pos c9] at H
             (have c9b0 : decide (0 ≤ (ji8)) = true := decide_eq_true c9); clear c9
             by_cases c10 : (ji8) < (l0_1.length : Int)
             · rw [if_pos c10] at H
               (have c10b0 : decide ((ji8) < (l0_1.length : Int)) = true := decide_eq_true c10); clear c10
               by_cases c11 : (rd l0_1 (ji8)) > (rd l0_1 x3_1)
               · rw [if_pos c11] at H
                 (have c11b0 : decide ((rd l0_1 x3_1) < (rd l0_1 (ji8))) = true := decide_eq_true c11); clear c11; obtain rfl := Option.some.inj H; (have hcz12_0 : wr.cell? ⟨q5, 0, none⟩ = some (.slice A0_0 l0_0.length c0_0) := (blk_cell q2.out 0).trans rfl); (have hcz12_1 : wr.cell? ⟨q5, 1, none⟩ = some (.slice A0_1 l0_1.length c0_1) := (blk_cell q2.out 1).trans rfl); have hfz12_0 := blk_frozen q2.out 0; have hfz12_1 := blk_frozen q2.out 1; (have p207 : 0 ≤ (x3_1 : Int) := of_decide_eq_true (by first | (with_reducible assumption) | assumption)); (have q207 : x3_1 < (l0_1.length : Int) := of_decide_eq_true (by first | (with_reducible assumption) | assumption)); obtain ⟨ad207, e207, hx207_0⟩ := Kd.at_int HR0_1.out x3_1 p207 q207
                 cases e207
                 replace hx207_0 := (HB.out.cell (World.block_lt_of_cell? w _ hx207_0)).trans hx207_0; replace p207 := eq_true p207; replace q207 := eq_true q207; (go_wp2_with (first | (go_at_call 71; (with_reducible refine (spec_l1In.calls (rd l0_1 x3_1) 0 2000 true _ A5.out).mono ?_); rintro e w' ⟨rfl, ⟨nd, rfl⟩⟩; (try first | exact ⟨rfl, _, World.drewN_drewN _ _ _⟩ | exact ⟨rfl, _, Eq.trans (World.drewN_drewN _ _ _) (congrArg (World.drewN _) (Nat.add_assoc _ _ _))⟩); have p209 : 0 ≤ ((ji8) : Int) := of_decide_eq_true (by first | (with_reducible assumption) | assumption); have q209 : (ji8) < (l0_1.length : Int) := of_decide_eq_true (by first | (with_reducible assumption) | assumption); obtain ⟨ad209, e209, hx209_0⟩ := Kd.at_int HR0_1.out (ji8) p209 q209; obtain rfl : ad207 = ad209 := (by injection e209); replace hx209_0 := (HB.out.cell (World.block_lt_of_cell? w _ hx209_0)).trans hx209_0; replace p209 := eq_true p209; replace q209 := eq_true q209; have p210 : 0 ≤ (x3_1 : Int) := of_decide_eq_true (by first | (with_reducible assumption) | assumption); have q210 : x3_1 < (l0_1.length : Int) := of_decide_eq_true (by first | (with_reducible assumption) | assumption); obtain ⟨ad210, e210, hx210_0⟩ := Kd.at_int HR0_1.out x3_1 p210 q210; obtain rfl : ad207 = ad210 := (by injection e210); replace hx210_0 := (HB.out.cell (World.block_lt_of_cell? w _ hx210_0)).trans hx210_0; replace p210 := eq_true p210; replace q210 := eq_true q210)))
                 (repeat (go_quiet (first | (go_at_call 71; (with_reducible refine (spec_l1In.calls (rd l0_1 x3_1) 0 2000 true _ A5.out).mono ?_); rintro e w' ⟨rfl, ⟨nd, rfl⟩⟩; (try first | exact ⟨rfl, _, World.drewN_drewN _ _ _⟩ | exact ⟨rfl, _, Eq.trans (World.drewN_drewN _ _ _) (congrArg (World.drewN _) (Nat.add_assoc _ _ _))⟩); have p209 : 0 ≤ ((ji8) : Int) := of_decide_eq_true (by first | (with_reducible assumption) | assumption); have q209 : (ji8) < (l0_1.length : Int) := of_decide_eq_true (by first | (with_reducible assumption) | assumption); obtain ⟨ad209, e209, hx209_0⟩ := Kd.at_int HR0_1.out (ji8) p209 q209; obtain rfl : ad207 = ad209 := (by injection e209); replace hx209_0 := (HB.out.cell (World.block_lt_of_cell? w _ hx209_0)).trans hx209_0; replace p209 := eq_true p209; replace q209 := eq_true q209; have p210 : 0 ≤ (x3_1 : Int) := of_decide_eq_true (by first | (with_reducible assumption) | assumption); have q210 : x3_1 < (l0_1.length : Int) := of_decide_eq_true (by first | (with_reducible assumption) | assumption); obtain ⟨ad210, e210, hx210_0⟩ := Kd.at_int HR0_1.out x3_1 p210 q210; obtain rfl : ad207 = ad210 := (by injection e210); replace hx210_0 := (HB.out.cell (World.block_lt_of_cell? w _ hx210_0)).trans hx210_0; replace p210 := eq_true p210; replace q210 := eq_true q210)); try go_wp2_with (first | (go_at_call 71; (with_reducible refine (spec_l1In.calls (rd l0_1 x3_1) 0 2000 true _ A5.out).mono ?_); rintro e w' ⟨rfl, ⟨nd, rfl⟩⟩; (try first | exact ⟨rfl, _, World.drewN_drewN _ _ _⟩ | exact ⟨rfl, _, Eq.trans (World.drewN_drewN _ _ _) (congrArg (World.drewN _) (Nat.add_assoc _ _ _))⟩); have p209 : 0 ≤ ((ji8) : Int) := of_decide_eq_true (by first | (with_reducible assumption) | assumption); have q209 : (ji8) < (l0_1.length : Int) := of_decide_eq_true (by first | (with_reducible assumption) | assumption); obtain ⟨ad209, e209, hx209_0⟩ := Kd.at_int HR0_1.out (ji8) p209 q209; obtain rfl : ad207 = ad209 := (by injection e209); replace hx209_0 := (HB.out.cell (World.block_lt_of_cell? w _ hx209_0)).trans hx209_0; replace p209 := eq_true p209; replace q209 := eq_true q209; have p210 : 0 ≤ (x3_1 : Int) := of_decide_eq_true (by first | (with_reducible assumption) | assumption); have q210 : x3_1 < (l0_1.length : Int) := of_decide_eq_true (by first | (with_reducible assumption) | assumption); obtain ⟨ad210, e210, hx210_0⟩ := Kd.at_int HR0_1.out x3_1 p210 q210; obtain rfl : ad207 = ad210 := (by injection e210); replace hx210_0 := (HB.out.cell (World.block_lt_of_cell? w _ hx210_0)).trans hx210_0; replace p210 := eq_true p210; replace q210 := eq_true q210)))); go_ret; (exact ⟨by first | rfl | (simp [errW_none, errW_some] <;> rfl) | (simp only [← hji8]; first | rfl | (simp [errW_none, errW_some] <;> rfl)) | (simp [*, errW_none, errW_some] <;> rfl), by exact (qa_7)⟩)
               · rw [if_neg c11] at H
                 (have c11b0 : decide ((rd l0_1 x3_1) < (rd l0_1 (ji8))) = false := decide_eq_false c11); clear c11; (have H' := q0_7 H); clear H; (have hcz13_0 : wr.cell? ⟨q5, 0, none⟩ = some (.slice A0_0 l0_0.length c0_0) := (blk_cell q2.out 0).trans rfl); (have hcz13_1 : wr.cell? ⟨q5, 1, none⟩ = some (.slice A0_1 l0_1.length c0_1) := (blk_cell q2.out 1).trans rfl); have hfz13_0 := blk_frozen q2.out 0; have hfz13_1 := blk_frozen q2.out 1; (have p207 : 0 ≤ (x3_1 : Int) := of_decide_eq_true (by first | (with_reducible assumption) | assumption)); (have q207 : x3_1 < (l0_1.length : Int) := of_decide_eq_true (by first | (with_reducible assumption) | assumption)); obtain ⟨ad207, e207, hx207_0⟩ := Kd.at_int HR0_1.out x3_1 p207 q207
                 cases e207
                 replace hx207_0 := (HB.out.cell (World.block_lt_of_cell? w _ hx207_0)).trans hx207_0; replace p207 := eq_true p207; replace q207 := eq_true q207; (go_wp2_with (first | (go_at_call 71; (with_reducible refine (spec_l1In.calls (rd l0_1 x3_1) 0 2000 true _ A5.out).mono ?_); rintro e w' ⟨rfl, ⟨nd, rfl⟩⟩; (try first | exact ⟨rfl, _, World.drewN_drewN _ _ _⟩ | exact ⟨rfl, _, Eq.trans (World.drewN_drewN _ _ _) (congrArg (World.drewN _) (Nat.add_assoc _ _ _))⟩); have p209 : 0 ≤ ((ji8) : Int) := of_decide_eq_true (by first | (with_reducible assumption) | assumption); have q209 : (ji8) < (l0_1.length : Int) := of_decide_eq_true (by first | (with_reducible assumption) | assumption); obtain ⟨ad209, e209, hx209_0⟩ := Kd.at_int HR0_1.out (ji8) p209 q209; obtain rfl : ad207 = ad209 := (by injection e209); replace hx209_0 := (HB.out.cell (World.block_lt_of_cell? w _ hx209_0)).trans hx209_0; replace p209 := eq_true p209; replace q209 := eq_true q209; have p210 : 0 ≤ (x3_1 : Int) := of_decide_eq_true (by first | (with_reducible assumption) | assumption); have q210 : x3_1 < (l0_1.length : Int) := of_decide_eq_true (by first | (with_reducible assumption) | assumption); obtain ⟨ad210, e210, hx210_0⟩ := Kd.at_int HR0_1.out x3_1 p210 q210; obtain rfl : ad207 = ad210 := (by injection e210); replace hx210_0 := (HB.out.cell (World.block_lt_of_cell? w _ hx210_0)).trans hx210_0; replace p210 := eq_true p210; replace q210 := eq_true q210)))
                 (repeat (go_quiet (first | (go_at_call 71; (with_reducible refine (spec_l1In.calls (rd l0_1 x3_1) 0 2000 true _ A5.out).mono ?_); rintro e w' ⟨rfl, ⟨nd, rfl⟩⟩; (try first | exact ⟨rfl, _, World.drewN_drewN _ _ _⟩ | exact ⟨rfl, _, Eq.trans (World.drewN_drewN _ _ _) (congrArg (World.drewN _) (Nat.add_assoc _ _ _))⟩); have p209 : 0 ≤ ((ji8) : Int) := of_decide_eq_true (by first | (with_reducible assumption) | assumption); have q209 : (ji8) < (l0_1.length : Int) := of_decide_eq_true (by first | (with_reducible assumption) | assumption); obtain ⟨ad209, e209, hx209_0⟩ := Kd.at_int HR0_1.out (ji8) p209 q209; obtain rfl : ad207 = ad209 := (by injection e209); replace hx209_0 := (HB.out.cell (World.block_lt_of_cell? w _ hx209_0)).trans hx209_0; replace p209 := eq_true p209; replace q209 := eq_true q209; have p210 : 0 ≤ (x3_1 : Int) := of_decide_eq_true (by first | (with_reducible assumption) | assumption); have q210 : x3_1 < (l0_1.length : Int) := of_decide_eq_true (by first | (with_reducible assumption) | assumption); obtain ⟨ad210, e210, hx210_0⟩ := Kd.at_int HR0_1.out x3_1 p210 q210; obtain rfl : ad207 = ad210 := (by injection e210); replace hx210_0 := (HB.out.cell (World.block_lt_of_cell? w _ hx210_0)).trans hx210_0; replace p210 := eq_true p210; replace q210 := eq_true q210)); try go_wp2_with (first | (go_at_call 71; (with_reducible refine (spec_l1In.calls (rd l0_1 x3_1) 0 2000 true _ A5.out).mono ?_); rintro e w' ⟨rfl, ⟨nd, rfl⟩⟩; (try first | exact ⟨rfl, _, World.drewN_drewN _ _ _⟩ | exact ⟨rfl, _, Eq.trans (World.drewN_drewN _ _ _) (congrArg (World.drewN _) (Nat.add_assoc _ _ _))⟩); have p209 : 0 ≤ ((ji8) : Int) := of_decide_eq_true (by first | (with_reducible assumption) | assumption); have q209 : (ji8) < (l0_1.length : Int) := of_decide_eq_true (by first | (with_reducible assumption) | assumption); obtain ⟨ad209, e209, hx209_0⟩ := Kd.at_int HR0_1.out (ji8) p209 q209; obtain rfl : ad207 = ad209 := (by injection e209); replace hx209_0 := (HB.out.cell (World.block_lt_of_cell? w _ hx209_0)).trans hx209_0; replace p209 := eq_true p209; replace q209 := eq_true q209; have p210 : 0 ≤ (x3_1 : Int) := of_decide_eq_true (by first | (with_reducible assumption) | assumption); have q210 : x3_1 < (l0_1.length : Int) := of_decide_eq_true (by first | (with_reducible assumption) | assumption); obtain ⟨ad210, e210, hx210_0⟩ := Kd.at_int HR0_1.out x3_1 p210 q210; obtain rfl : ad207 = ad210 := (by injection e210); replace hx210_0 := (HB.out.cell (World.block_lt_of_cell? w _ hx210_0)).trans hx210_0; replace p210 := eq_true p210; replace q210 := eq_true q210)))); (go_roundg k1)
                 case measure => have := HK1.out; omega
                 case rel => exact ⟨(wrap64 (x3_1 + 1)), (by first | rfl | (simp; done) | (simp [*]; done)), (by first | exact H' | (have H2_ := H'; (try simp only [← hji8] at H2_); (try simp only [← hji8]); exact H2_)), ⟨by have := HK1.out; omega⟩, ⟨by refine ba ?_; exact q2.out⟩, ⟨by exact (qa_7)⟩⟩
             · rw [if_neg c10] at H
               exact absurd H (by simp)
           · rw [if_neg c9] at H
             exact absurd H (by simp)
         · rw [if_neg c7] at H
           (have c7b0 : decide (0 < x3_1) = false := decide_eq_false c7); clear c7; (have H' := q0_7 H); clear H; (have hcz14_0 : wr.cell? ⟨q5, 0, none⟩ = some (.slice A0_0 l0_0.length c0_0) := (blk_cell q2.out 0).trans rfl); (have hcz14_1 : wr.cell? ⟨q5, 1, none⟩ = some (.slice A0_1 l0_1.length c0_1) := (blk_cell q2.out 1).trans rfl); have hfz14_0 := blk_frozen q2.out 0; have hfz14_1 := blk_frozen q2.out 1; (have p207 : 0 ≤ (x3_1 : Int) := of_decide_eq_true (by first | (with_reducible assumption) | assumption)); (have q207 : x3_1 < (l0_1.length : Int) := of_decide_eq_true (by first | (with_reducible assumption) | assumption)); obtain ⟨ad207, e207, hx207_0⟩ := Kd.at_int HR0_1.out x3_1 p207 q207
           cases e207
           replace hx207_0 := (HB.out.cell (World.block_lt_of_cell? w _ hx207_0)).trans hx207_0; replace p207 := eq_true p207; replace q207 := eq_true q207; (go_wp2_with (first | (go_at_call 71; (with_reducible refine (spec_l1In.calls (rd l0_1 x3_1) 0 2000 true _ A5.out).mono ?_); rintro e w' ⟨rfl, ⟨nd, rfl⟩⟩; (try first | exact ⟨rfl, _, World.drewN_drewN _ _ _⟩ | exact ⟨rfl, _, Eq.trans (World.drewN_drewN _ _ _) (congrArg (World.drewN _) (Nat.add_assoc _ _ _))⟩)))); (repeat (go_quiet (first | (go_at_call 71; (with_reducible refine (spec_l1In.calls (rd l0_1 x3_1) 0 2000 true _ A5.out).mono ?_); rintro e w' ⟨rfl, ⟨nd, rfl⟩⟩; (try first | exact ⟨rfl, _, World.drewN_drewN _ _ _⟩ | exact ⟨rfl, _, Eq.trans (World.drewN_drewN _ _ _) (congrArg (World.drewN _) (Nat.add_assoc _ _ _))⟩))); try go_wp2_with (first | (go_at_call 71; (with_reducible refine (spec_l1In.calls (rd l0_1 x3_1) 0 2000 true _ A5.out).mono ?_); rintro e w' ⟨rfl, ⟨nd, rfl⟩⟩; (try first | exact ⟨rfl, _, World.drewN_drewN _ _ _⟩ | exact ⟨rfl, _, Eq.trans (World.drewN_drewN _ _ _) (congrArg (World.drewN _) (Nat.add_assoc _ _ _))⟩))))); (go_roundg k1)
           case measure => have := HK1.out; omega
           case rel => exact ⟨(wrap64 (x3_1 + 1)), (by first | rfl | (simp; done) | (simp [*]; done)), H', ⟨by have := HK1.out; omega⟩, ⟨by refine ba ?_; exact q2.out⟩, ⟨by exact (qa_7)⟩⟩
       · replace c6 := Bool.eq_false_iff.mpr c6
         subst c6; (have H1 : (some false) = some r := by rw [if_neg (show ¬ (false = true) by decide)] at H; exact H); clear H; have H := H1; clear H1; obtain rfl := Option.some.inj H; (have hcz15_0 : wr.cell? ⟨q5, 0, none⟩ = some (.slice A0_0 l0_0.length c0_0) := (blk_cell q2.out 0).trans rfl); (have hcz15_1 : wr.cell? ⟨q5, 1, none⟩ = some (.slice A0_1 l0_1.length c0_1) := (blk_cell q2.out 1).trans rfl); have hfz15_0 := blk_frozen q2.out 0; have hfz15_1 := blk_frozen q2.out 1; (have p207 : 0 ≤ (x3_1 : Int) := of_decide_eq_true (by first | (with_reducible assumption) | assumption)); (have q207 : x3_1 < (l0_1.length : Int) := of_decide_eq_true (by first | (with_reducible assumption) | assumption)); obtain ⟨ad207, e207, hx207_0⟩ := Kd.at_int HR0_1.out x3_1 p207 q207
         cases e207
         replace hx207_0 := (HB.out.cell (World.block_lt_of_cell? w _ hx207_0)).trans hx207_0; replace p207 := eq_true p207; replace q207 := eq_true q207; (go_wp2_with (first | (go_at_call 71; (with_reducible refine (spec_l1In.calls (rd l0_1 x3_1) 0 2000 false _ A5.out).mono ?_); rintro e w' ⟨rfl, ⟨nd, rfl⟩⟩; (try first | exact ⟨rfl, _, World.drewN_drewN _ _ _⟩ | exact ⟨rfl, _, Eq.trans (World.drewN_drewN _ _ _) (congrArg (World.drewN _) (Nat.add_assoc _ _ _))⟩)))); (repeat (go_quiet (first | (go_at_call 71; (with_reducible refine (spec_l1In.calls (rd l0_1 x3_1) 0 2000 false _ A5.out).mono ?_); rintro e w' ⟨rfl, ⟨nd, rfl⟩⟩; (try first | exact ⟨rfl, _, World.drewN_drewN _ _ _⟩ | exact ⟨rfl, _, Eq.trans (World.drewN_drewN _ _ _) (congrArg (World.drewN _) (Nat.add_assoc _ _ _))⟩))); try go_wp2_with (first | (go_at_call 71; (with_reducible refine (spec_l1In.calls (rd l0_1 x3_1) 0 2000 false _ A5.out).mono ?_); rintro e w' ⟨rfl, ⟨nd, rfl⟩⟩; (try first | exact ⟨rfl, _, World.drewN_drewN _ _ _⟩ | exact ⟨rfl, _, Eq.trans (World.drewN_drewN _ _ _) (congrArg (World.drewN _) (Nat.add_assoc _ _ _))⟩))))); go_ret; (exact ⟨by first | rfl | (simp [errW_none, errW_some] <;> rfl) | (simp [*, errW_none, errW_some] <;> rfl), by exact (qa_7)⟩)
     · rw [if_neg c4] at H
       exact absurd H (by simp)
   · rw [if_neg c3] at H
     (have c3b0 : decide (x3_1 < (l0_1.length : Int)) = false := decide_eq_false c3); clear c3
     by_cases c16 : (l0_0.length : Int) ≤ 40
     · rw [if_pos c16] at H
       (have c16b0 : decide ((l0_0.length : Int) ≤ 40) = true := decide_eq_true c16); (have c16b1 : decide (l0_0.length ≤ 40) = true := decide_eq_true (by omega)); clear c16; obtain rfl := Option.some.inj H; (have hcz17_0 : wr.cell? ⟨q5, 0, none⟩ = some (.slice A0_0 l0_0.length c0_0) := (blk_cell q2.out 0).trans rfl); (have hcz17_1 : wr.cell? ⟨q5, 1, none⟩ = some (.slice A0_1 l0_1.length c0_1) := (blk_cell q2.out 1).trans rfl); have hfz17_0 := blk_frozen q2.out 0; have hfz17_1 := blk_frozen q2.out 1; (go_wp2); (repeat (go_quiet (fail); try go_wp2)); go_ret; (exact ⟨by first | rfl | (simp [errW_none, errW_some] <;> rfl) | (simp [*, errW_none, errW_some] <;> rfl), by exact (qa_7)⟩)
     · rw [if_neg c16] at H
       (have c16b0 : decide ((l0_0.length : Int) ≤ 40) = false := decide_eq_false c16); (have c16b1 : decide (l0_0.length ≤ 40) = false := decide_eq_false (by omega)); clear c16; obtain rfl := Option.some.inj H; (have hcz18_0 : wr.cell? ⟨q5, 0, none⟩ = some (.slice A0_0 l0_0.length c0_0) := (blk_cell q2.out 0).trans rfl); (have hcz18_1 : wr.cell? ⟨q5, 1, none⟩ = some (.slice A0_1 l0_1.length c0_1) := (blk_cell q2.out 1).trans rfl); have hfz18_0 := blk_frozen q2.out 0; have hfz18_1 := blk_frozen q2.out 1; (go_wp2); (repeat (go_quiet (fail); try go_wp2)); go_ret; (exact ⟨by first | rfl | (simp [errW_none, errW_some] <;> rfl) | (simp [*, errW_none, errW_some] <;> rfl), by exact (qa_7)⟩)
/-! ### spec_SurelyBetween: function 144 -/
def spec_SurelyBetween.l0 : Nat → Int → Int → Int → Int → List Int → Int → Option (Int × Int)
 | 0, _, _, _, _, _, _ => none
 | k + 1, x1, x6, x7, x8, x212000, x212001 => if x8 < (x212000.length : Int) then (if 0 ≤ x8 then (if (rd x212000 x8) ≤ x1 then (if x6 < 0 then (spec_SurelyBetween.l0 k x1 x8 x8 (wrap64 (x8 + 1)) x212000 x212001) else (spec_SurelyBetween.l0 k x1 x6 x8 (wrap64 (x8 + 1)) x212000 x212001)) else (spec_SurelyBetween.l0 k x1 x6 x7 (wrap64 (x8 + 1)) x212000 x212001)) else (none)) else (some (x6, x7))
def spec_SurelyBetween.f (k : Nat) (l0_0 : List Int) (a0_1 : Int) (a1 : Int) : Option (Int × Int) := spec_SurelyBetween.l0 k a1 (-1) (-1) 0 l0_0 a0_1
theorem spec_SurelyBetween.mono_l : ∀ k, (∀ y0 y1 y2 y3 y4 y5, LeO (spec_SurelyBetween.l0 k y0 y1 y2 y3 y4 y5) (spec_SurelyBetween.l0 (k + 1) y0 y1 y2 y3 y4 y5))
 | 0 => fun _ _ _ _ _ _ r h => by simp [spec_SurelyBetween.l0] at h
 | k + 1 => by
  have ih0 := spec_SurelyBetween.mono_l k
  · intro y0 y1 y2 y3 y4 y5
    unfold spec_SurelyBetween.l0
    repeat' first
    | (with_reducible exact ih0 _ _ _ _ _ _)
    | (with_reducible exact LeO.refl _)
    | (with_reducible exact LeO.none _)
    | (with_reducible refine LeO.ite ?_ ?_)
    | (with_reducible refine LeO.bind ?_ (fun _ => ?_))
    | exact ih0 _ _ _ _ _ _
    | exact LeO.none _
    | refine LeO.ite ?_ ?_
    | refine LeO.bind ?_ (fun _ => ?_)
theorem spec_SurelyBetween.mono : ∀ a0 a1 a2 k, LeO (spec_SurelyBetween.f k a0 a1 a2) (spec_SurelyBetween.f (k + 1) a0 a1 a2) := by
 intro a0 a1 a2 k; have ih0 := spec_SurelyBetween.mono_l k; unfold spec_SurelyBetween.f
 repeat' first
  | (with_reducible exact ih0 _ _ _ _ _ _)
  | (with_reducible exact LeO.refl _)
  | (with_reducible exact LeO.none _)
  | (with_reducible refine LeO.ite ?_ ?_)
  | (with_reducible refine LeO.bind ?_ (fun _ => ?_))
  | exact ih0 _ _ _ _ _ _
  | exact LeO.none _
  | refine LeO.ite ?_ ?_
  | refine LeO.bind ?_ (fun _ => ?_)
set_option maxHeartbeats 8000000 in
set_option maxRecDepth 100000 in
theorem spec_SurelyBetween.calls (k : Nat) (A0_0 : Option Addr) (c0_0 : Nat) (l0_0 : List Int) (a0_1 : Int) (a1 : Int) (r1 : Int) (r2 : Int) (w : World) (hr0_0 : Kd.C (Kd.int .i64) w A0_0 l0_0.length l0_0) (hc0_0 : l0_0.length ≤ c0_0) (h : spec_SurelyBetween.f k l0_0 a0_1 a1 = some (r1, r2)) :
 Calls Try.prog 144 #[.agg #[.slice A0_0 l0_0.length c0_0, .int .i64 a0_1], .int .i64 a1] w fun e w' => e = .returned (.tuple #[.int .i64 r1, .int .i64 r2]) ∧ Below w.heap.size w w' := by
 have hu51 := Try.underlying51; have HR0_0 := q0_7 hr0_0; have HC0_0 := q0_7 hc0_0; clear hr0_0 hc0_0; have HB := q0_7 (Below.refl w.heap.size w); (have H : (spec_SurelyBetween.l0 k a1 (-1) (-1) 0 l0_0 a0_1) = some (r1, r2) := h); clear h; (have H' := q0_7 H); clear H; go_enter Try.func144, Try.ntmps144; (go_wp2_with (first | ((with_reducible refine gate_dst (N := 2) rfl ?_); refine box_event ?hg (N := 2) ?hd (cs := #[.slice A0_0 l0_0.length c0_0, .int .i64 a0_1]) (t := 51) ?hr ?_; (case hd => rfl); (case hg => rfl); (case hr => first | (go_simp; done) | (go_simp; rfl)); intro q8 hg w3 hbox hb; have n0_ := q0_7 (below_step (qe_7) hb); have n1_ := q0_7 (hbox); have n2_ := q0_7 ((by rw [hg]; exact (below_size (qe_7)) : w.heap.size ≤ q8)); have n3_ := q0_7 ((by rw [hg]; exact (below_size (qe_7)) : w.heap.size ≤ q8)); clear HB; have HB := n0_; have q6 := n1_; have GW211 := n2_; have qh := n3_; clear n0_ n1_ n2_ n3_; clear hb hbox hg))); (go_loopg [6, 7, 8] k (fun kq v6 v7 v8 w' => ∃ (x6_1 : Int) (x7_1 : Int) (x8_1 : Int), v6 = .int .i64 x6_1 ∧ v7 = .int .i64 x7_1 ∧ v8 = .int .i64 x8_1 ∧ Aside0 (spec_SurelyBetween.l0 kq a1 x6_1 x7_1 x8_1 l0_0 a0_1 = some (r1, r2)) ∧ Aside0 (kq ≤ k) ∧ Aside0 (w'.heap[q8]? = some (.cells #[(.slice A0_0 l0_0.length c0_0), .int .i64 a0_1] 51 (0, 0))) ∧ Aside0 (Below w.heap.size w w')))
 case atStart => exact ⟨((-1)), ((-1)), (0), (by first | rfl | (simp; done) | (simp [*]; done)), (by first | rfl | (simp; done) | (simp [*]; done)), (by first | rfl | (simp; done) | (simp [*]; done)), H', ⟨Nat.le_refl _⟩, ⟨by refine ba ?_; exact q6.out⟩, ⟨by exact (qd_7)⟩⟩
 case round =>
  clear H'; (try clear c1); (try clear p2); obtain ⟨x6_1, x7_1, x8_1, rfl, rfl, rfl, HA, HK1, q6, HB⟩ := hrel
  cases gk with
  | zero => exact absurd HA.out (by simp [spec_SurelyBetween.l0])
  | succ k1 =>
   have H := HA.out; clear HA; (simp only [spec_SurelyBetween.l0] at H)
   by_cases c4 : x8_1 < (l0_0.length : Int)
   · rw [if_pos c4] at H
     (have c4b0 : decide (x8_1 < (l0_0.length : Int)) = true := decide_eq_true c4); clear c4
     by_cases c5 : 0 ≤ x8_1
     · rw [if_pos c5] at H
       (have c5b0 : decide (0 ≤ x8_1) = true := decide_eq_true c5); clear c5
       by_cases c6 : (rd l0_0 x8_1) ≤ a1
       · rw [if_pos c6] at H
         (have c6b0 : decide ((rd l0_0 x8_1) ≤ a1) = true := decide_eq_true c6); clear c6
         by_cases c7 : x6_1 < 0
         · rw [if_pos c7] at H
           (have c7b0 : decide (x6_1 < 0) = true := decide_eq_true c7); clear c7; (have H' := q0_7 H); clear H; (have hcz8_0 : wr.cell? ⟨q8, 0, none⟩ = some (.slice A0_0 l0_0.length c0_0) := (blk_cell q6.out 0).trans rfl); (have hcz8_1 : wr.cell? ⟨q8, 1, none⟩ = some (.int .i64 a0_1) := (blk_cell q6.out 1).trans rfl); have hfz8_0 := blk_frozen q6.out 0; have hfz8_1 := blk_frozen q6.out 1; (have p212 : 0 ≤ (x8_1 : Int) := of_decide_eq_true (by first | (with_reducible assumption) | assumption)); (have q212 : x8_1 < (l0_0.length : Int) := of_decide_eq_true (by first | (with_reducible assumption) | assumption)); obtain ⟨ad212, e212, hx212_0⟩ := Kd.at_int HR0_0.out x8_1 p212 q212
           cases e212
           replace hx212_0 := (HB.out.cell (World.block_lt_of_cell? w _ hx212_0)).trans hx212_0; replace p212 := eq_true p212; replace q212 := eq_true q212; (go_wp2); (go_roundg k1)
           case measure => have := HK1.out; omega
           case rel => exact ⟨(x8_1), (x8_1), (wrap64 (x8_1 + 1)), (by first | rfl | (simp; done) | (simp [*]; done)), (by first | rfl | (simp; done) | (simp [*]; done)), (by first | rfl | (simp; done) | (simp [*]; done)), H', ⟨by have := HK1.out; omega⟩, ⟨by refine ba ?_; exact q6.out⟩, ⟨by exact (qd_7)⟩⟩
         · rw [if_neg c7] at H
           (have c7b0 : decide (x6_1 < 0) = false := decide_eq_false c7); clear c7; (have H' := q0_7 H); clear H; (have hcz9_0 : wr.cell? ⟨q8, 0, none⟩ = some (.slice A0_0 l0_0.length c0_0) := (blk_cell q6.out 0).trans rfl); (have hcz9_1 : wr.cell? ⟨q8, 1, none⟩ = some (.int .i64 a0_1) := (blk_cell q6.out 1).trans rfl); have hfz9_0 := blk_frozen q6.out 0; have hfz9_1 := blk_frozen q6.out 1; (have p212 : 0 ≤ (x8_1 : Int) := of_decide_eq_true (by first | (with_reducible assumption) | assumption)); (have q212 : x8_1 < (l0_0.length : Int) := of_decide_eq_true (by first | (with_reducible assumption) | assumption)); obtain ⟨ad212, e212, hx212_0⟩ := Kd.at_int HR0_0.out x8_1 p212 q212
           cases e212
           replace hx212_0 := (HB.out.cell (World.block_lt_of_cell? w _ hx212_0)).trans hx212_0; replace p212 := eq_true p212; replace q212 := eq_true q212; (go_wp2); (go_roundg k1)
           case measure => have := HK1.out; omega
           case rel => exact ⟨(x6_1), (x8_1), (wrap64 (x8_1 + 1)), (by first | rfl | (simp; done) | (simp [*]; done)), (by first | rfl | (simp; done) | (simp [*]; done)), (by first | rfl | (simp; done) | (simp [*]; done)), H', ⟨by have := HK1.out; omega⟩, ⟨by refine ba ?_; exact q6.out⟩, ⟨by exact (qd_7)⟩⟩
       · rw [if_neg c6] at H
         (have c6b0 : decide ((rd l0_0 x8_1) ≤ a1) = false := decide_eq_false c6); clear c6; (have H' := q0_7 H); clear H; (have hcz10_0 : wr.cell? ⟨q8, 0, none⟩ = some (.slice A0_0 l0_0.length c0_0) := (blk_cell q6.out 0).trans rfl); (have hcz10_1 : wr.cell? ⟨q8, 1, none⟩ = some (.int .i64 a0_1) := (blk_cell q6.out 1).trans rfl); have hfz10_0 := blk_frozen q6.out 0; have hfz10_1 := blk_frozen q6.out 1; (have p212 : 0 ≤ (x8_1 : Int) := of_decide_eq_true (by first | (with_reducible assumption) | assumption)); (have q212 : x8_1 < (l0_0.length : Int) := of_decide_eq_true (by first | (with_reducible assumption) | assumption)); obtain ⟨ad212, e212, hx212_0⟩ := Kd.at_int HR0_0.out x8_1 p212 q212
         cases e212
         replace hx212_0 := (HB.out.cell (World.block_lt_of_cell? w _ hx212_0)).trans hx212_0; replace p212 := eq_true p212; replace q212 := eq_true q212; (go_wp2); (go_roundg k1)
         case measure => have := HK1.out; omega
         case rel => exact ⟨(x6_1), (x7_1), (wrap64 (x8_1 + 1)), (by first | rfl | (simp; done) | (simp [*]; done)), (by first | rfl | (simp; done) | (simp [*]; done)), (by first | rfl | (simp; done) | (simp [*]; done)), H', ⟨by have := HK1.out; omega⟩, ⟨by refine ba ?_; exact q6.out⟩, ⟨by exact (qd_7)⟩⟩
     · rw [if_neg c5] at H
       exact absurd H (by simp)
   · rw [if_neg c4] at H
     (have c4b0 : decide (x8_1 < (l0_0.length : Int)) = false := decide_eq_false c4); clear c4; (simp only [Option.some.injEq, Prod.mk.injEq] at H); obtain ⟨rfl, rfl⟩ := H; (have hcz11_0 : wr.cell? ⟨q8, 0, none⟩ = some (.slice A0_0 l0_0.length c0_0) := (blk_cell q6.out 0).trans rfl); (have hcz11_1 : wr.cell? ⟨q8, 1, none⟩ = some (.int .i64 a0_1) := (blk_cell q6.out 1).trans rfl); have hfz11_0 := blk_frozen q6.out 0; have hfz11_1 := blk_frozen q6.out 1; (go_wp2); (go_ret2); (exact ⟨by first | rfl | (simp [errW_none, errW_some] <;> rfl) | (simp [*, errW_none, errW_some] <;> rfl), by exact (qd_7)⟩)
/-! ### spec_SureTick: function 111 -/
def spec_SureTick.j0 : Nat → Int → Bool → List Int → List Int → List Int → Int → Option (Int)
 | 0, _, _, _, _, _, _ => none
 | k + 1, x2, x18, x214000, x214001, x215000, x215001 => if x18 = true then (some (-1)) else ((spec_SurelyBetween.f k x215000 x215001 x2).bind fun bt217 => (if bt217.1 < 1 then (some (-1)) else (if 0 ≤ (wrap64 (bt217.1 - 1)) then (if (wrap64 (bt217.1 - 1)) < (x214001.length : Int) then (some (rd x214001 (wrap64 (bt217.1 - 1)))) else (none)) else (none))))
def spec_SureTick.f (k : Nat) (l0_0 : List Int) (l0_1 : List Int) (l1_0 : List Int) (a1_1 : Int) (a2 : Int) : Option (Int) := (spec_IsCue.f k l0_0 l0_1).bind fun t215 => (if t215 = true then ((spec_IsFollower.f k l0_0 l1_0 a1_1).bind fun t216 => (spec_SureTick.j0 k a2 (!t216) l0_0 l0_1 l1_0 a1_1)) else (spec_SureTick.j0 k a2 true l0_0 l0_1 l1_0 a1_1))
theorem spec_SureTick.mono_l : ∀ k, (∀ y0 y1 y2 y3 y4 y5, LeO (spec_SureTick.j0 k y0 y1 y2 y3 y4 y5) (spec_SureTick.j0 (k + 1) y0 y1 y2 y3 y4 y5))
 | 0 => fun _ _ _ _ _ _ r h => by simp [spec_SureTick.j0] at h
 | k + 1 => by
  have ih0 := spec_SureTick.mono_l k
  · intro y0 y1 y2 y3 y4 y5
    unfold spec_SureTick.j0
    repeat' first
    | (with_reducible exact ih0 _ _ _ _ _ _)
    | (with_reducible exact spec_IsCue.mono _ _ _)
    | (with_reducible exact spec_IsFollower.mono _ _ _ _)
    | (with_reducible exact spec_SurelyBetween.mono _ _ _ _)
    | (with_reducible exact LeO.refl _)
    | (with_reducible exact LeO.none _)
    | (with_reducible refine LeO.ite ?_ ?_)
    | (with_reducible refine LeO.bind ?_ (fun _ => ?_))
    | exact ih0 _ _ _ _ _ _
    | exact spec_IsCue.mono _ _ _
    | exact spec_IsFollower.mono _ _ _ _
    | exact spec_SurelyBetween.mono _ _ _ _
    | exact LeO.none _
    | refine LeO.ite ?_ ?_
    | refine LeO.bind ?_ (fun _ => ?_)
theorem spec_SureTick.mono : ∀ a0 a1 a2 a3 a4 k, LeO (spec_SureTick.f k a0 a1 a2 a3 a4) (spec_SureTick.f (k + 1) a0 a1 a2 a3 a4) := by
 intro a0 a1 a2 a3 a4 k; have ih0 := spec_SureTick.mono_l k; unfold spec_SureTick.f
 repeat' first
  | (with_reducible exact ih0 _ _ _ _ _ _)
  | (with_reducible exact spec_IsCue.mono _ _ _)
  | (with_reducible exact spec_IsFollower.mono _ _ _ _)
  | (with_reducible exact spec_SurelyBetween.mono _ _ _ _)
  | (with_reducible exact LeO.refl _)
  | (with_reducible exact LeO.none _)
  | (with_reducible refine LeO.ite ?_ ?_)
  | (with_reducible refine LeO.bind ?_ (fun _ => ?_))
  | exact ih0 _ _ _ _ _ _
  | exact spec_IsCue.mono _ _ _
  | exact spec_IsFollower.mono _ _ _ _
  | exact spec_SurelyBetween.mono _ _ _ _
  | exact LeO.none _
  | refine LeO.ite ?_ ?_
  | refine LeO.bind ?_ (fun _ => ?_)
set_option maxHeartbeats 8000000 in
set_option maxRecDepth 100000 in
theorem spec_SureTick.calls (k : Nat) (A0_0 : Option Addr) (c0_0 : Nat) (l0_0 : List Int) (A0_1 : Option Addr) (c0_1 : Nat) (l0_1 : List Int) (A1_0 : Option Addr) (c1_0 : Nat) (l1_0 : List Int) (a1_1 : Int) (a2 : Int) (r : Int) (w : World) (hr0_0 : Kd.C (Kd.int .i64) w A0_0 l0_0.length l0_0) (hc0_0 : l0_0.length ≤ c0_0) (hr0_1 : Kd.C (Kd.int .i64) w A0_1 l0_1.length l0_1) (hc0_1 : l0_1.length ≤ c0_1) (hr1_0 : Kd.C (Kd.int .i64) w A1_0 l1_0.length l1_0) (hc1_0 : l1_0.length ≤ c1_0) (h : spec_SureTick.f k l0_0 l0_1 l1_0 a1_1 a2 = some r) :
 Calls Try.prog 111 #[.agg #[.slice A0_0 l0_0.length c0_0, .slice A0_1 l0_1.length c0_1], .agg #[.slice A1_0 l1_0.length c1_0, .int .i64 a1_1], .int .i64 a2] w fun e w' => e = .returned (.int .i64 r) ∧ Below w.heap.size w w' := by
 have hu42 := Try.underlying42; have hu51 := Try.underlying51; have HR0_0 := q0_7 hr0_0; have HC0_0 := q0_7 hc0_0; clear hr0_0 hc0_0; have HR0_1 := q0_7 hr0_1; have HC0_1 := q0_7 hc0_1; clear hr0_1 hc0_1; have HR1_0 := q0_7 hr1_0; have HC1_0 := q0_7 hc1_0; clear hr1_0 hc1_0; have HB := q0_7 (Below.refl w.heap.size w); (have H : ((spec_IsCue.f k l0_0 l0_1).bind fun t215 => (if t215 = true then ((spec_IsFollower.f k l0_0 l1_0 a1_1).bind fun t216 => (spec_SureTick.j0 k a2 (!t216) l0_0 l0_1 l1_0 a1_1)) else (spec_SureTick.j0 k a2 true l0_0 l0_1 l1_0 a1_1))) = some r := h); clear h; have HC4 := q0_7 H; clear H; go_enter Try.func111, Try.ntmps111; (go_upto_region 1 with (first | ((with_reducible refine gate_dst (N := 3) rfl ?_); refine box_event ?hg (N := 3) ?hd (cs := #[.slice A0_0 l0_0.length c0_0, .slice A0_1 l0_1.length c0_1]) (t := 42) ?hr ?_; (case hd => rfl); (case hg => rfl); (case hr => first | (go_simp; done) | (go_simp; rfl)); intro q7 hg w5 hbox hb; have n0_ := q0_7 (below_step (qe_7) hb); have n1_ := q0_7 (hbox); have n2_ := q0_7 ((by rw [hg]; exact (below_size (qe_7)) : w.heap.size ≤ q7)); have n3_ := q0_7 ((by rw [hg]; exact (below_size (qe_7)) : w.heap.size ≤ q7)); clear HB; have HB := n0_; have q1 := n1_; have GW213 := n2_; have qi := n3_; clear n0_ n1_ n2_ n3_; clear hb hbox hg) | ((with_reducible refine gate_dst (N := 4) rfl ?_); refine box_event ?hg (N := 4) ?hd (cs := #[.slice A1_0 l1_0.length c1_0, .int .i64 a1_1]) (t := 51) ?hr ?_; (case hd => rfl); (case hg => rfl); (case hr => first | (go_simp; done) | (go_simp; rfl)); intro q9 hg w6 hbox hb; have n0_ := q0_7 (bb q1.out hb); have n1_ := q0_7 (below_step (qf_7) hb); have n2_ := q0_7 (hbox); have n3_ := q0_7 ((by rw [hg]; exact (below_size (qf_7)) : w.heap.size ≤ q9)); have n4_ := q0_7 ((by rw [hg]; exact (below_size (qf_7)) : w.heap.size ≤ q9)); have n5_ := q0_7 ((by rw [hg]; exact Nat.ne_of_lt (bl q1.out) : q7 ≠ q9)); have n6_ := q0_7 ((by rw [hg]; exact Nat.ne_of_gt (bl q1.out) : q9 ≠ q7)); clear q1; clear HB; have q1 := n0_; have HB := n1_; have q3 := n2_; have GW214 := n3_; have qj := n4_; have qb := n5_; have qc := n6_; clear n0_ n1_ n2_ n3_ n4_ n5_ n6_; clear hb hbox hg))); ((try simp only [Act.put, List.setIfInBounds_toArray, List.set_cons_zero, List.set_cons_succ])); (go_cut [18] (fun v18 wc => ∃ (kq : Nat) (x18_3 : Bool), v18 = .bool x18_3 ∧ Aside0 (spec_SureTick.j0 kq a2 x18_3 l0_0 l0_1 l1_0 a1_1 = some r) ∧ Aside0 (kq ≤ k) ∧ Aside0 (wc.heap[q7]? = some (.cells #[(.slice A0_0 l0_0.length c0_0), (.slice A0_1 l0_1.length c0_1)] 42 (0, 0))) ∧ Aside0 (wc.heap[q9]? = some (.cells #[(.slice A1_0 l1_0.length c1_0), .int .i64 a1_1] 51 (0, 0))) ∧ Aside0 (Below w.heap.size w wc)))
 case first =>
  have H := HC4.out; clear HC4; replace H := Option.bind_eq_some_iff.mp H; obtain ⟨t215, A70, H⟩ := H; replace H : (if t215 = true then ((spec_IsFollower.f k l0_0 l1_0 a1_1).bind fun t216 => (spec_SureTick.j0 k a2 (!t216) l0_0 l0_1 l1_0 a1_1)) else (spec_SureTick.j0 k a2 true l0_0 l0_1 l1_0 a1_1)) = some r := H; have A7 := q0_7 A70; clear A70
  by_cases c8 : t215 = true
  · subst c8
    have H1 : ((spec_IsFollower.f k l0_0 l1_0 a1_1).bind fun t216 => (spec_SureTick.j0 k a2 (!t216) l0_0 l0_1 l1_0 a1_1)) = some r := by rw [if_pos rfl] at H; exact H
    clear H; have H := H1; clear H1; replace H := Option.bind_eq_some_iff.mp H; obtain ⟨t216, A90, H⟩ := H; replace H : (spec_SureTick.j0 k a2 (!t216) l0_0 l0_1 l1_0 a1_1) = some r := H; have A9 := q0_7 A90; clear A90; (have H' := q0_7 H); clear H; have hnb10 := qb.out; have hnc10 := qc.out; (have hcz11_0 : w6.cell? ⟨q7, 0, none⟩ = some (.slice A0_0 l0_0.length c0_0) := (blk_cell q1.out 0).trans rfl); (have hcz11_1 : w6.cell? ⟨q7, 1, none⟩ = some (.slice A0_1 l0_1.length c0_1) := (blk_cell q1.out 1).trans rfl); have hfz11_0 := blk_frozen q1.out 0; have hfz11_1 := blk_frozen q1.out 1; (go_wp2_with (first | ((with_reducible refine gate_callee (f := 143) rfl ?_); refine goesL_ (some 10) rfl rfl Try.func143 (by kernel_rfl) rfl #[.agg #[.slice A0_0 l0_0.length c0_0, .slice A0_1 l0_1.length c0_1]] rfl ma ?_; (with_reducible refine (spec_IsCue.calls k _ _ l0_0 _ _ l0_1 true _ ?side1 ?side2 ?side3 ?side4 A7.out).mono ?_); (case side1 => exact ca (Kd.C_below HR0_0.out HB.out)); (case side2 => exact HC0_0.out); (case side3 => exact ca (Kd.C_below HR0_1.out HB.out)); (case side4 => exact HC0_1.out); rintro e w12 ⟨rfl, hb⟩; refine ⟨_, rfl, ?_⟩; have n0_ := q0_7 (bb q1.out hb); have n1_ := q0_7 (bb q3.out hb); have n2_ := q0_7 (below_step (q4_7) hb); clear q1; clear q3; clear HB; have q1 := n0_; have q3 := n1_; have HB := n2_; clear n0_ n1_ n2_; (try clear hb); (try clear hb2); (try clear hk); (try clear hi); have hcz13_0 : w12.cell? ⟨q7, 0, none⟩ = some (.slice A0_0 l0_0.length c0_0) := (blk_cell q1.out 0).trans rfl; have hcz13_1 : w12.cell? ⟨q7, 1, none⟩ = some (.slice A0_1 l0_1.length c0_1) := (blk_cell q1.out 1).trans rfl; have hfz13_0 := blk_frozen q1.out 0; have hfz13_1 := blk_frozen q1.out 1; have hcz14_0 : w12.cell? ⟨q9, 0, none⟩ = some (.slice A1_0 l1_0.length c1_0) := (blk_cell q3.out 0).trans rfl; have hcz14_1 : w12.cell? ⟨q9, 1, none⟩ = some (.int .i64 a1_1) := (blk_cell q3.out 1).trans rfl; have hfz14_0 := blk_frozen q3.out 0; have hfz14_1 := blk_frozen q3.out 1) | (go_at_call 142; (with_reducible refine (spec_IsFollower.calls k _ _ l0_0 _ _ l1_0 a1_1 t216 _ ?side1 ?side2 ?side3 ?side4 A9.out).mono ?_); (case side1 => exact ca (Kd.C_below HR0_0.out HB.out)); (case side2 => exact HC0_0.out); (case side3 => exact ca (Kd.C_below HR1_0.out HB.out)); (case side4 => exact HC1_0.out); rintro e w15 ⟨rfl, hb⟩; have n0_ := q0_7 (bb q1.out hb); have n1_ := q0_7 (bb q3.out hb); have n2_ := q0_7 (below_step (q4_7) hb); clear q1; clear q3; clear HB; have q1 := n0_; have q3 := n1_; have HB := n2_; clear n0_ n1_ n2_; (try clear hb); (try clear hb2); (try clear hk); (try clear hi)))); (go_meet)
    case rel => exact ⟨_, (!t216), (by first | rfl | (simp; done) | (simp [*]; done)), H', ⟨by first | omega | exact Nat.le_refl _⟩, ⟨by refine ba ?_; exact q1.out⟩, ⟨by refine ba ?_; exact q3.out⟩, ⟨by exact (q4_7)⟩⟩
  · replace c8 := Bool.eq_false_iff.mpr c8
    subst c8; (have H1 : (spec_SureTick.j0 k a2 true l0_0 l0_1 l1_0 a1_1) = some r := by rw [if_neg (show ¬ (false = true) by decide)] at H; exact H); clear H; have H := H1; clear H1; (have H' := q0_7 H); clear H; have hnb16 := qb.out; have hnc16 := qc.out; (have hcz17_0 : w6.cell? ⟨q7, 0, none⟩ = some (.slice A0_0 l0_0.length c0_0) := (blk_cell q1.out 0).trans rfl); (have hcz17_1 : w6.cell? ⟨q7, 1, none⟩ = some (.slice A0_1 l0_1.length c0_1) := (blk_cell q1.out 1).trans rfl); have hfz17_0 := blk_frozen q1.out 0; have hfz17_1 := blk_frozen q1.out 1; (go_wp2_with (first | ((with_reducible refine gate_callee (f := 143) rfl ?_); refine goesL_ (some 10) rfl rfl Try.func143 (by kernel_rfl) rfl #[.agg #[.slice A0_0 l0_0.length c0_0, .slice A0_1 l0_1.length c0_1]] rfl ma ?_; (with_reducible refine (spec_IsCue.calls k _ _ l0_0 _ _ l0_1 false _ ?side1 ?side2 ?side3 ?side4 A7.out).mono ?_); (case side1 => exact ca (Kd.C_below HR0_0.out HB.out)); (case side2 => exact HC0_0.out); (case side3 => exact ca (Kd.C_below HR0_1.out HB.out)); (case side4 => exact HC0_1.out); rintro e w18 ⟨rfl, hb⟩; refine ⟨_, rfl, ?_⟩; have n0_ := q0_7 (bb q1.out hb); have n1_ := q0_7 (bb q3.out hb); have n2_ := q0_7 (below_step (q4_7) hb); clear q1; clear q3; clear HB; have q1 := n0_; have q3 := n1_; have HB := n2_; clear n0_ n1_ n2_; (try clear hb); (try clear hb2); (try clear hk); (try clear hi)))); (go_meet)
    case rel => exact ⟨_, (true), (by first | rfl | (simp; done) | (simp [*]; done)), H', ⟨by first | omega | exact Nat.le_refl _⟩, ⟨by refine ba ?_; exact q1.out⟩, ⟨by refine ba ?_; exact q3.out⟩, ⟨by exact (q4_7)⟩⟩
 case rest =>
  clear HC4; (try clear c1); (try clear p2); (try clear c8); (try clear c10); (try clear c11); (try clear c14); (try clear c16); (try clear hcz11_0); (try clear hcz11_1); (try clear hcz13_0); (try clear hcz13_1); (try clear hcz14_0); (try clear hcz14_1); (try clear hcz17_0); (try clear hcz17_1); (try clear hfz11_0); (try clear hfz11_1); (try clear hfz13_0); (try clear hfz13_1); (try clear hfz14_0); (try clear hfz14_1); (try clear hfz17_0); (try clear hfz17_1); obtain ⟨kq, x18_3, rfl, HA, HJ3, q1, q3, HB⟩ := hcut
  cases kq with
  | zero => exact absurd HA.out (by simp [spec_SureTick.j0])
  | succ kj3 =>
   have H := HA.out; clear HA; (simp only [spec_SureTick.j0] at H)
   by_cases c19 : x18_3 = true
   · subst c19
     have H1 : (some (-1)) = some r := by rw [if_pos rfl] at H; exact H
     clear H; have H := H1; clear H1; obtain rfl := Option.some.inj H; (go_wp2); go_ret; (exact ⟨by first | rfl | (simp [errW_none, errW_some] <;> rfl) | (simp [*, errW_none, errW_some] <;> rfl), by exact (q4_7)⟩)
   · replace c19 := Bool.eq_false_iff.mpr c19
     subst c19; (have H1 : ((spec_SurelyBetween.f kj3 l1_0 a1_1 a2).bind fun bt217 => (if bt217.1 < 1 then (some (-1)) else (if 0 ≤ (wrap64 (bt217.1 - 1)) then (if (wrap64 (bt217.1 - 1)) < (l0_1.length : Int) then (some (rd l0_1 (wrap64 (bt217.1 - 1)))) else (none)) else (none)))) = some r := by rw [if_neg (show ¬ (false = true) by decide)] at H; exact H); clear H; have H := H1; clear H1; replace H := Option.bind_eq_some_iff.mp H; obtain ⟨⟨t217, t218⟩, A200, H⟩ := H; replace H : (if t217 < 1 then (some (-1)) else (if 0 ≤ (wrap64 (t217 - 1)) then (if (wrap64 (t217 - 1)) < (l0_1.length : Int) then (some (rd l0_1 (wrap64 (t217 - 1)))) else (none)) else (none))) = some r := H; have A20 := q0_7 A200; clear A200
     by_cases c21 : t217 < 1
     · rw [if_pos c21] at H
       (have c21b0 : decide (t217 < 1) = true := decide_eq_true c21); clear c21; obtain rfl := Option.some.inj H; have hnb22 := qc.out; have hnc22 := qb.out; (have hcz23_0 : wc.cell? ⟨q9, 0, none⟩ = some (.slice A1_0 l1_0.length c1_0) := (blk_cell q3.out 0).trans rfl); (have hcz23_1 : wc.cell? ⟨q9, 1, none⟩ = some (.int .i64 a1_1) := (blk_cell q3.out 1).trans rfl); have hfz23_0 := blk_frozen q3.out 0; have hfz23_1 := blk_frozen q3.out 1; (go_wp2_with (first | ((with_reducible refine gate_callee (f := 144) rfl ?_); refine goesL_ (some 22) rfl rfl Try.func144 (by kernel_rfl) rfl #[.agg #[.slice A1_0 l1_0.length c1_0, .int .i64 a1_1], .int .i64 a2] rfl ma ?_; (with_reducible refine (spec_SurelyBetween.calls kj3 _ _ l1_0 a1_1 a2 t217 t218 _ ?side1 ?side2 A20.out).mono ?_); (case side1 => exact ca (Kd.C_below HR1_0.out HB.out)); (case side2 => exact HC1_0.out); rintro e w24 ⟨rfl, hb⟩; refine ⟨_, rfl, ?_⟩; have n0_ := q0_7 (bb q1.out hb); have n1_ := q0_7 (bb q3.out hb); have n2_ := q0_7 (below_step (q4_7) hb); clear q1; clear q3; clear HB; have q1 := n0_; have q3 := n1_; have HB := n2_; clear n0_ n1_ n2_; (try clear hb); (try clear hb2); (try clear hk); (try clear hi)))); go_ret; (exact ⟨by first | rfl | (simp [errW_none, errW_some] <;> rfl) | (simp [*, errW_none, errW_some] <;> rfl), by exact (q4_7)⟩)
     · rw [if_neg c21] at H
       (have c21b0 : decide (t217 < 1) = false := decide_eq_false c21); clear c21; obtain ⟨ji25, hji25⟩ : ∃ j_ : Int, (wrap64 (t217 - 1)) = j_ := ⟨_, rfl⟩; (replace H : (if 0 ≤ (ji25) then (if (ji25) < (l0_1.length : Int) then (some (rd l0_1 (ji25))) else (none)) else (none)) = some r := by first | (rw [hji25] at H; exact H) | (simp only [hji25] at H ⊢; exact H)); ((try rw [hji25] at A20)); (have hji25w : (IntKind.i64.wrap (t217 - 1)) = ji25 := (i64_w _).trans hji25)
       by_cases c26 : 0 ≤ (ji25)
       · rw [if_pos c26] at H
         (have c26b0 : decide (0 ≤ (ji25)) = true := decide_eq_true c26); clear c26
         by_cases c27 : (ji25) < (l0_1.length : Int)
         · rw [if_pos c27] at H
           (have c27b0 : decide ((ji25) < (l0_1.length : Int)) = true := decide_eq_true c27); clear c27; obtain rfl := Option.some.inj H; have hnb28 := qc.out; have hnc28 := qb.out; (have hcz29_0 : wc.cell? ⟨q9, 0, none⟩ = some (.slice A1_0 l1_0.length c1_0) := (blk_cell q3.out 0).trans rfl); (have hcz29_1 : wc.cell? ⟨q9, 1, none⟩ = some (.int .i64 a1_1) := (blk_cell q3.out 1).trans rfl); have hfz29_0 := blk_frozen q3.out 0; have hfz29_1 := blk_frozen q3.out 1; (go_wp2_with (first | ((with_reducible refine gate_callee (f := 144) rfl ?_); refine goesL_ (some 22) rfl rfl Try.func144 (by kernel_rfl) rfl #[.agg #[.slice A1_0 l1_0.length c1_0, .int .i64 a1_1], .int .i64 a2] rfl ma ?_; (with_reducible refine (spec_SurelyBetween.calls kj3 _ _ l1_0 a1_1 a2 t217 t218 _ ?side1 ?side2 A20.out).mono ?_); (case side1 => exact ca (Kd.C_below HR1_0.out HB.out)); (case side2 => exact HC1_0.out); rintro e w30 ⟨rfl, hb⟩; refine ⟨_, rfl, ?_⟩; have n0_ := q0_7 (bb q1.out hb); have n1_ := q0_7 (bb q3.out hb); have n2_ := q0_7 (below_step (q4_7) hb); clear q1; clear q3; clear HB; have q1 := n0_; have q3 := n1_; have HB := n2_; clear n0_ n1_ n2_; (try clear hb); (try clear hb2); (try clear hk); (try clear hi); have hcz31_0 : w30.cell? ⟨q7, 0, none⟩ = some (.slice A0_0 l0_0.length c0_0) := (blk_cell q1.out 0).trans rfl; have hcz31_1 : w30.cell? ⟨q7, 1, none⟩ = some (.slice A0_1 l0_1.length c0_1) := (blk_cell q1.out 1).trans rfl; have hfz31_0 := blk_frozen q1.out 0; have hfz31_1 := blk_frozen q1.out 1; have p219 : 0 ≤ ((ji25) : Int) := of_decide_eq_true (by first | (with_reducible assumption) | assumption); have q219 : (ji25) < (l0_1.length : Int) := of_decide_eq_true (by first | (with_reducible assumption) | assumption); obtain ⟨ad219, e219, hx219_0⟩ := Kd.at_int HR0_1.out (ji25) p219 q219; cases e219; replace hx219_0 := (HB.out.cell (World.block_lt_of_cell? w _ hx219_0)).trans hx219_0; replace p219 := eq_true p219; replace q219 := eq_true q219))); go_ret; (exact ⟨by first | rfl | (simp [errW_none, errW_some] <;> rfl) | (simp only [← hji25]; first | rfl | (simp [errW_none, errW_some] <;> rfl)) | (simp [*, errW_none, errW_some] <;> rfl), by exact (q4_7)⟩)
         · rw [if_neg c27] at H
           exact absurd H (by simp)
       · rw [if_neg c26] at H
         exact absurd H (by simp)
end Go.Proofs.Ytlkcbmcbmanmiaa.PFnExactPlayAlong
