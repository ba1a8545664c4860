-- Written for this claim by a program of this repository (wip/tools/print2.py), out of the translation; Lean checks it.
import Derived.Test.YtdnhgdniaacghaaPFnExactChordTextx0
namespace Go.Proofs.Ytdnhgdniaacghaa.PFnExactChordText
open Go.RowKit Go.Proofs.YtdnhgdniaacghaaW.PrintWords Go.Proofs.YtdnhgdniaacghaaW.PrintLast Go.Proofs.YtdnhgdniaacghaaW.PrintMore
attribute [local go_sem] max2_int min2_int max_two min_two max_three min_three max_four min_four   -- for this text's walks alone
set_option linter.unusedVariables false
set_option linter.unusedSimpArgs false

/-! ### laws_toChord: function 10 -/
def laws_toChord.f (a0_0 : Int) (a0_1 : Int) : Option (Int × Int) := some (a0_0, a0_1)
set_option maxHeartbeats 8000000 in
set_option maxRecDepth 100000 in
theorem laws_toChord.calls (a0_0 : Int) (a0_1 : Int) (r1 : Int) (r2 : Int) (w : World) (h : laws_toChord.f a0_0 a0_1 = some (r1, r2)) :
    Calls Try.prog 10 #[.agg #[.int .i64 a0_0, .int .i64 a0_1]] w fun e w' => e = .returned (.agg #[.int .i64 r1, .int .i64 r2]) ∧ Below w.heap.size w w' := by
  have hu23 := Try.underlying23
  have hu25 := Try.underlying25
  have HB := Aside0.mk (Below.refl w.heap.size w)
  have H : (some (a0_0, a0_1)) = some (r1, r2) := h
  clear h
  simp only [Option.some.injEq, Prod.mk.injEq] at H
  obtain ⟨rfl, rfl⟩ := H
  go_enter Try.func10, Try.ntmps10
  go_wp2_with (first | ((with_reducible refine gate_dst (N := 1) rfl ?_); refine box_event ?hg (N := 1) ?hd (cs := #[.int .i64 a0_0, .int .i64 a0_1]) (t := 23) ?hr ?_; (case hd => rfl); (case hg => rfl); (case hr => first | (go_simp; done) | (go_simp; rfl)); intro gb101 hg w2 hbox hb; have n0_ := Aside0.mk (below_step (by repeat (first | (with_reducible first | exact HB.out | apply below_alloc | apply pw_below_drewN | apply below_drew1) | exact HB.out)) hb); have n1_ := Aside0.mk (hbox); have n2_ := Aside0.mk ((by rw [hg]; exact (below_size (by repeat (first | (with_reducible first | exact HB.out | apply below_alloc | apply pw_below_drewN | apply below_drew1) | exact HB.out))) : w.heap.size ≤ gb101)); have n3_ := Aside0.mk ((by rw [hg]; exact (below_size (by repeat (first | (with_reducible first | exact HB.out | apply below_alloc | apply pw_below_drewN | apply below_drew1) | exact HB.out))) : w.heap.size ≤ gb101)); clear HB; have HB := n0_; have BK101 := n1_; have GW101 := n2_; have GE101 := n3_; clear n0_ n1_ n2_ n3_; clear hb hbox hg) | ((with_reducible refine gate_dst (N := 2) rfl ?_); refine box_event ?hg (N := 2) ?hd (cs := #[.int .i64 0, .int .i64 0]) (t := 25) ?hr ?_; (case hd => rfl); (case hg => rfl); (case hr => first | (go_simp; done) | (go_simp; rfl)); intro gb102 hg w3 hbox hb; have n0_ := Aside0.mk (blk_below (g := gb101) (o := .cells #[.int .i64 a0_0, .int .i64 a0_1] 23 (0, 0)) (by (with_reducible repeat (first | refine blk_drewN ?_ _ | refine blk_drew ?_ | refine blk_alloc ?_ _)); exact BK101.out) hb); have n1_ := Aside0.mk (below_step (by repeat (first | (with_reducible first | exact HB.out | apply below_alloc | apply pw_below_drewN | apply below_drew1 | refine below_set ?_ GE101.out) | exact HB.out)) hb); have n2_ := Aside0.mk (hbox); have n3_ := Aside0.mk ((by rw [hg]; exact (below_size (by repeat (first | (with_reducible first | exact HB.out | apply below_alloc | apply pw_below_drewN | apply below_drew1 | refine below_set ?_ GE101.out) | exact HB.out))) : w.heap.size ≤ gb102)); have n4_ := Aside0.mk ((by rw [hg]; exact (below_size (by repeat (first | (with_reducible first | exact HB.out | apply below_alloc | apply pw_below_drewN | apply below_drew1 | refine below_set ?_ GE101.out) | exact HB.out))) : w.heap.size ≤ gb102)); have n5_ := Aside0.mk ((by rw [hg]; exact Nat.ne_of_lt (blk_lt (g := gb101) (o := .cells #[.int .i64 a0_0, .int .i64 a0_1] 23 (0, 0)) (by (with_reducible repeat (first | refine blk_drewN ?_ _ | refine blk_drew ?_ | refine blk_alloc ?_ _)); exact BK101.out)) : gb101 ≠ gb102)); have n6_ := Aside0.mk ((by rw [hg]; exact Nat.ne_of_gt (blk_lt (g := gb101) (o := .cells #[.int .i64 a0_0, .int .i64 a0_1] 23 (0, 0)) (by (with_reducible repeat (first | refine blk_drewN ?_ _ | refine blk_drew ?_ | refine blk_alloc ?_ _)); exact BK101.out)) : gb102 ≠ gb101)); clear BK101; clear HB; have BK101 := n0_; have HB := n1_; have BK102 := n2_; have GW102 := n3_; have GE102 := n4_; have NB101_102 := n5_; have NB102_101 := n6_; clear n0_ n1_ n2_ n3_ n4_ n5_ n6_; clear hb hbox hg) | ((with_reducible refine gate_dst (N := 3) rfl ?_); refine box_event ?hg (N := 3) ?hd (cs := #[.int .i64 0, .int .i64 0]) (t := 25) ?hr ?_; (case hd => rfl); (case hg => rfl); (case hr => first | (go_simp; done) | (go_simp; rfl)); intro gb103 hg w4 hbox hb; have n0_ := Aside0.mk (blk_below (g := gb101) (o := .cells #[.int .i64 a0_0, .int .i64 a0_1] 23 (0, 0)) (by (with_reducible repeat (first | refine blk_drewN ?_ _ | refine blk_drew ?_ | refine blk_alloc ?_ _)); exact BK101.out) hb); have n1_ := Aside0.mk (blk_below (g := gb102) (o := .cells #[.int .i64 0, .int .i64 0] 25 (0, 0)) (by (with_reducible repeat (first | refine blk_drewN ?_ _ | refine blk_drew ?_ | refine blk_alloc ?_ _)); exact BK102.out) hb); have n2_ := Aside0.mk (below_step (by repeat (first | (with_reducible first | exact HB.out | apply below_alloc | apply pw_below_drewN | apply below_drew1 | refine below_set ?_ GE101.out | refine below_set ?_ GE102.out) | exact HB.out)) hb); have n3_ := Aside0.mk (hbox); have n4_ := Aside0.mk ((by rw [hg]; exact (below_size (by repeat (first | (with_reducible first | exact HB.out | apply below_alloc | apply pw_below_drewN | apply below_drew1 | refine below_set ?_ GE101.out | refine below_set ?_ GE102.out) | exact HB.out))) : w.heap.size ≤ gb103)); have n5_ := Aside0.mk ((by rw [hg]; exact (below_size (by repeat (first | (with_reducible first | exact HB.out | apply below_alloc | apply pw_below_drewN | apply below_drew1 | refine below_set ?_ GE101.out | refine below_set ?_ GE102.out) | exact HB.out))) : w.heap.size ≤ gb103)); have n6_ := Aside0.mk ((by rw [hg]; exact Nat.ne_of_lt (blk_lt (g := gb101) (o := .cells #[.int .i64 a0_0, .int .i64 a0_1] 23 (0, 0)) (by (with_reducible repeat (first | refine blk_drewN ?_ _ | refine blk_drew ?_ | refine blk_alloc ?_ _)); exact BK101.out)) : gb101 ≠ gb103)); have n7_ := Aside0.mk ((by rw [hg]; exact Nat.ne_of_gt (blk_lt (g := gb101) (o := .cells #[.int .i64 a0_0, .int .i64 a0_1] 23 (0, 0)) (by (with_reducible repeat (first | refine blk_drewN ?_ _ | refine blk_drew ?_ | refine blk_alloc ?_ _)); exact BK101.out)) : gb103 ≠ gb101)); have n8_ := Aside0.mk ((by rw [hg]; exact Nat.ne_of_lt (blk_lt (g := gb102) (o := .cells #[.int .i64 0, .int .i64 0] 25 (0, 0)) (by (with_reducible repeat (first | refine blk_drewN ?_ _ | refine blk_drew ?_ | refine blk_alloc ?_ _)); exact BK102.out)) : gb102 ≠ gb103)); have n9_ := Aside0.mk ((by rw [hg]; exact Nat.ne_of_gt (blk_lt (g := gb102) (o := .cells #[.int .i64 0, .int .i64 0] 25 (0, 0)) (by (with_reducible repeat (first | refine blk_drewN ?_ _ | refine blk_drew ?_ | refine blk_alloc ?_ _)); exact BK102.out)) : gb103 ≠ gb102)); clear BK101; clear BK102; clear HB; have BK101 := n0_; have BK102 := n1_; have HB := n2_; have BK103 := n3_; have GW103 := n4_; have GE103 := n5_; have NB101_103 := n6_; have NB103_101 := n7_; have NB102_103 := n8_; have NB103_102 := n9_; clear n0_ n1_ n2_ n3_ n4_ n5_ n6_ n7_ n8_ n9_; clear hb hbox hg; have hnb5 := NB101_102.out; have hnc5 := NB102_101.out; have hnb6 := NB101_103.out; have hnc6 := NB103_101.out; have hcz7_0 : w4.cell? ⟨gb101, 0, none⟩ = some (.int .i64 a0_0) := (blk_cell BK101.out 0).trans rfl; have hcz7_1 : w4.cell? ⟨gb101, 1, none⟩ = some (.int .i64 a0_1) := (blk_cell BK101.out 1).trans rfl; have hfz7_0 := blk_frozen BK101.out 0; have hfz7_1 := blk_frozen BK101.out 1; have hnb8 := NB103_102.out; have hnc8 := NB102_103.out; have hcz9_0 : w4.cell? ⟨gb103, 0, none⟩ = some (.int .i64 0) := (blk_cell BK103.out 0).trans rfl; have hcz9_1 : w4.cell? ⟨gb103, 1, none⟩ = some (.int .i64 0) := (blk_cell BK103.out 1).trans rfl; have hfz9_0 := blk_frozen BK103.out 0; have hfz9_1 := blk_frozen BK103.out 1; have hcz10_0 : w4.cell? ⟨gb102, 0, none⟩ = some (.int .i64 0) := (blk_cell BK102.out 0).trans rfl; have hcz10_1 : w4.cell? ⟨gb102, 1, none⟩ = some (.int .i64 0) := (blk_cell BK102.out 1).trans rfl; have hfz10_0 := blk_frozen BK102.out 0; have hfz10_1 := blk_frozen BK102.out 1))
  refine bodyPost_ret (results_cell_row rfl _ _ gb102 25 #[.int .i64 a0_0, .int .i64 a0_1] (0, 0) _ rfl (by (with_reducible repeat (first | refine blk_drewN ?_ _ | refine blk_drew ?_ | refine blk_alloc ?_ _)); refine blk_put (cs := #[.int .i64 a0_0, .int .i64 0]) ?_ 1 _ rfl; (with_reducible repeat (first | refine blk_drewN ?_ _ | refine blk_drew ?_ | refine blk_alloc ?_ _)); refine blk_put (cs := #[.int .i64 0, .int .i64 0]) ?_ 0 _ rfl; (with_reducible repeat (first | refine blk_drewN ?_ _ | refine blk_drew ?_ | refine blk_alloc ?_ _)); refine blk_far ?_ NB102_103.out _; (with_reducible repeat (first | refine blk_drewN ?_ _ | refine blk_drew ?_ | refine blk_alloc ?_ _)); refine blk_far ?_ NB102_103.out _; (with_reducible repeat (first | refine blk_drewN ?_ _ | refine blk_drew ?_ | refine blk_alloc ?_ _)); exact BK102.out) Try.underlying25 rfl (by kernel_rfl)) rfl ?_
  exact ⟨by first | rfl | (simp [errW_none, errW_some] <;> rfl) | (simp [*, errW_none, errW_some] <;> rfl), by repeat (first | (with_reducible first | exact HB.out | apply below_alloc | apply pw_below_drewN | apply below_drew1 | refine below_set ?_ GE101.out | refine below_set ?_ GE102.out | refine below_set ?_ GE103.out) | exact HB.out)⟩

/-! ### spec_l1In: function 28 -/
def spec_l1In.f (a0 : Int) (a1 : Int) (a2 : Int) : Option (Bool) := if a0 ≥ a1 then (some (decide (a0 ≤ a2))) else (some false)
set_option maxHeartbeats 8000000 in
set_option maxRecDepth 100000 in
theorem spec_l1In.calls (a0 : Int) (a1 : Int) (a2 : Int) (r : Bool) (w : World) (h : spec_l1In.f a0 a1 a2 = some r) :
    Calls Try.prog 28 #[.int .i64 a0, .int .i64 a1, .int .i64 a2] w fun e w' => e = .returned (.bool r) ∧ Drawn0 w w' := by
  have H : (if a0 ≥ a1 then (some (decide (a0 ≤ a2))) else (some false)) = some r := h
  clear h
  by_cases c4 : a0 ≥ a1
  · rw [if_pos c4] at H
    have c4b0 : decide (a1 ≤ a0) = true := decide_eq_true c4
    clear c4
    obtain rfl := Option.some.inj H
    go_enter Try.func28, Try.ntmps28
    go_wp2
    go_ret
    exact ⟨by first | rfl | (simp; done) | (simp [*]; done), by repeat (first | exact Drawn0.refl _ | apply Drawn0.step)⟩
  · rw [if_neg c4] at H
    have c4b0 : decide (a1 ≤ a0) = false := decide_eq_false c4
    clear c4
    obtain rfl := Option.some.inj H
    go_enter Try.func28, Try.ntmps28
    go_wp2
    go_ret
    exact ⟨by first | rfl | (simp; done) | (simp [*]; done), by repeat (first | exact Drawn0.refl _ | apply Drawn0.step)⟩

/-! ### spec_IsChord: function 9 -/
def spec_IsChord.f (a0_0 : Int) (a0_1 : Int) : Option (Bool) := (spec_l1In.f a0_0 0 11).bind fun t105 => (if t105 = true then ((spec_l1In.f a0_1 1 5).bind fun t106 => (some t106)) else (some false))
set_option maxHeartbeats 8000000 in
set_option maxRecDepth 100000 in
theorem spec_IsChord.calls (a0_0 : Int) (a0_1 : Int) (r : Bool) (w : World) (h : spec_IsChord.f a0_0 a0_1 = some r) :
    Calls Try.prog 9 #[.agg #[.int .i64 a0_0, .int .i64 a0_1]] w fun e w' => e = .returned (.bool r) ∧ Below w.heap.size w w' := by
  have hu25 := Try.underlying25
  have HB := Aside0.mk (Below.refl w.heap.size w)
  have H : ((spec_l1In.f a0_0 0 11).bind fun t105 => (if t105 = true then ((spec_l1In.f a0_1 1 5).bind fun t106 => (some t106)) else (some false))) = some r := h
  clear h
  replace H := Option.bind_eq_some_iff.mp H
  obtain ⟨t105, A20, H⟩ := H
  replace H : (if t105 = true then ((spec_l1In.f a0_1 1 5).bind fun t106 => (some t106)) else (some false)) = some r := H
  have A2 := Aside0.mk A20
  clear A20
  by_cases c3 : t105 = true
  · subst c3
    have H1 : ((spec_l1In.f a0_1 1 5).bind fun t106 => (some t106)) = some r := by rw [if_pos rfl] at H; exact H
    clear H
    have H := H1
    clear H1
    replace H := Option.bind_eq_some_iff.mp H
    obtain ⟨t106, A40, H⟩ := H
    replace H : (some t106) = some r := H
    have A4 := Aside0.mk A40
    clear A40
    obtain rfl := Option.some.inj H
    go_enter Try.func9, Try.ntmps9
    go_wp2_with (first | ((with_reducible refine gate_dst (N := 1) rfl ?_); refine box_event ?hg (N := 1) ?hd (cs := #[.int .i64 a0_0, .int .i64 a0_1]) (t := 25) ?hr ?_; (case hd => rfl); (case hg => rfl); (case hr => first | (go_simp; done) | (go_simp; rfl)); intro gb104 hg w5 hbox hb; have n0_ := Aside0.mk (below_step (by repeat (first | (with_reducible first | exact HB.out | apply below_alloc | apply pw_below_drewN | apply below_drew1) | exact HB.out)) hb); have n1_ := Aside0.mk (hbox); have n2_ := Aside0.mk ((by rw [hg]; exact (below_size (by repeat (first | (with_reducible first | exact HB.out | apply below_alloc | apply pw_below_drewN | apply below_drew1) | exact HB.out))) : w.heap.size ≤ gb104)); have n3_ := Aside0.mk ((by rw [hg]; exact (below_size (by repeat (first | (with_reducible first | exact HB.out | apply below_alloc | apply pw_below_drewN | apply below_drew1) | exact HB.out))) : w.heap.size ≤ gb104)); clear HB; have HB := n0_; have BK104 := n1_; have GW104 := n2_; have GE104 := n3_; clear n0_ n1_ n2_ n3_; clear hb hbox hg; have hcz6_0 : w5.cell? ⟨gb104, 0, none⟩ = some (.int .i64 a0_0) := (blk_cell BK104.out 0).trans rfl; have hcz6_1 : w5.cell? ⟨gb104, 1, none⟩ = some (.int .i64 a0_1) := (blk_cell BK104.out 1).trans rfl; have hfz6_0 := blk_frozen BK104.out 0; have hfz6_1 := blk_frozen BK104.out 1) | ((with_reducible refine gate_callee (f := 28) rfl ?_); refine goesL_ (some 5) rfl rfl Try.func28 (by kernel_rfl) rfl #[.int .i64 a0_0, .int .i64 0, .int .i64 11] rfl (by (try simp only [List.map_toArray, List.map_cons, List.map_nil]); first | done | rfl | (simp only [List.length_drop, List.length_take]; rfl)) ?_; (with_reducible refine (spec_l1In.calls a0_0 0 11 true _ A2.out).mono ?_); rintro e w' ⟨rfl, ⟨nd, rfl⟩⟩; refine ⟨_, rfl, ?_⟩) | (go_at_call 28; (with_reducible refine (spec_l1In.calls a0_1 1 5 t106 _ A4.out).mono ?_); rintro e w' ⟨rfl, ⟨nd, rfl⟩⟩))
    go_ret
    exact ⟨by first | rfl | (simp [errW_none, errW_some] <;> rfl) | (simp [*, errW_none, errW_some] <;> rfl), by repeat (first | (with_reducible first | exact HB.out | apply below_alloc | apply pw_below_drewN | apply below_drew1 | refine below_set ?_ GE104.out) | exact HB.out)⟩
  · replace c3 := Bool.eq_false_iff.mpr c3
    subst c3
    have H1 : (some false) = some r := by rw [if_neg (show ¬ (false = true) by decide)] at H; exact H
    clear H
    have H := H1
    clear H1
    obtain rfl := Option.some.inj H
    go_enter Try.func9, Try.ntmps9
    go_wp2_with (first | ((with_reducible refine gate_dst (N := 1) rfl ?_); refine box_event ?hg (N := 1) ?hd (cs := #[.int .i64 a0_0, .int .i64 a0_1]) (t := 25) ?hr ?_; (case hd => rfl); (case hg => rfl); (case hr => first | (go_simp; done) | (go_simp; rfl)); intro gb104 hg w7 hbox hb; have n0_ := Aside0.mk (below_step (by repeat (first | (with_reducible first | exact HB.out | apply below_alloc | apply pw_below_drewN | apply below_drew1) | exact HB.out)) hb); have n1_ := Aside0.mk (hbox); have n2_ := Aside0.mk ((by rw [hg]; exact (below_size (by repeat (first | (with_reducible first | exact HB.out | apply below_alloc | apply pw_below_drewN | apply below_drew1) | exact HB.out))) : w.heap.size ≤ gb104)); have n3_ := Aside0.mk ((by rw [hg]; exact (below_size (by repeat (first | (with_reducible first | exact HB.out | apply below_alloc | apply pw_below_drewN | apply below_drew1) | exact HB.out))) : w.heap.size ≤ gb104)); clear HB; have HB := n0_; have BK104 := n1_; have GW104 := n2_; have GE104 := n3_; clear n0_ n1_ n2_ n3_; clear hb hbox hg; have hcz8_0 : w7.cell? ⟨gb104, 0, none⟩ = some (.int .i64 a0_0) := (blk_cell BK104.out 0).trans rfl; have hcz8_1 : w7.cell? ⟨gb104, 1, none⟩ = some (.int .i64 a0_1) := (blk_cell BK104.out 1).trans rfl; have hfz8_0 := blk_frozen BK104.out 0; have hfz8_1 := blk_frozen BK104.out 1) | ((with_reducible refine gate_callee (f := 28) rfl ?_); refine goesL_ (some 5) rfl rfl Try.func28 (by kernel_rfl) rfl #[.int .i64 a0_0, .int .i64 0, .int .i64 11] rfl (by (try simp only [List.map_toArray, List.map_cons, List.map_nil]); first | done | rfl | (simp only [List.length_drop, List.length_take]; rfl)) ?_; (with_reducible refine (spec_l1In.calls a0_0 0 11 false _ A2.out).mono ?_); rintro e w' ⟨rfl, ⟨nd, rfl⟩⟩; refine ⟨_, rfl, ?_⟩))
    go_ret
    exact ⟨by first | rfl | (simp [errW_none, errW_some] <;> rfl) | (simp [*, errW_none, errW_some] <;> rfl), by repeat (first | (with_reducible first | exact HB.out | apply below_alloc | apply pw_below_drewN | apply below_drew1 | refine below_set ?_ GE104.out) | exact HB.out)⟩

/-! ### spec_ChordText: function 16 -/
def spec_ChordText.f (a0_0 : Int) (a0_1 : Int) : Option (ByteArray) := (spec_IsChord.f a0_0 a0_1).bind fun t108 => (if t108 = true then ((some (([(⟨#[99]⟩ : ByteArray), (⟨#[99, 35]⟩ : ByteArray), (⟨#[100]⟩ : ByteArray), (⟨#[100, 35]⟩ : ByteArray), (⟨#[101]⟩ : ByteArray), (⟨#[102]⟩ : ByteArray), (⟨#[102, 35]⟩ : ByteArray), (⟨#[103]⟩ : ByteArray), (⟨#[103, 35]⟩ : ByteArray), (⟨#[97]⟩ : ByteArray), (⟨#[97, 35]⟩ : ByteArray), (⟨#[98]⟩ : ByteArray)] : List ByteArray) : List ByteArray)).bind fun y109 => (if 0 ≤ a0_0 then (if a0_0 < (y109.length : Int) then ((some (([(⟨#[]⟩ : ByteArray), (⟨#[109]⟩ : ByteArray), (⟨#[111]⟩ : ByteArray), (⟨#[43]⟩ : ByteArray), (⟨#[55]⟩ : ByteArray)] : List ByteArray) : List ByteArray)).bind fun y113 => (if 0 ≤ (wrap64 (a0_1 - 1)) then (if (wrap64 (a0_1 - 1)) < (y113.length : Int) then (if (rdOf ByteArray.empty y109 a0_0).size + (rdOf ByteArray.empty y113 (wrap64 (a0_1 - 1))).size ≤ 9223372036854775807 then (some ((rdOf ByteArray.empty y109 a0_0) ++ (rdOf ByteArray.empty y113 (wrap64 (a0_1 - 1))))) else (none)) else (none)) else (none))) else (none)) else (none))) else (some (⟨#[]⟩ : ByteArray)))
def spec_ChordText.T3 : Bool × List (List Nat × List Nat) := (true, [([], []), ([], []), ([1], [1]), ([0, 2], [0, 2]), ([3], [3]), ([], []), ([], []), ([6], [6]), ([7], [7]), ([5, 8], [5, 8]), ([9], [9]), ([4, 10], [4, 10]), ([11, 0, 1, 2, 3, 4, 5, 6, 7, 8, 9, 10, 11], [11])])
def spec_ChordText.B3 : List Nat := [0, 0, 2, 7, 15, 0, 0, 64, 192, 480, 992, 2047, 4095]
theorem spec_ChordText.tab3 : rtab .any (opsOf Try.f16 3) = spec_ChordText.T3 := by kernel_rfl
theorem spec_ChordText.bits3 : waitsOk spec_ChordText.T3.2 spec_ChordText.B3 = true := by kernel_rfl
set_option maxHeartbeats 8000000 in
set_option maxRecDepth 100000 in
theorem spec_ChordText.calls (a0_0 : Int) (a0_1 : Int) (r : ByteArray) (w : World) (h : spec_ChordText.f a0_0 a0_1 = some r) :
    Calls Try.prog 16 #[.agg #[.int .i64 a0_0, .int .i64 a0_1]] w fun e w' => e = .returned (.string r) ∧ Below w.heap.size w w' := by
  have hu25 := Try.underlying25
  have HB := Aside0.mk (Below.refl w.heap.size w)
  have H : ((spec_IsChord.f a0_0 a0_1).bind fun t108 => (if t108 = true then ((some (([(⟨#[99]⟩ : ByteArray), (⟨#[99, 35]⟩ : ByteArray), (⟨#[100]⟩ : ByteArray), (⟨#[100, 35]⟩ : ByteArray), (⟨#[101]⟩ : ByteArray), (⟨#[102]⟩ : ByteArray), (⟨#[102, 35]⟩ : ByteArray), (⟨#[103]⟩ : ByteArray), (⟨#[103, 35]⟩ : ByteArray), (⟨#[97]⟩ : ByteArray), (⟨#[97, 35]⟩ : ByteArray), (⟨#[98]⟩ : ByteArray)] : List ByteArray) : List ByteArray)).bind fun y109 => (if 0 ≤ a0_0 then (if a0_0 < (y109.length : Int) then ((some (([(⟨#[]⟩ : ByteArray), (⟨#[109]⟩ : ByteArray), (⟨#[111]⟩ : ByteArray), (⟨#[43]⟩ : ByteArray), (⟨#[55]⟩ : ByteArray)] : List ByteArray) : List ByteArray)).bind fun y113 => (if 0 ≤ (wrap64 (a0_1 - 1)) then (if (wrap64 (a0_1 - 1)) < (y113.length : Int) then (if (rdOf ByteArray.empty y109 a0_0).size + (rdOf ByteArray.empty y113 (wrap64 (a0_1 - 1))).size ≤ 9223372036854775807 then (some ((rdOf ByteArray.empty y109 a0_0) ++ (rdOf ByteArray.empty y113 (wrap64 (a0_1 - 1))))) else (none)) else (none)) else (none))) else (none)) else (none))) else (some (⟨#[]⟩ : ByteArray)))) = some r := h
  clear h
  replace H := Option.bind_eq_some_iff.mp H
  obtain ⟨t108, A20, H⟩ := H
  replace H : (if t108 = true then ((some (([(⟨#[99]⟩ : ByteArray), (⟨#[99, 35]⟩ : ByteArray), (⟨#[100]⟩ : ByteArray), (⟨#[100, 35]⟩ : ByteArray), (⟨#[101]⟩ : ByteArray), (⟨#[102]⟩ : ByteArray), (⟨#[102, 35]⟩ : ByteArray), (⟨#[103]⟩ : ByteArray), (⟨#[103, 35]⟩ : ByteArray), (⟨#[97]⟩ : ByteArray), (⟨#[97, 35]⟩ : ByteArray), (⟨#[98]⟩ : ByteArray)] : List ByteArray) : List ByteArray)).bind fun y109 => (if 0 ≤ a0_0 then (if a0_0 < (y109.length : Int) then ((some (([(⟨#[]⟩ : ByteArray), (⟨#[109]⟩ : ByteArray), (⟨#[111]⟩ : ByteArray), (⟨#[43]⟩ : ByteArray), (⟨#[55]⟩ : ByteArray)] : List ByteArray) : List ByteArray)).bind fun y113 => (if 0 ≤ (wrap64 (a0_1 - 1)) then (if (wrap64 (a0_1 - 1)) < (y113.length : Int) then (if (rdOf ByteArray.empty y109 a0_0).size + (rdOf ByteArray.empty y113 (wrap64 (a0_1 - 1))).size ≤ 9223372036854775807 then (some ((rdOf ByteArray.empty y109 a0_0) ++ (rdOf ByteArray.empty y113 (wrap64 (a0_1 - 1))))) else (none)) else (none)) else (none))) else (none)) else (none))) else (some (⟨#[]⟩ : ByteArray))) = some r := H
  have A2 := Aside0.mk A20
  clear A20
  by_cases c3 : t108 = true
  · subst c3
    have H1 : ((some (([(⟨#[99]⟩ : ByteArray), (⟨#[99, 35]⟩ : ByteArray), (⟨#[100]⟩ : ByteArray), (⟨#[100, 35]⟩ : ByteArray), (⟨#[101]⟩ : ByteArray), (⟨#[102]⟩ : ByteArray), (⟨#[102, 35]⟩ : ByteArray), (⟨#[103]⟩ : ByteArray), (⟨#[103, 35]⟩ : ByteArray), (⟨#[97]⟩ : ByteArray), (⟨#[97, 35]⟩ : ByteArray), (⟨#[98]⟩ : ByteArray)] : List ByteArray) : List ByteArray)).bind fun y109 => (if 0 ≤ a0_0 then (if a0_0 < (y109.length : Int) then ((some (([(⟨#[]⟩ : ByteArray), (⟨#[109]⟩ : ByteArray), (⟨#[111]⟩ : ByteArray), (⟨#[43]⟩ : ByteArray), (⟨#[55]⟩ : ByteArray)] : List ByteArray) : List ByteArray)).bind fun y113 => (if 0 ≤ (wrap64 (a0_1 - 1)) then (if (wrap64 (a0_1 - 1)) < (y113.length : Int) then (if (rdOf ByteArray.empty y109 a0_0).size + (rdOf ByteArray.empty y113 (wrap64 (a0_1 - 1))).size ≤ 9223372036854775807 then (some ((rdOf ByteArray.empty y109 a0_0) ++ (rdOf ByteArray.empty y113 (wrap64 (a0_1 - 1))))) else (none)) else (none)) else (none))) else (none)) else (none))) = some r := by rw [if_pos rfl] at H; exact H
    clear H
    have H := H1
    clear H1
    obtain ⟨y109, hy109⟩ : ∃ y_ : List ByteArray, y_ = (([(⟨#[99]⟩ : ByteArray), (⟨#[99, 35]⟩ : ByteArray), (⟨#[100]⟩ : ByteArray), (⟨#[100, 35]⟩ : ByteArray), (⟨#[101]⟩ : ByteArray), (⟨#[102]⟩ : ByteArray), (⟨#[102, 35]⟩ : ByteArray), (⟨#[103]⟩ : ByteArray), (⟨#[103, 35]⟩ : ByteArray), (⟨#[97]⟩ : ByteArray), (⟨#[97, 35]⟩ : ByteArray), (⟨#[98]⟩ : ByteArray)] : List ByteArray)) := ⟨_, rfl⟩
    replace H : (if 0 ≤ a0_0 then (if a0_0 < (y109.length : Int) then ((some (([(⟨#[]⟩ : ByteArray), (⟨#[109]⟩ : ByteArray), (⟨#[111]⟩ : ByteArray), (⟨#[43]⟩ : ByteArray), (⟨#[55]⟩ : ByteArray)] : List ByteArray) : List ByteArray)).bind fun y113 => (if 0 ≤ (wrap64 (a0_1 - 1)) then (if (wrap64 (a0_1 - 1)) < (y113.length : Int) then (if (rdOf ByteArray.empty y109 a0_0).size + (rdOf ByteArray.empty y113 (wrap64 (a0_1 - 1))).size ≤ 9223372036854775807 then (some ((rdOf ByteArray.empty y109 a0_0) ++ (rdOf ByteArray.empty y113 (wrap64 (a0_1 - 1))))) else (none)) else (none)) else (none))) else (none)) else (none)) = some r := by first | (rw [hy109]; with_reducible exact H) | (have H2_ := (Option.bind_some _ _).symm.trans H; rw [hy109]; with_reducible exact H2_) | (have H2_ := (Option.bind_some _ _).symm.trans H; with_reducible exact H2_) | with_reducible exact H | (rw [hy109]; exact H) | exact H
    have Ny109 := Aside0.mk hy109
    clear hy109
    by_cases c4 : 0 ≤ a0_0
    · rw [if_pos c4] at H
      have c4b0 : decide (0 ≤ a0_0) = true := decide_eq_true c4
      clear c4
      by_cases c5 : a0_0 < (y109.length : Int)
      · rw [if_pos c5] at H
        have c5b0 : decide (a0_0 < (y109.length : Int)) = true := decide_eq_true c5
        clear c5
        obtain ⟨y113, hy113⟩ : ∃ y_ : List ByteArray, y_ = (([(⟨#[]⟩ : ByteArray), (⟨#[109]⟩ : ByteArray), (⟨#[111]⟩ : ByteArray), (⟨#[43]⟩ : ByteArray), (⟨#[55]⟩ : ByteArray)] : List ByteArray)) := ⟨_, rfl⟩
        replace H : (if 0 ≤ (wrap64 (a0_1 - 1)) then (if (wrap64 (a0_1 - 1)) < (y113.length : Int) then (if (rdOf ByteArray.empty y109 a0_0).size + (rdOf ByteArray.empty y113 (wrap64 (a0_1 - 1))).size ≤ 9223372036854775807 then (some ((rdOf ByteArray.empty y109 a0_0) ++ (rdOf ByteArray.empty y113 (wrap64 (a0_1 - 1))))) else (none)) else (none)) else (none)) = some r := by first | (rw [hy113]; with_reducible exact H) | (have H2_ := (Option.bind_some _ _).symm.trans H; rw [hy113]; with_reducible exact H2_) | (have H2_ := (Option.bind_some _ _).symm.trans H; with_reducible exact H2_) | with_reducible exact H | (rw [hy113]; exact H) | exact H
        have Ny113 := Aside0.mk hy113
        clear hy113
        obtain ⟨ji6, hji6⟩ : ∃ j_ : Int, (wrap64 (a0_1 - 1)) = j_ := ⟨_, rfl⟩
        replace H : (if 0 ≤ (ji6) then (if (ji6) < (y113.length : Int) then (if (rdOf ByteArray.empty y109 a0_0).size + (rdOf ByteArray.empty y113 (ji6)).size ≤ 9223372036854775807 then (some ((rdOf ByteArray.empty y109 a0_0) ++ (rdOf ByteArray.empty y113 (ji6)))) else (none)) else (none)) else (none)) = some r := by first | (rw [hji6] at H; exact H) | (simp only [hji6] at H ⊢; exact H)
        (try rw [hji6] at A2)
        have hji6w : (IntKind.i64.wrap (a0_1 - 1)) = ji6 := (i64_w _).trans hji6
        by_cases c7 : 0 ≤ (ji6)
        · rw [if_pos c7] at H
          have c7b0 : decide (0 ≤ (ji6)) = true := decide_eq_true c7
          clear c7
          by_cases c8 : (ji6) < (y113.length : Int)
          · rw [if_pos c8] at H
            have c8b0 : decide ((ji6) < (y113.length : Int)) = true := decide_eq_true c8
            clear c8
            by_cases c9 : (rdOf ByteArray.empty y109 a0_0).size + (rdOf ByteArray.empty y113 (ji6)).size ≤ 9223372036854775807
            · rw [if_pos c9] at H
              have c9b0 := eq_true c9
              have c9b1 : decide ((rdOf ByteArray.empty y109 a0_0).size + (rdOf ByteArray.empty y113 (ji6)).size ≤ 9223372036854775807) = true := decide_eq_true c9
              try have c9b2 : (9223372036854775807 < (rdOf ByteArray.empty y109 a0_0).size + (rdOf ByteArray.empty y113 (ji6)).size) = False := eq_false (Nat.not_lt.2 c9)
              obtain rfl := Option.some.inj H
              go_enter Try.func16, Try.ntmps16
              try go_wp2_with (first | ((with_reducible refine gate_dst (N := 1) rfl ?_); refine box_event ?hg (N := 1) ?hd (cs := #[.int .i64 a0_0, .int .i64 a0_1]) (t := 25) ?hr ?_; (case hd => rfl); (case hg => rfl); (case hr => first | (go_simp; done) | (go_simp; rfl)); intro gb107 hg w10 hbox hb; have n0_ := Aside0.mk (below_step (by repeat (first | (with_reducible first | exact HB.out | apply below_alloc | apply pw_below_drewN | apply below_drew1) | exact HB.out)) hb); have n1_ := Aside0.mk (hbox); have n2_ := Aside0.mk ((by rw [hg]; exact (below_size (by repeat (first | (with_reducible first | exact HB.out | apply below_alloc | apply pw_below_drewN | apply below_drew1) | exact HB.out))) : w.heap.size ≤ gb107)); have n3_ := Aside0.mk ((by rw [hg]; exact (below_size (by repeat (first | (with_reducible first | exact HB.out | apply below_alloc | apply pw_below_drewN | apply below_drew1) | exact HB.out))) : w.heap.size ≤ gb107)); clear HB; have HB := n0_; have BK107 := n1_; have GW107 := n2_; have GE107 := n3_; clear n0_ n1_ n2_ n3_; clear hb hbox hg; have hcz11_0 : w10.cell? ⟨gb107, 0, none⟩ = some (.int .i64 a0_0) := (blk_cell BK107.out 0).trans rfl; have hcz11_1 : w10.cell? ⟨gb107, 1, none⟩ = some (.int .i64 a0_1) := (blk_cell BK107.out 1).trans rfl; have hfz11_0 := blk_frozen BK107.out 0; have hfz11_1 := blk_frozen BK107.out 1) | ((with_reducible refine gate_callee (f := 9) rfl ?_); refine goesL_ (some 4) rfl rfl Try.func9 (by kernel_rfl) rfl #[.agg #[.int .i64 a0_0, .int .i64 a0_1]] rfl (by (try simp only [List.map_toArray, List.map_cons, List.map_nil]); first | done | rfl | (simp only [List.length_drop, List.length_take]; rfl)) ?_; (with_reducible refine (spec_IsChord.calls a0_0 a0_1 true _ A2.out).mono ?_); rintro e w12 ⟨rfl, hb⟩; refine ⟨_, rfl, ?_⟩; have n0_ := Aside0.mk (blk_below (g := gb107) (o := .cells #[.int .i64 a0_0, .int .i64 a0_1] 25 (0, 0)) (by (with_reducible repeat (first | refine blk_drewN ?_ _ | refine blk_drew ?_ | refine blk_alloc ?_ _)); exact BK107.out) hb); have n1_ := Aside0.mk (below_step (by repeat (first | (with_reducible first | exact HB.out | apply below_alloc | apply pw_below_drewN | apply below_drew1 | refine below_set ?_ GE107.out) | exact HB.out)) hb); clear BK107; clear HB; have BK107 := n0_; have HB := n1_; clear n0_ n1_; (try clear hb); (try clear hb2); (try clear hk); (try clear hi)))
              have pi112 : (0 ≤ (a0_0 : Int)) = True := eq_true (of_decide_eq_true (by first | (with_reducible assumption) | assumption))
              have qi112 : (a0_0 < (y109.length : Int)) = True := eq_true (of_decide_eq_true (by first | (with_reducible assumption) | assumption))
              have pi116 : (0 ≤ ((ji6) : Int)) = True := eq_true (of_decide_eq_true (by first | (with_reducible assumption) | assumption))
              have qi116 : ((ji6) < (y113.length : Int)) = True := eq_true (of_decide_eq_true (by first | (with_reducible assumption) | assumption))
              have n0_ := Aside0.mk (blk_drew BK107.out)
              have n1_ := Aside0.mk (below_drew1 HB.out)
              clear BK107
              clear HB
              have BK107 := n0_
              have HB := n1_
              clear n0_ n1_
              refine start_ (n := 13) (S := fun w' => True) (ds := []) #[false, false, false, false, false, false, false, false, false, false, false, false, false] (by kernel_rfl) rfl rfl trivial (fun hHeld => ?_); refine with_tabW spec_ChordText.tab3 spec_ChordText.bits3 (fun HT_ HW_ => ?_)
              generalize w12.drew = w13 at BK107 HB hHeld ⊢
              refine pure_ (i := 1) (N := some 7) (v := ?_) (a' := ?_) #[false, true, false, false, false, false, false, false, false, false, false, false, false] rfl rfl (any_of HT_.out (by kernel_rfl)) (fun _ _ _ h => h) (Or.inl ⟨by rfl, ?_⟩) ?_ ?_
              rotate_left
              · intro w'
                go_simp
                with_reducible rfl
              rotate_left
              · simp only [Act.put, List.setIfInBounds_toArray, List.set_cons_zero, List.set_cons_succ, i64_w, i32_w]
                rfl
              refine pure_ (i := 6) (N := some 12) (v := ?_) (a' := ?_) #[false, true, false, false, false, false, true, false, false, false, false, false, false] rfl rfl (any_of HT_.out (by kernel_rfl)) (fun _ _ _ h => h) (Or.inl ⟨by rfl, ?_⟩) ?_ ?_
              rotate_left
              · intro w'
                go_simp
                with_reducible rfl
              rotate_left
              · simp only [Act.put, List.setIfInBounds_toArray, List.set_cons_zero, List.set_cons_succ, i64_w, i32_w]
                rfl
              refine inv_at [0, 2, 3, 4, 5, 7, 8, 9, 10, 11, 12] (fun a0_ b a w' => ∃ (v110 : Value) (adz_v110 : Addr) (v114 : Value) (adz_v114 : Addr) (m3_ : Value) (m9_ : Value), a = putSel a0_ b [(0, 6, v110), (2, 8, .int .i64 a0_0), (3, 9, m3_), (4, 10, .string (rdOf ByteArray.empty y109 a0_0)), (5, 11, v114), (7, 13, .int .i64 a0_1), (8, 14, .int .i64 ji6), (9, 15, m9_), (10, 16, .string (rdOf ByteArray.empty y113 (ji6))), (11, 17, .string ((rdOf ByteArray.empty y109 a0_0) ++ (rdOf ByteArray.empty y113 (ji6)))), (12, 2, .string ((rdOf ByteArray.empty y109 a0_0) ++ (rdOf ByteArray.empty y113 (ji6))))] ∧ (w'.heap[gb107]? = some (.cells #[.int .i64 a0_0, .int .i64 a0_1] 25 (0, 0))) ∧ (Below w.heap.size w w') ∧ (b 0 = true → Kd.R Kd.string 9 w' w.heap.size (fun _ => True) v110 y109) ∧ (b 0 = true → ∃ c_, (v110 : Value) = .slice (some adz_v110) y109.length c_) ∧ (b 5 = true → Kd.R Kd.string 9 w' w.heap.size (fun _ => True) v114 y113) ∧ (b 5 = true → ∃ c_, (v114 : Value) = .slice (some adz_v114) y113.length c_) ∧ (b 3 = true → (m3_ : Value) = .pointer (some (adz_v110.add (a0_0).toNat))) ∧ (b 9 = true → (m9_ : Value) = .pointer (some (adz_v114.add ((ji6)).toNat)))) HT_.out HW_.out (by kernel_rfl) (by kernel_rfl) ?_ ?_ ?_
              · exact ⟨.bool false, ⟨0, 0, none⟩, .bool false, ⟨0, 0, none⟩, .bool false, .bool false, by simp only [putSel, Bool.false_eq_true, if_false], BK107.out, HB.out, fun h_ => absurd h_ (by decide), fun h_ => absurd h_ (by decide), fun h_ => absurd h_ (by decide), fun h_ => absurd h_ (by decide), fun h_ => absurd h_ (by decide), fun h_ => absurd h_ (by decide)⟩
              · skip
                clear BK107 HB
                refine steps_cons ?_ ?_
                · rintro b a w' ⟨v110, adz_v110, v114, adz_v114, m3_, m9_, ha, Q_BK107, Q_HB, Q_HO111, Q_HA_HO111, Q_HO115, Q_HA_HO115, Q_X3_, Q_X9_⟩ hb_ hon hoff
                  refine ⟨_, rfl, fun K hK => ?_⟩
                  replace ha := Aside0.mk ha
                  have BK107 := Aside0.mk Q_BK107
                  have HB := Aside0.mk Q_HB
                  refine Kd.R_lit_step Kd.string _ 9 ?hg (N := 6) ?hd (xs := ([(⟨#[99]⟩ : ByteArray), (⟨#[99, 35]⟩ : ByteArray), (⟨#[100]⟩ : ByteArray), (⟨#[100, 35]⟩ : ByteArray), (⟨#[101]⟩ : ByteArray), (⟨#[102]⟩ : ByteArray), (⟨#[102, 35]⟩ : ByteArray), (⟨#[103]⟩ : ByteArray), (⟨#[103, 35]⟩ : ByteArray), (⟨#[97]⟩ : ByteArray), (⟨#[97, 35]⟩ : ByteArray), (⟨#[98]⟩ : ByteArray)] : List ByteArray)) (inner := [.string (⟨#[99]⟩ : ByteArray), .string (⟨#[99, 35]⟩ : ByteArray), .string (⟨#[100]⟩ : ByteArray), .string (⟨#[100, 35]⟩ : ByteArray), .string (⟨#[101]⟩ : ByteArray), .string (⟨#[102]⟩ : ByteArray), .string (⟨#[102, 35]⟩ : ByteArray), .string (⟨#[103]⟩ : ByteArray), .string (⟨#[103, 35]⟩ : ByteArray), .string (⟨#[97]⟩ : ByteArray), .string (⟨#[97, 35]⟩ : ByteArray), .string (⟨#[98]⟩ : ByteArray)]) (ok := fun _ => True) (okp := fun _ => True) ?hr ?hp (fun _ hk => hk) trivial (Below.refl _ _) (Nat.le_refl _) (by simp) ?_; (case hd => rfl); (case hg => rfl); (case hr => first | (go_simp; done) | (go_simp; rfl)); (case hp => exact (Reps.one (show Kd.M Kd.string _ _ _ (⟨#[99]⟩ : ByteArray) [.string (⟨#[99]⟩ : ByteArray)] from rfl) (Reps.one (show Kd.M Kd.string _ _ _ (⟨#[99, 35]⟩ : ByteArray) [.string (⟨#[99, 35]⟩ : ByteArray)] from rfl) (Reps.one (show Kd.M Kd.string _ _ _ (⟨#[100]⟩ : ByteArray) [.string (⟨#[100]⟩ : ByteArray)] from rfl) (Reps.one (show Kd.M Kd.string _ _ _ (⟨#[100, 35]⟩ : ByteArray) [.string (⟨#[100, 35]⟩ : ByteArray)] from rfl) (Reps.one (show Kd.M Kd.string _ _ _ (⟨#[101]⟩ : ByteArray) [.string (⟨#[101]⟩ : ByteArray)] from rfl) (Reps.one (show Kd.M Kd.string _ _ _ (⟨#[102]⟩ : ByteArray) [.string (⟨#[102]⟩ : ByteArray)] from rfl) (Reps.one (show Kd.M Kd.string _ _ _ (⟨#[102, 35]⟩ : ByteArray) [.string (⟨#[102, 35]⟩ : ByteArray)] from rfl) (Reps.one (show Kd.M Kd.string _ _ _ (⟨#[103]⟩ : ByteArray) [.string (⟨#[103]⟩ : ByteArray)] from rfl) (Reps.one (show Kd.M Kd.string _ _ _ (⟨#[103, 35]⟩ : ByteArray) [.string (⟨#[103, 35]⟩ : ByteArray)] from rfl) (Reps.one (show Kd.M Kd.string _ _ _ (⟨#[97]⟩ : ByteArray) [.string (⟨#[97]⟩ : ByteArray)] from rfl) (Reps.one (show Kd.M Kd.string _ _ _ (⟨#[97, 35]⟩ : ByteArray) [.string (⟨#[97, 35]⟩ : ByteArray)] from rfl) (Reps.one (show Kd.M Kd.string _ _ _ (⟨#[98]⟩ : ByteArray) [.string (⟨#[98]⟩ : ByteArray)] from rfl) (Reps.none _ _))))))))))))))
                  intro v110 w14 ho15 hb hg_ hnew_
                  clear hg_ hnew_
                  (first | rw [← Ny109.out] at ho15 | (simp only [Int.reduceToNat] at ho15; rw [← Ny109.out] at ho15))
                  have n0_ := Aside0.mk (Kd.R_lower ho15 (below_size (by repeat (first | (with_reducible first | exact HB.out | apply below_alloc | apply pw_below_drewN | apply below_drew1 | refine below_set ?_ GE107.out) | exact HB.out))))
                  have n1_ := Aside0.mk (blk_below (g := gb107) (o := .cells #[.int .i64 a0_0, .int .i64 a0_1] 25 (0, 0)) (by (with_reducible repeat (first | refine blk_drewN ?_ _ | refine blk_drew ?_ | refine blk_alloc ?_ _)); exact BK107.out) hb)
                  have n2_ := Aside0.mk (below_step (by repeat (first | (with_reducible first | exact HB.out | apply below_alloc | apply pw_below_drewN | apply below_drew1 | refine below_set ?_ GE107.out) | exact HB.out)) hb)
                  have z_HO115 := fun (h0_ : b 5 = true) => (show Kd.R Kd.string 9 w14 w.heap.size (fun _ => True) v114 y113 from by first | exact (Kd.R_elder' (by (with_reducible repeat (first | apply Kd.R_alloc | apply Kd.R_drewN | apply Kd.R_drew)); exact (Q_HO115 h0_)) (Kd.R_base ho15) hb) | exact Kd.R_mono (Kd.R_elder' (by (with_reducible repeat (first | apply Kd.R_alloc | apply Kd.R_drewN | apply Kd.R_drew)); exact (Q_HO115 h0_)) (Kd.R_base ho15) hb) (fun _ h_ => by first | trivial | exact h_ | exact h_.1))
                  clear BK107
                  clear HB
                  have HO111 := n0_
                  have BK107 := n1_
                  have HB := n2_
                  clear n0_ n1_ n2_
                  clear hb ho15
                  obtain ⟨Ao16, co16, eo16⟩ := Kd.R_slice HO111.out
                  subst eo16
                  obtain ⟨ado16, fo16, _⟩ := Kd.at_string (Kd.R_reads' HO111.out).2.2 0 (by decide) (by rw [Ny109.out]; simp)
                  cases fo16
                  refine hK.out _ _ ⟨.slice (some ado16) y109.length co16, ado16, v114, adz_v114, m3_, m9_, (by rw [ha.out]; exact putSel_upk 0 hb_ rfl rfl rfl), (by (with_reducible repeat (first | refine blk_drewN ?_ _ | refine blk_drew ?_ | refine blk_alloc ?_ _)); exact BK107.out), (by repeat (first | (with_reducible first | exact HB.out | apply below_alloc | apply pw_below_drewN | apply below_drew1 | refine below_set ?_ GE107.out) | exact HB.out)), fun _ => (by (with_reducible repeat (first | apply Kd.R_alloc | apply Kd.R_drewN | apply Kd.R_drew)); exact HO111.out), fun _ => ⟨_, rfl⟩, z_HO115, Q_HA_HO115, fun h0_ => absurd ((hoff 3 (by kernel_rfl)).symm.trans h0_) (by decide), Q_X9_⟩
                refine steps_cons ?_ ?_
                · rintro b a w' ⟨v110, adz_v110, v114, adz_v114, m3_, m9_, ha, Q_BK107, Q_HB, Q_HO111, Q_HA_HO111, Q_HO115, Q_HA_HO115, Q_X3_, Q_X9_⟩ hb_ hon hoff
                  refine ⟨_, rfl, fun K hK => ?_⟩
                  have e7 : a.tmps[7]? = some (.pointer (some ⟨gb107, 0, none⟩)) := by rw [ha]; exact (putSel_off rfl).trans rfl
                  replace ha := Aside0.mk ha
                  have BK107 := Aside0.mk Q_BK107
                  have HB := Aside0.mk Q_HB
                  have hc0_ : w'.cell? ⟨gb107, 0, none⟩ = some (.int .i64 a0_0) := (blk_cell BK107.out 0).trans rfl
                  have hc1_ : w'.cell? ⟨gb107, 1, none⟩ = some (.int .i64 a0_1) := (blk_cell BK107.out 1).trans rfl
                  refine value_ (w1 := w') (v := .int .i64 a0_0) (by rfl) rfl ?_ ?_
                  · go_simp
                    (try simp only [i64_w])
                    try rfl
                  refine hK.out _ _ ⟨v110, adz_v110, v114, adz_v114, m3_, m9_, (by rw [ha.out]; exact putSel_upk 1 hb_ rfl rfl rfl), Q_BK107, Q_HB, Q_HO111, Q_HA_HO111, Q_HO115, Q_HA_HO115, fun h0_ => absurd ((hoff 3 (by kernel_rfl)).symm.trans h0_) (by decide), Q_X9_⟩
                refine steps_cons ?_ ?_
                · rintro b a w' ⟨v110, adz_v110, v114, adz_v114, m3_, m9_, ha, Q_BK107, Q_HB, Q_HO111, Q_HA_HO111, Q_HO115, Q_HA_HO115, Q_X3_, Q_X9_⟩ hb_ hon hoff
                  refine ⟨_, rfl, fun K hK => ?_⟩
                  have e6 : a.tmps[6]? = some (v110) := by rw [ha]; exact putSel_on (e := (0, 6, v110)) 0 rfl rfl (hon 0 (by kernel_rfl)) rfl
                  have e8 : a.tmps[8]? = some (.int .i64 a0_0) := by rw [ha]; exact putSel_on (e := (2, 8, .int .i64 a0_0)) 1 rfl rfl (hon 2 (by kernel_rfl)) rfl
                  replace ha := Aside0.mk ha
                  have BK107 := Aside0.mk Q_BK107
                  have HB := Aside0.mk Q_HB
                  have HO111 := Aside0.mk (Q_HO111 (hon 0 (by kernel_rfl)))
                  have HA_HO111 := Aside0.mk (Q_HA_HO111 (hon 0 (by kernel_rfl)))
                  obtain ⟨c_, hv_⟩ := HA_HO111.out
                  rw [hv_] at e6
                  refine value_ (w1 := w') (v := .pointer (some (adz_v110.add (a0_0).toNat))) (by rfl) rfl ?_ ?_
                  · go_simp
                    (try simp only [i64_w])
                    try rfl
                  refine hK.out _ _ ⟨v110, adz_v110, v114, adz_v114, (.pointer (some (adz_v110.add (a0_0).toNat))), m9_, (by rw [ha.out]; exact putSel_upk 2 hb_ rfl rfl rfl), Q_BK107, Q_HB, Q_HO111, Q_HA_HO111, Q_HO115, Q_HA_HO115, fun _ => rfl, Q_X9_⟩
                refine steps_cons ?_ ?_
                · rintro b a w' ⟨v110, adz_v110, v114, adz_v114, m3_, m9_, ha, Q_BK107, Q_HB, Q_HO111, Q_HA_HO111, Q_HO115, Q_HA_HO115, Q_X3_, Q_X9_⟩ hb_ hon hoff
                  refine ⟨_, rfl, fun K hK => ?_⟩
                  have e9 : a.tmps[9]? = some (m3_) := by rw [ha]; exact putSel_on (e := (3, 9, m3_)) 2 rfl rfl (hon 3 (by kernel_rfl)) rfl
                  rw [Q_X3_ (hon 3 (by kernel_rfl))] at e9
                  replace ha := Aside0.mk ha
                  have BK107 := Aside0.mk Q_BK107
                  have HB := Aside0.mk Q_HB
                  have HO111 := Aside0.mk (Q_HO111 (hon 0 (by kernel_rfl)))
                  have HA_HO111 := Aside0.mk (Q_HA_HO111 (hon 0 (by kernel_rfl)))
                  obtain ⟨c_, hv_⟩ := HA_HO111.out
                  have hF_ := HO111.out
                  rw [hv_] at hF_
                  obtain ⟨ad_, ea_, hx_⟩ := Kd.at_string (Kd.R_reads' hF_).2.2 a0_0 (of_eq_true pi112) (of_eq_true qi112)
                  cases ea_
                  refine value_ (w1 := w') (v := .string (rdOf ByteArray.empty y109 a0_0)) (by rfl) rfl ?_ ?_
                  · go_simp
                    (try simp only [i64_w])
                    try rfl
                  refine hK.out _ _ ⟨v110, adz_v110, v114, adz_v114, m3_, m9_, (by rw [ha.out]; exact putSel_upk 3 hb_ rfl rfl rfl), Q_BK107, Q_HB, Q_HO111, Q_HA_HO111, Q_HO115, Q_HA_HO115, Q_X3_, Q_X9_⟩
                refine steps_cons ?_ ?_
                · rintro b a w' ⟨v110, adz_v110, v114, adz_v114, m3_, m9_, ha, Q_BK107, Q_HB, Q_HO111, Q_HA_HO111, Q_HO115, Q_HA_HO115, Q_X3_, Q_X9_⟩ hb_ hon hoff
                  refine ⟨_, rfl, fun K hK => ?_⟩
                  replace ha := Aside0.mk ha
                  have BK107 := Aside0.mk Q_BK107
                  have HB := Aside0.mk Q_HB
                  refine Kd.R_lit_step Kd.string _ 9 ?hg (N := 11) ?hd (xs := ([(⟨#[]⟩ : ByteArray), (⟨#[109]⟩ : ByteArray), (⟨#[111]⟩ : ByteArray), (⟨#[43]⟩ : ByteArray), (⟨#[55]⟩ : ByteArray)] : List ByteArray)) (inner := [.string (⟨#[]⟩ : ByteArray), .string (⟨#[109]⟩ : ByteArray), .string (⟨#[111]⟩ : ByteArray), .string (⟨#[43]⟩ : ByteArray), .string (⟨#[55]⟩ : ByteArray)]) (ok := fun _ => True) (okp := fun _ => True) ?hr ?hp (fun _ hk => hk) trivial (Below.refl _ _) (Nat.le_refl _) (by simp) ?_; (case hd => rfl); (case hg => rfl); (case hr => first | (go_simp; done) | (go_simp; rfl)); (case hp => exact (Reps.one (show Kd.M Kd.string _ _ _ (⟨#[]⟩ : ByteArray) [.string (⟨#[]⟩ : ByteArray)] from rfl) (Reps.one (show Kd.M Kd.string _ _ _ (⟨#[109]⟩ : ByteArray) [.string (⟨#[109]⟩ : ByteArray)] from rfl) (Reps.one (show Kd.M Kd.string _ _ _ (⟨#[111]⟩ : ByteArray) [.string (⟨#[111]⟩ : ByteArray)] from rfl) (Reps.one (show Kd.M Kd.string _ _ _ (⟨#[43]⟩ : ByteArray) [.string (⟨#[43]⟩ : ByteArray)] from rfl) (Reps.one (show Kd.M Kd.string _ _ _ (⟨#[55]⟩ : ByteArray) [.string (⟨#[55]⟩ : ByteArray)] from rfl) (Reps.none _ _)))))))
                  intro v114 w14 ho15 hb hg_ hnew_
                  clear hg_ hnew_
                  (first | rw [← Ny113.out] at ho15 | (simp only [Int.reduceToNat] at ho15; rw [← Ny113.out] at ho15))
                  have n0_ := Aside0.mk (Kd.R_lower ho15 (below_size (by repeat (first | (with_reducible first | exact HB.out | apply below_alloc | apply pw_below_drewN | apply below_drew1 | refine below_set ?_ GE107.out) | exact HB.out))))
                  have n1_ := Aside0.mk (blk_below (g := gb107) (o := .cells #[.int .i64 a0_0, .int .i64 a0_1] 25 (0, 0)) (by (with_reducible repeat (first | refine blk_drewN ?_ _ | refine blk_drew ?_ | refine blk_alloc ?_ _)); exact BK107.out) hb)
                  have n2_ := Aside0.mk (below_step (by repeat (first | (with_reducible first | exact HB.out | apply below_alloc | apply pw_below_drewN | apply below_drew1 | refine below_set ?_ GE107.out) | exact HB.out)) hb)
                  have z_HO111 := fun (h0_ : b 0 = true) => (show Kd.R Kd.string 9 w14 w.heap.size (fun _ => True) v110 y109 from by first | exact (Kd.R_elder' (by (with_reducible repeat (first | apply Kd.R_alloc | apply Kd.R_drewN | apply Kd.R_drew)); exact (Q_HO111 h0_)) (Kd.R_base ho15) hb) | exact Kd.R_mono (Kd.R_elder' (by (with_reducible repeat (first | apply Kd.R_alloc | apply Kd.R_drewN | apply Kd.R_drew)); exact (Q_HO111 h0_)) (Kd.R_base ho15) hb) (fun _ h_ => by first | trivial | exact h_ | exact h_.1))
                  clear BK107
                  clear HB
                  have HO115 := n0_
                  have BK107 := n1_
                  have HB := n2_
                  clear n0_ n1_ n2_
                  clear hb ho15
                  obtain ⟨Ao16, co16, eo16⟩ := Kd.R_slice HO115.out
                  subst eo16
                  obtain ⟨ado16, fo16, _⟩ := Kd.at_string (Kd.R_reads' HO115.out).2.2 0 (by decide) (by rw [Ny113.out]; simp)
                  cases fo16
                  refine hK.out _ _ ⟨v110, adz_v110, .slice (some ado16) y113.length co16, ado16, m3_, m9_, (by rw [ha.out]; exact putSel_upk 4 hb_ rfl rfl rfl), (by (with_reducible repeat (first | refine blk_drewN ?_ _ | refine blk_drew ?_ | refine blk_alloc ?_ _)); exact BK107.out), (by repeat (first | (with_reducible first | exact HB.out | apply below_alloc | apply pw_below_drewN | apply below_drew1 | refine below_set ?_ GE107.out) | exact HB.out)), z_HO111, Q_HA_HO111, fun _ => (by (with_reducible repeat (first | apply Kd.R_alloc | apply Kd.R_drewN | apply Kd.R_drew)); exact HO115.out), fun _ => ⟨_, rfl⟩, Q_X3_, fun h0_ => absurd ((hoff 9 (by kernel_rfl)).symm.trans h0_) (by decide)⟩
                refine steps_cons ?_ ?_
                · rintro b a w' ⟨v110, adz_v110, v114, adz_v114, m3_, m9_, ha, Q_BK107, Q_HB, Q_HO111, Q_HA_HO111, Q_HO115, Q_HA_HO115, Q_X3_, Q_X9_⟩ hb_ hon hoff
                  refine ⟨_, rfl, fun K hK => ?_⟩
                  have e12 : a.tmps[12]? = some (.pointer (some ⟨gb107, 1, none⟩)) := by rw [ha]; exact (putSel_off rfl).trans rfl
                  replace ha := Aside0.mk ha
                  have BK107 := Aside0.mk Q_BK107
                  have HB := Aside0.mk Q_HB
                  have hc0_ : w'.cell? ⟨gb107, 0, none⟩ = some (.int .i64 a0_0) := (blk_cell BK107.out 0).trans rfl
                  have hc1_ : w'.cell? ⟨gb107, 1, none⟩ = some (.int .i64 a0_1) := (blk_cell BK107.out 1).trans rfl
                  refine value_ (w1 := w') (v := .int .i64 a0_1) (by rfl) rfl ?_ ?_
                  · go_simp
                    (try simp only [i64_w])
                    try rfl
                  refine hK.out _ _ ⟨v110, adz_v110, v114, adz_v114, m3_, m9_, (by rw [ha.out]; exact putSel_upk 5 hb_ rfl rfl rfl), Q_BK107, Q_HB, Q_HO111, Q_HA_HO111, Q_HO115, Q_HA_HO115, Q_X3_, fun h0_ => absurd ((hoff 9 (by kernel_rfl)).symm.trans h0_) (by decide)⟩
                refine steps_cons ?_ ?_
                · rintro b a w' ⟨v110, adz_v110, v114, adz_v114, m3_, m9_, ha, Q_BK107, Q_HB, Q_HO111, Q_HA_HO111, Q_HO115, Q_HA_HO115, Q_X3_, Q_X9_⟩ hb_ hon hoff
                  refine ⟨_, rfl, fun K hK => ?_⟩
                  have e13 : a.tmps[13]? = some (.int .i64 a0_1) := by rw [ha]; exact putSel_on (e := (7, 13, .int .i64 a0_1)) 5 rfl rfl (hon 7 (by kernel_rfl)) rfl
                  replace ha := Aside0.mk ha
                  have BK107 := Aside0.mk Q_BK107
                  have HB := Aside0.mk Q_HB
                  refine value_ (w1 := w') (v := .int .i64 ji6) (by rfl) rfl ?_ ?_
                  · go_simp
                    (try simp only [i64_w])
                    try rfl
                  refine hK.out _ _ ⟨v110, adz_v110, v114, adz_v114, m3_, m9_, (by rw [ha.out]; exact putSel_upk 6 hb_ rfl rfl rfl), Q_BK107, Q_HB, Q_HO111, Q_HA_HO111, Q_HO115, Q_HA_HO115, Q_X3_, fun h0_ => absurd ((hoff 9 (by kernel_rfl)).symm.trans h0_) (by decide)⟩
                refine steps_cons ?_ ?_
                · rintro b a w' ⟨v110, adz_v110, v114, adz_v114, m3_, m9_, ha, Q_BK107, Q_HB, Q_HO111, Q_HA_HO111, Q_HO115, Q_HA_HO115, Q_X3_, Q_X9_⟩ hb_ hon hoff
                  refine ⟨_, rfl, fun K hK => ?_⟩
                  have e11 : a.tmps[11]? = some (v114) := by rw [ha]; exact putSel_on (e := (5, 11, v114)) 4 rfl rfl (hon 5 (by kernel_rfl)) rfl
                  have e14 : a.tmps[14]? = some (.int .i64 ji6) := by rw [ha]; exact putSel_on (e := (8, 14, .int .i64 ji6)) 6 rfl rfl (hon 8 (by kernel_rfl)) rfl
                  replace ha := Aside0.mk ha
                  have BK107 := Aside0.mk Q_BK107
                  have HB := Aside0.mk Q_HB
                  have HO115 := Aside0.mk (Q_HO115 (hon 5 (by kernel_rfl)))
                  have HA_HO115 := Aside0.mk (Q_HA_HO115 (hon 5 (by kernel_rfl)))
                  obtain ⟨c_, hv_⟩ := HA_HO115.out
                  rw [hv_] at e11
                  refine value_ (w1 := w') (v := .pointer (some (adz_v114.add ((ji6)).toNat))) (by rfl) rfl ?_ ?_
                  · go_simp
                    (try simp only [i64_w])
                    try rfl
                  refine hK.out _ _ ⟨v110, adz_v110, v114, adz_v114, m3_, (.pointer (some (adz_v114.add ((ji6)).toNat))), (by rw [ha.out]; exact putSel_upk 7 hb_ rfl rfl rfl), Q_BK107, Q_HB, Q_HO111, Q_HA_HO111, Q_HO115, Q_HA_HO115, Q_X3_, fun _ => rfl⟩
                refine steps_cons ?_ ?_
                · rintro b a w' ⟨v110, adz_v110, v114, adz_v114, m3_, m9_, ha, Q_BK107, Q_HB, Q_HO111, Q_HA_HO111, Q_HO115, Q_HA_HO115, Q_X3_, Q_X9_⟩ hb_ hon hoff
                  refine ⟨_, rfl, fun K hK => ?_⟩
                  have e15 : a.tmps[15]? = some (m9_) := by rw [ha]; exact putSel_on (e := (9, 15, m9_)) 7 rfl rfl (hon 9 (by kernel_rfl)) rfl
                  rw [Q_X9_ (hon 9 (by kernel_rfl))] at e15
                  replace ha := Aside0.mk ha
                  have BK107 := Aside0.mk Q_BK107
                  have HB := Aside0.mk Q_HB
                  have HO115 := Aside0.mk (Q_HO115 (hon 5 (by kernel_rfl)))
                  have HA_HO115 := Aside0.mk (Q_HA_HO115 (hon 5 (by kernel_rfl)))
                  obtain ⟨c_, hv_⟩ := HA_HO115.out
                  have hF_ := HO115.out
                  rw [hv_] at hF_
                  obtain ⟨ad_, ea_, hx_⟩ := Kd.at_string (Kd.R_reads' hF_).2.2 (ji6) (of_eq_true pi116) (of_eq_true qi116)
                  cases ea_
                  refine value_ (w1 := w') (v := .string (rdOf ByteArray.empty y113 (ji6))) (by rfl) rfl ?_ ?_
                  · go_simp
                    (try simp only [i64_w])
                    try rfl
                  refine hK.out _ _ ⟨v110, adz_v110, v114, adz_v114, m3_, m9_, (by rw [ha.out]; exact putSel_upk 8 hb_ rfl rfl rfl), Q_BK107, Q_HB, Q_HO111, Q_HA_HO111, Q_HO115, Q_HA_HO115, Q_X3_, Q_X9_⟩
                refine steps_cons ?_ ?_
                · rintro b a w' ⟨v110, adz_v110, v114, adz_v114, m3_, m9_, ha, Q_BK107, Q_HB, Q_HO111, Q_HA_HO111, Q_HO115, Q_HA_HO115, Q_X3_, Q_X9_⟩ hb_ hon hoff
                  refine ⟨_, rfl, fun K hK => ?_⟩
                  have e10 : a.tmps[10]? = some (.string (rdOf ByteArray.empty y109 a0_0)) := by rw [ha]; exact putSel_on (e := (4, 10, .string (rdOf ByteArray.empty y109 a0_0))) 3 rfl rfl (hon 4 (by kernel_rfl)) rfl
                  have e16 : a.tmps[16]? = some (.string (rdOf ByteArray.empty y113 (ji6))) := by rw [ha]; exact putSel_on (e := (10, 16, .string (rdOf ByteArray.empty y113 (ji6)))) 8 rfl rfl (hon 10 (by kernel_rfl)) rfl
                  replace ha := Aside0.mk ha
                  have BK107 := Aside0.mk Q_BK107
                  have HB := Aside0.mk Q_HB
                  have HO111 := Aside0.mk (Q_HO111 (hon 0 (by kernel_rfl)))
                  have HA_HO111 := Aside0.mk (Q_HA_HO111 (hon 0 (by kernel_rfl)))
                  have HO115 := Aside0.mk (Q_HO115 (hon 5 (by kernel_rfl)))
                  have HA_HO115 := Aside0.mk (Q_HA_HO115 (hon 5 (by kernel_rfl)))
                  refine value_ (w1 := w') (v := .string ((rdOf ByteArray.empty y109 a0_0) ++ (rdOf ByteArray.empty y113 (ji6)))) (by rfl) rfl ?_ ?_
                  · go_simp
                    (try simp only [i64_w])
                    try rfl
                  refine hK.out _ _ ⟨v110, adz_v110, v114, adz_v114, m3_, m9_, (by rw [ha.out]; exact putSel_upk 9 hb_ rfl rfl rfl), Q_BK107, Q_HB, Q_HO111, Q_HA_HO111, Q_HO115, Q_HA_HO115, Q_X3_, Q_X9_⟩
                refine steps_cons ?_ ?_
                · rintro b a w' ⟨v110, adz_v110, v114, adz_v114, m3_, m9_, ha, Q_BK107, Q_HB, Q_HO111, Q_HA_HO111, Q_HO115, Q_HA_HO115, Q_X3_, Q_X9_⟩ hb_ hon hoff
                  refine ⟨_, rfl, fun K hK => ?_⟩
                  have e17 : a.tmps[17]? = some (.string ((rdOf ByteArray.empty y109 a0_0) ++ (rdOf ByteArray.empty y113 (ji6)))) := by rw [ha]; exact putSel_on (e := (11, 17, .string ((rdOf ByteArray.empty y109 a0_0) ++ (rdOf ByteArray.empty y113 (ji6))))) 9 rfl rfl (hon 11 (by kernel_rfl)) rfl
                  replace ha := Aside0.mk ha
                  have BK107 := Aside0.mk Q_BK107
                  have HB := Aside0.mk Q_HB
                  have HO111 := Aside0.mk (Q_HO111 (hon 0 (by kernel_rfl)))
                  have HA_HO111 := Aside0.mk (Q_HA_HO111 (hon 0 (by kernel_rfl)))
                  have HO115 := Aside0.mk (Q_HO115 (hon 5 (by kernel_rfl)))
                  have HA_HO115 := Aside0.mk (Q_HA_HO115 (hon 5 (by kernel_rfl)))
                  refine value_ (w1 := w') (v := .string ((rdOf ByteArray.empty y109 a0_0) ++ (rdOf ByteArray.empty y113 (ji6)))) (by rfl) rfl ?_ ?_
                  · go_simp
                    (try simp only [i64_w])
                    try rfl
                  refine hK.out _ _ ⟨v110, adz_v110, v114, adz_v114, m3_, m9_, (by rw [ha.out]; exact putSel_upk 10 hb_ rfl rfl rfl), Q_BK107, Q_HB, Q_HO111, Q_HA_HO111, Q_HO115, Q_HA_HO115, Q_X3_, Q_X9_⟩
                exact steps_nil
              rintro b a w20 hall ⟨v110, adz_v110, v114, adz_v114, m3_, m9_, ha, Q_BK107, Q_HB, Q_HO111, Q_HA_HO111, Q_HO115, Q_HA_HO115, Q_X3_, Q_X9_⟩
              clear BK107 HB
              have hb0_ := hall 0 (by kernel_rfl)
              have hb2_ := hall 2 (by kernel_rfl)
              have hb3_ := hall 3 (by kernel_rfl)
              have hb4_ := hall 4 (by kernel_rfl)
              have hb5_ := hall 5 (by kernel_rfl)
              have hb7_ := hall 7 (by kernel_rfl)
              have hb8_ := hall 8 (by kernel_rfl)
              have hb9_ := hall 9 (by kernel_rfl)
              have hb10_ := hall 10 (by kernel_rfl)
              have hb11_ := hall 11 (by kernel_rfl)
              have hb12_ := hall 12 (by kernel_rfl)
              subst ha
              obtain rfl := Q_X3_ hb3_
              obtain rfl := Q_X9_ hb9_
              simp only [putSel, hb0_, hb2_, hb3_, hb4_, hb5_, hb7_, hb8_, hb9_, hb10_, hb11_, hb12_, if_true, Act.put, List.setIfInBounds_toArray, List.set_cons_zero, List.set_cons_succ]
              have BK107 := Aside0.mk Q_BK107
              clear Q_BK107
              have HB := Aside0.mk Q_HB
              clear Q_HB
              have HO111 := Aside0.mk (Q_HO111 hb0_)
              clear Q_HO111
              have HA_HO111 := Aside0.mk (Q_HA_HO111 hb0_)
              clear Q_HA_HO111
              have HO115 := Aside0.mk (Q_HO115 hb5_)
              clear Q_HO115
              have HA_HO115 := Aside0.mk (Q_HA_HO115 hb5_)
              clear Q_HA_HO115
              clear hall hb0_ hb2_ hb3_ hb4_ hb5_ hb7_ hb8_ hb9_ hb10_ hb11_ hb12_
              obtain ⟨co21, eo21⟩ := HA_HO111.out
              clear HA_HO111
              subst eo21
              obtain ⟨co22, eo22⟩ := HA_HO115.out
              clear HA_HO115
              subst eo22
              try go_wp2
              go_ret
              exact ⟨by first | rfl | (simp [errW_none, errW_some] <;> rfl) | (simp only [← hji6]; first | rfl | (simp [errW_none, errW_some] <;> rfl)) | (simp [*, errW_none, errW_some] <;> rfl), by repeat (first | (with_reducible first | exact HB.out | apply below_alloc | apply pw_below_drewN | apply below_drew1 | refine below_set ?_ GE107.out) | exact HB.out)⟩
            · rw [if_neg c9] at H
              exact absurd H (by simp)
          · rw [if_neg c8] at H
            exact absurd H (by simp)
        · rw [if_neg c7] at H
          exact absurd H (by simp)
      · rw [if_neg c5] at H
        exact absurd H (by simp)
    · rw [if_neg c4] at H
      exact absurd H (by simp)
  · replace c3 := Bool.eq_false_iff.mpr c3
    subst c3
    have H1 : (some (⟨#[]⟩ : ByteArray)) = some r := by rw [if_neg (show ¬ (false = true) by decide)] at H; exact H
    clear H
    have H := H1
    clear H1
    obtain rfl := Option.some.inj H
    go_enter Try.func16, Try.ntmps16
    go_wp2_with (first | ((with_reducible refine gate_dst (N := 1) rfl ?_); refine box_event ?hg (N := 1) ?hd (cs := #[.int .i64 a0_0, .int .i64 a0_1]) (t := 25) ?hr ?_; (case hd => rfl); (case hg => rfl); (case hr => first | (go_simp; done) | (go_simp; rfl)); intro gb107 hg w23 hbox hb; have n0_ := Aside0.mk (below_step (by repeat (first | (with_reducible first | exact HB.out | apply below_alloc | apply pw_below_drewN | apply below_drew1) | exact HB.out)) hb); have n1_ := Aside0.mk (hbox); have n2_ := Aside0.mk ((by rw [hg]; exact (below_size (by repeat (first | (with_reducible first | exact HB.out | apply below_alloc | apply pw_below_drewN | apply below_drew1) | exact HB.out))) : w.heap.size ≤ gb107)); have n3_ := Aside0.mk ((by rw [hg]; exact (below_size (by repeat (first | (with_reducible first | exact HB.out | apply below_alloc | apply pw_below_drewN | apply below_drew1) | exact HB.out))) : w.heap.size ≤ gb107)); clear HB; have HB := n0_; have BK107 := n1_; have GW107 := n2_; have GE107 := n3_; clear n0_ n1_ n2_ n3_; clear hb hbox hg; have hcz24_0 : w23.cell? ⟨gb107, 0, none⟩ = some (.int .i64 a0_0) := (blk_cell BK107.out 0).trans rfl; have hcz24_1 : w23.cell? ⟨gb107, 1, none⟩ = some (.int .i64 a0_1) := (blk_cell BK107.out 1).trans rfl; have hfz24_0 := blk_frozen BK107.out 0; have hfz24_1 := blk_frozen BK107.out 1) | ((with_reducible refine gate_callee (f := 9) rfl ?_); refine goesL_ (some 4) rfl rfl Try.func9 (by kernel_rfl) rfl #[.agg #[.int .i64 a0_0, .int .i64 a0_1]] rfl (by (try simp only [List.map_toArray, List.map_cons, List.map_nil]); first | done | rfl | (simp only [List.length_drop, List.length_take]; rfl)) ?_; (with_reducible refine (spec_IsChord.calls a0_0 a0_1 false _ A2.out).mono ?_); rintro e w25 ⟨rfl, hb⟩; refine ⟨_, rfl, ?_⟩; have n0_ := Aside0.mk (blk_below (g := gb107) (o := .cells #[.int .i64 a0_0, .int .i64 a0_1] 25 (0, 0)) (by (with_reducible repeat (first | refine blk_drewN ?_ _ | refine blk_drew ?_ | refine blk_alloc ?_ _)); exact BK107.out) hb); have n1_ := Aside0.mk (below_step (by repeat (first | (with_reducible first | exact HB.out | apply below_alloc | apply pw_below_drewN | apply below_drew1 | refine below_set ?_ GE107.out) | exact HB.out)) hb); clear BK107; clear HB; have BK107 := n0_; have HB := n1_; clear n0_ n1_; (try clear hb); (try clear hb2); (try clear hk); (try clear hi)))
    go_ret
    exact ⟨by first | rfl | (simp [errW_none, errW_some] <;> rfl) | (simp [*, errW_none, errW_some] <;> rfl), by repeat (first | (with_reducible first | exact HB.out | apply below_alloc | apply pw_below_drewN | apply below_drew1 | refine below_set ?_ GE107.out) | exact HB.out)⟩

/-! ### impl_InRange: function 29 -/
def impl_InRange.f (a0 : Int) (a1 : Int) (a2 : Int) : Option (Bool) := if a1 ≤ a0 then (some (decide (a0 ≤ a2))) else (some false)
set_option maxHeartbeats 8000000 in
set_option maxRecDepth 100000 in
theorem impl_InRange.calls (a0 : Int) (a1 : Int) (a2 : Int) (r : Bool) (w : World) (h : impl_InRange.f a0 a1 a2 = some r) :
    Calls Try.prog 29 #[.int .i64 a0, .int .i64 a1, .int .i64 a2] w fun e w' => e = .returned (.bool r) ∧ Drawn0 w w' := by
  have H : (if a1 ≤ a0 then (some (decide (a0 ≤ a2))) else (some false)) = some r := h
  clear h
  by_cases c4 : a1 ≤ a0
  · rw [if_pos c4] at H
    have c4b0 : decide (a1 ≤ a0) = true := decide_eq_true c4
    clear c4
    obtain rfl := Option.some.inj H
    go_enter Try.func29, Try.ntmps29
    go_wp2
    go_ret
    exact ⟨by first | rfl | (simp; done) | (simp [*]; done), by repeat (first | exact Drawn0.refl _ | apply Drawn0.step)⟩
  · rw [if_neg c4] at H
    have c4b0 : decide (a1 ≤ a0) = false := decide_eq_false c4
    clear c4
    obtain rfl := Option.some.inj H
    go_enter Try.func29, Try.ntmps29
    go_wp2
    go_ret
    exact ⟨by first | rfl | (simp; done) | (simp [*]; done), by repeat (first | exact Drawn0.refl _ | apply Drawn0.step)⟩

/-! ### impl_IsChord: function 11 -/
def impl_IsChord.f (a0_0 : Int) (a0_1 : Int) : Option (Bool) := (impl_InRange.f a0_0 0 11).bind fun t118 => (if t118 = true then ((impl_InRange.f a0_1 1 5).bind fun t119 => (some t119)) else (some false))
set_option maxHeartbeats 8000000 in
set_option maxRecDepth 100000 in
theorem impl_IsChord.calls (a0_0 : Int) (a0_1 : Int) (r : Bool) (w : World) (h : impl_IsChord.f a0_0 a0_1 = some r) :
    Calls Try.prog 11 #[.agg #[.int .i64 a0_0, .int .i64 a0_1]] w fun e w' => e = .returned (.bool r) ∧ Below w.heap.size w w' := by
  have hu25 := Try.underlying25
  have HB := Aside0.mk (Below.refl w.heap.size w)
  have H : ((impl_InRange.f a0_0 0 11).bind fun t118 => (if t118 = true then ((impl_InRange.f a0_1 1 5).bind fun t119 => (some t119)) else (some false))) = some r := h
  clear h
  replace H := Option.bind_eq_some_iff.mp H
  obtain ⟨t118, A20, H⟩ := H
  replace H : (if t118 = true then ((impl_InRange.f a0_1 1 5).bind fun t119 => (some t119)) else (some false)) = some r := H
  have A2 := Aside0.mk A20
  clear A20
  by_cases c3 : t118 = true
  · subst c3
    have H1 : ((impl_InRange.f a0_1 1 5).bind fun t119 => (some t119)) = some r := by rw [if_pos rfl] at H; exact H
    clear H
    have H := H1
    clear H1
    replace H := Option.bind_eq_some_iff.mp H
    obtain ⟨t119, A40, H⟩ := H
    replace H : (some t119) = some r := H
    have A4 := Aside0.mk A40
    clear A40
    obtain rfl := Option.some.inj H
    go_enter Try.func11, Try.ntmps11
    go_wp2_with (first | ((with_reducible refine gate_dst (N := 1) rfl ?_); refine box_event ?hg (N := 1) ?hd (cs := #[.int .i64 a0_0, .int .i64 a0_1]) (t := 25) ?hr ?_; (case hd => rfl); (case hg => rfl); (case hr => first | (go_simp; done) | (go_simp; rfl)); intro gb117 hg w5 hbox hb; have n0_ := Aside0.mk (below_step (by repeat (first | (with_reducible first | exact HB.out | apply below_alloc | apply pw_below_drewN | apply below_drew1) | exact HB.out)) hb); have n1_ := Aside0.mk (hbox); have n2_ := Aside0.mk ((by rw [hg]; exact (below_size (by repeat (first | (with_reducible first | exact HB.out | apply below_alloc | apply pw_below_drewN | apply below_drew1) | exact HB.out))) : w.heap.size ≤ gb117)); have n3_ := Aside0.mk ((by rw [hg]; exact (below_size (by repeat (first | (with_reducible first | exact HB.out | apply below_alloc | apply pw_below_drewN | apply below_drew1) | exact HB.out))) : w.heap.size ≤ gb117)); clear HB; have HB := n0_; have BK117 := n1_; have GW117 := n2_; have GE117 := n3_; clear n0_ n1_ n2_ n3_; clear hb hbox hg; have hcz6_0 : w5.cell? ⟨gb117, 0, none⟩ = some (.int .i64 a0_0) := (blk_cell BK117.out 0).trans rfl; have hcz6_1 : w5.cell? ⟨gb117, 1, none⟩ = some (.int .i64 a0_1) := (blk_cell BK117.out 1).trans rfl; have hfz6_0 := blk_frozen BK117.out 0; have hfz6_1 := blk_frozen BK117.out 1) | ((with_reducible refine gate_callee (f := 29) rfl ?_); refine goesL_ (some 5) rfl rfl Try.func29 (by kernel_rfl) rfl #[.int .i64 a0_0, .int .i64 0, .int .i64 11] rfl (by (try simp only [List.map_toArray, List.map_cons, List.map_nil]); first | done | rfl | (simp only [List.length_drop, List.length_take]; rfl)) ?_; (with_reducible refine (impl_InRange.calls a0_0 0 11 true _ A2.out).mono ?_); rintro e w' ⟨rfl, ⟨nd, rfl⟩⟩; refine ⟨_, rfl, ?_⟩) | (go_at_call 29; (with_reducible refine (impl_InRange.calls a0_1 1 5 t119 _ A4.out).mono ?_); rintro e w' ⟨rfl, ⟨nd, rfl⟩⟩))
    go_ret
    exact ⟨by first | rfl | (simp [errW_none, errW_some] <;> rfl) | (simp [*, errW_none, errW_some] <;> rfl), by repeat (first | (with_reducible first | exact HB.out | apply below_alloc | apply pw_below_drewN | apply below_drew1 | refine below_set ?_ GE117.out) | exact HB.out)⟩
  · replace c3 := Bool.eq_false_iff.mpr c3
    subst c3
    have H1 : (some false) = some r := by rw [if_neg (show ¬ (false = true) by decide)] at H; exact H
    clear H
    have H := H1
    clear H1
    obtain rfl := Option.some.inj H
    go_enter Try.func11, Try.ntmps11
    go_wp2_with (first | ((with_reducible refine gate_dst (N := 1) rfl ?_); refine box_event ?hg (N := 1) ?hd (cs := #[.int .i64 a0_0, .int .i64 a0_1]) (t := 25) ?hr ?_; (case hd => rfl); (case hg => rfl); (case hr => first | (go_simp; done) | (go_simp; rfl)); intro gb117 hg w7 hbox hb; have n0_ := Aside0.mk (below_step (by repeat (first | (with_reducible first | exact HB.out | apply below_alloc | apply pw_below_drewN | apply below_drew1) | exact HB.out)) hb); have n1_ := Aside0.mk (hbox); have n2_ := Aside0.mk ((by rw [hg]; exact (below_size (by repeat (first | (with_reducible first | exact HB.out | apply below_alloc | apply pw_below_drewN | apply below_drew1) | exact HB.out))) : w.heap.size ≤ gb117)); have n3_ := Aside0.mk ((by rw [hg]; exact (below_size (by repeat (first | (with_reducible first | exact HB.out | apply below_alloc | apply pw_below_drewN | apply below_drew1) | exact HB.out))) : w.heap.size ≤ gb117)); clear HB; have HB := n0_; have BK117 := n1_; have GW117 := n2_; have GE117 := n3_; clear n0_ n1_ n2_ n3_; clear hb hbox hg; have hcz8_0 : w7.cell? ⟨gb117, 0, none⟩ = some (.int .i64 a0_0) := (blk_cell BK117.out 0).trans rfl; have hcz8_1 : w7.cell? ⟨gb117, 1, none⟩ = some (.int .i64 a0_1) := (blk_cell BK117.out 1).trans rfl; have hfz8_0 := blk_frozen BK117.out 0; have hfz8_1 := blk_frozen BK117.out 1) | ((with_reducible refine gate_callee (f := 29) rfl ?_); refine goesL_ (some 5) rfl rfl Try.func29 (by kernel_rfl) rfl #[.int .i64 a0_0, .int .i64 0, .int .i64 11] rfl (by (try simp only [List.map_toArray, List.map_cons, List.map_nil]); first | done | rfl | (simp only [List.length_drop, List.length_take]; rfl)) ?_; (with_reducible refine (impl_InRange.calls a0_0 0 11 false _ A2.out).mono ?_); rintro e w' ⟨rfl, ⟨nd, rfl⟩⟩; refine ⟨_, rfl, ?_⟩))
    go_ret
    exact ⟨by first | rfl | (simp [errW_none, errW_some] <;> rfl) | (simp [*, errW_none, errW_some] <;> rfl), by repeat (first | (with_reducible first | exact HB.out | apply below_alloc | apply pw_below_drewN | apply below_drew1 | refine below_set ?_ GE117.out) | exact HB.out)⟩

/-! ### impl_ChordText: function 17 -/
def impl_ChordText.f (a0_0 : Int) (a0_1 : Int) : Option (ByteArray) := (impl_IsChord.f a0_0 a0_1).bind fun t121 => (if t121 = true then ((some (([(⟨#[99]⟩ : ByteArray), (⟨#[99, 35]⟩ : ByteArray), (⟨#[100]⟩ : ByteArray), (⟨#[100, 35]⟩ : ByteArray), (⟨#[101]⟩ : ByteArray), (⟨#[102]⟩ : ByteArray), (⟨#[102, 35]⟩ : ByteArray), (⟨#[103]⟩ : ByteArray), (⟨#[103, 35]⟩ : ByteArray), (⟨#[97]⟩ : ByteArray), (⟨#[97, 35]⟩ : ByteArray), (⟨#[98]⟩ : ByteArray)] : List ByteArray) : List ByteArray)).bind fun y122 => (if 0 ≤ a0_0 then (if a0_0 < (y122.length : Int) then ((some (([(⟨#[]⟩ : ByteArray), (⟨#[109]⟩ : ByteArray), (⟨#[111]⟩ : ByteArray), (⟨#[43]⟩ : ByteArray), (⟨#[55]⟩ : ByteArray)] : List ByteArray) : List ByteArray)).bind fun y126 => (if 0 ≤ (wrap64 (a0_1 - 1)) then (if (wrap64 (a0_1 - 1)) < (y126.length : Int) then (if (rdOf ByteArray.empty y122 a0_0).size + (rdOf ByteArray.empty y126 (wrap64 (a0_1 - 1))).size ≤ 9223372036854775807 then (some ((rdOf ByteArray.empty y122 a0_0) ++ (rdOf ByteArray.empty y126 (wrap64 (a0_1 - 1))))) else (none)) else (none)) else (none))) else (none)) else (none))) else (some (⟨#[]⟩ : ByteArray)))
def impl_ChordText.T3 : Bool × List (List Nat × List Nat) := (true, [([], []), ([], []), ([1], [1]), ([0, 2], [0, 2]), ([3], [3]), ([], []), ([], []), ([6], [6]), ([7], [7]), ([5, 8], [5, 8]), ([9], [9]), ([4, 10], [4, 10]), ([11, 0, 1, 2, 3, 4, 5, 6, 7, 8, 9, 10, 11], [11])])
def impl_ChordText.B3 : List Nat := [0, 0, 2, 7, 15, 0, 0, 64, 192, 480, 992, 2047, 4095]
theorem impl_ChordText.tab3 : rtab .any (opsOf Try.f17 3) = impl_ChordText.T3 := by kernel_rfl
theorem impl_ChordText.bits3 : waitsOk impl_ChordText.T3.2 impl_ChordText.B3 = true := by kernel_rfl
set_option maxHeartbeats 8000000 in
set_option maxRecDepth 100000 in
theorem impl_ChordText.calls (a0_0 : Int) (a0_1 : Int) (r : ByteArray) (w : World) (h : impl_ChordText.f a0_0 a0_1 = some r) :
    Calls Try.prog 17 #[.agg #[.int .i64 a0_0, .int .i64 a0_1]] w fun e w' => e = .returned (.string r) ∧ Below w.heap.size w w' := by
  have hu25 := Try.underlying25
  have HB := Aside0.mk (Below.refl w.heap.size w)
  have H : ((impl_IsChord.f a0_0 a0_1).bind fun t121 => (if t121 = true then ((some (([(⟨#[99]⟩ : ByteArray), (⟨#[99, 35]⟩ : ByteArray), (⟨#[100]⟩ : ByteArray), (⟨#[100, 35]⟩ : ByteArray), (⟨#[101]⟩ : ByteArray), (⟨#[102]⟩ : ByteArray), (⟨#[102, 35]⟩ : ByteArray), (⟨#[103]⟩ : ByteArray), (⟨#[103, 35]⟩ : ByteArray), (⟨#[97]⟩ : ByteArray), (⟨#[97, 35]⟩ : ByteArray), (⟨#[98]⟩ : ByteArray)] : List ByteArray) : List ByteArray)).bind fun y122 => (if 0 ≤ a0_0 then (if a0_0 < (y122.length : Int) then ((some (([(⟨#[]⟩ : ByteArray), (⟨#[109]⟩ : ByteArray), (⟨#[111]⟩ : ByteArray), (⟨#[43]⟩ : ByteArray), (⟨#[55]⟩ : ByteArray)] : List ByteArray) : List ByteArray)).bind fun y126 => (if 0 ≤ (wrap64 (a0_1 - 1)) then (if (wrap64 (a0_1 - 1)) < (y126.length : Int) then (if (rdOf ByteArray.empty y122 a0_0).size + (rdOf ByteArray.empty y126 (wrap64 (a0_1 - 1))).size ≤ 9223372036854775807 then (some ((rdOf ByteArray.empty y122 a0_0) ++ (rdOf ByteArray.empty y126 (wrap64 (a0_1 - 1))))) else (none)) else (none)) else (none))) else (none)) else (none))) else (some (⟨#[]⟩ : ByteArray)))) = some r := h
  clear h
  replace H := Option.bind_eq_some_iff.mp H
  obtain ⟨t121, A20, H⟩ := H
  replace H : (if t121 = true then ((some (([(⟨#[99]⟩ : ByteArray), (⟨#[99, 35]⟩ : ByteArray), (⟨#[100]⟩ : ByteArray), (⟨#[100, 35]⟩ : ByteArray), (⟨#[101]⟩ : ByteArray), (⟨#[102]⟩ : ByteArray), (⟨#[102, 35]⟩ : ByteArray), (⟨#[103]⟩ : ByteArray), (⟨#[103, 35]⟩ : ByteArray), (⟨#[97]⟩ : ByteArray), (⟨#[97, 35]⟩ : ByteArray), (⟨#[98]⟩ : ByteArray)] : List ByteArray) : List ByteArray)).bind fun y122 => (if 0 ≤ a0_0 then (if a0_0 < (y122.length : Int) then ((some (([(⟨#[]⟩ : ByteArray), (⟨#[109]⟩ : ByteArray), (⟨#[111]⟩ : ByteArray), (⟨#[43]⟩ : ByteArray), (⟨#[55]⟩ : ByteArray)] : List ByteArray) : List ByteArray)).bind fun y126 => (if 0 ≤ (wrap64 (a0_1 - 1)) then (if (wrap64 (a0_1 - 1)) < (y126.length : Int) then (if (rdOf ByteArray.empty y122 a0_0).size + (rdOf ByteArray.empty y126 (wrap64 (a0_1 - 1))).size ≤ 9223372036854775807 then (some ((rdOf ByteArray.empty y122 a0_0) ++ (rdOf ByteArray.empty y126 (wrap64 (a0_1 - 1))))) else (none)) else (none)) else (none))) else (none)) else (none))) else (some (⟨#[]⟩ : ByteArray))) = some r := H
  have A2 := Aside0.mk A20
  clear A20
  by_cases c3 : t121 = true
  · subst c3
    have H1 : ((some (([(⟨#[99]⟩ : ByteArray), (⟨#[99, 35]⟩ : ByteArray), (⟨#[100]⟩ : ByteArray), (⟨#[100, 35]⟩ : ByteArray), (⟨#[101]⟩ : ByteArray), (⟨#[102]⟩ : ByteArray), (⟨#[102, 35]⟩ : ByteArray), (⟨#[103]⟩ : ByteArray), (⟨#[103, 35]⟩ : ByteArray), (⟨#[97]⟩ : ByteArray), (⟨#[97, 35]⟩ : ByteArray), (⟨#[98]⟩ : ByteArray)] : List ByteArray) : List ByteArray)).bind fun y122 => (if 0 ≤ a0_0 then (if a0_0 < (y122.length : Int) then ((some (([(⟨#[]⟩ : ByteArray), (⟨#[109]⟩ : ByteArray), (⟨#[111]⟩ : ByteArray), (⟨#[43]⟩ : ByteArray), (⟨#[55]⟩ : ByteArray)] : List ByteArray) : List ByteArray)).bind fun y126 => (if 0 ≤ (wrap64 (a0_1 - 1)) then (if (wrap64 (a0_1 - 1)) < (y126.length : Int) then (if (rdOf ByteArray.empty y122 a0_0).size + (rdOf ByteArray.empty y126 (wrap64 (a0_1 - 1))).size ≤ 9223372036854775807 then (some ((rdOf ByteArray.empty y122 a0_0) ++ (rdOf ByteArray.empty y126 (wrap64 (a0_1 - 1))))) else (none)) else (none)) else (none))) else (none)) else (none))) = some r := by rw [if_pos rfl] at H; exact H
    clear H
    have H := H1
    clear H1
    obtain ⟨y122, hy122⟩ : ∃ y_ : List ByteArray, y_ = (([(⟨#[99]⟩ : ByteArray), (⟨#[99, 35]⟩ : ByteArray), (⟨#[100]⟩ : ByteArray), (⟨#[100, 35]⟩ : ByteArray), (⟨#[101]⟩ : ByteArray), (⟨#[102]⟩ : ByteArray), (⟨#[102, 35]⟩ : ByteArray), (⟨#[103]⟩ : ByteArray), (⟨#[103, 35]⟩ : ByteArray), (⟨#[97]⟩ : ByteArray), (⟨#[97, 35]⟩ : ByteArray), (⟨#[98]⟩ : ByteArray)] : List ByteArray)) := ⟨_, rfl⟩
    replace H : (if 0 ≤ a0_0 then (if a0_0 < (y122.length : Int) then ((some (([(⟨#[]⟩ : ByteArray), (⟨#[109]⟩ : ByteArray), (⟨#[111]⟩ : ByteArray), (⟨#[43]⟩ : ByteArray), (⟨#[55]⟩ : ByteArray)] : List ByteArray) : List ByteArray)).bind fun y126 => (if 0 ≤ (wrap64 (a0_1 - 1)) then (if (wrap64 (a0_1 - 1)) < (y126.length : Int) then (if (rdOf ByteArray.empty y122 a0_0).size + (rdOf ByteArray.empty y126 (wrap64 (a0_1 - 1))).size ≤ 9223372036854775807 then (some ((rdOf ByteArray.empty y122 a0_0) ++ (rdOf ByteArray.empty y126 (wrap64 (a0_1 - 1))))) else (none)) else (none)) else (none))) else (none)) else (none)) = some r := by first | (rw [hy122]; with_reducible exact H) | (have H2_ := (Option.bind_some _ _).symm.trans H; rw [hy122]; with_reducible exact H2_) | (have H2_ := (Option.bind_some _ _).symm.trans H; with_reducible exact H2_) | with_reducible exact H | (rw [hy122]; exact H) | exact H
    have Ny122 := Aside0.mk hy122
    clear hy122
    by_cases c4 : 0 ≤ a0_0
    · rw [if_pos c4] at H
      have c4b0 : decide (0 ≤ a0_0) = true := decide_eq_true c4
      clear c4
      by_cases c5 : a0_0 < (y122.length : Int)
      · rw [if_pos c5] at H
        have c5b0 : decide (a0_0 < (y122.length : Int)) = true := decide_eq_true c5
        clear c5
        obtain ⟨y126, hy126⟩ : ∃ y_ : List ByteArray, y_ = (([(⟨#[]⟩ : ByteArray), (⟨#[109]⟩ : ByteArray), (⟨#[111]⟩ : ByteArray), (⟨#[43]⟩ : ByteArray), (⟨#[55]⟩ : ByteArray)] : List ByteArray)) := ⟨_, rfl⟩
        replace H : (if 0 ≤ (wrap64 (a0_1 - 1)) then (if (wrap64 (a0_1 - 1)) < (y126.length : Int) then (if (rdOf ByteArray.empty y122 a0_0).size + (rdOf ByteArray.empty y126 (wrap64 (a0_1 - 1))).size ≤ 9223372036854775807 then (some ((rdOf ByteArray.empty y122 a0_0) ++ (rdOf ByteArray.empty y126 (wrap64 (a0_1 - 1))))) else (none)) else (none)) else (none)) = some r := by first | (rw [hy126]; with_reducible exact H) | (have H2_ := (Option.bind_some _ _).symm.trans H; rw [hy126]; with_reducible exact H2_) | (have H2_ := (Option.bind_some _ _).symm.trans H; with_reducible exact H2_) | with_reducible exact H | (rw [hy126]; exact H) | exact H
        have Ny126 := Aside0.mk hy126
        clear hy126
        obtain ⟨ji6, hji6⟩ : ∃ j_ : Int, (wrap64 (a0_1 - 1)) = j_ := ⟨_, rfl⟩
        replace H : (if 0 ≤ (ji6) then (if (ji6) < (y126.length : Int) then (if (rdOf ByteArray.empty y122 a0_0).size + (rdOf ByteArray.empty y126 (ji6)).size ≤ 9223372036854775807 then (some ((rdOf ByteArray.empty y122 a0_0) ++ (rdOf ByteArray.empty y126 (ji6)))) else (none)) else (none)) else (none)) = some r := by first | (rw [hji6] at H; exact H) | (simp only [hji6] at H ⊢; exact H)
        (try rw [hji6] at A2)
        have hji6w : (IntKind.i64.wrap (a0_1 - 1)) = ji6 := (i64_w _).trans hji6
        by_cases c7 : 0 ≤ (ji6)
        · rw [if_pos c7] at H
          have c7b0 : decide (0 ≤ (ji6)) = true := decide_eq_true c7
          clear c7
          by_cases c8 : (ji6) < (y126.length : Int)
          · rw [if_pos c8] at H
            have c8b0 : decide ((ji6) < (y126.length : Int)) = true := decide_eq_true c8
            clear c8
            by_cases c9 : (rdOf ByteArray.empty y122 a0_0).size + (rdOf ByteArray.empty y126 (ji6)).size ≤ 9223372036854775807
            · rw [if_pos c9] at H
              have c9b0 := eq_true c9
              have c9b1 : decide ((rdOf ByteArray.empty y122 a0_0).size + (rdOf ByteArray.empty y126 (ji6)).size ≤ 9223372036854775807) = true := decide_eq_true c9
              try have c9b2 : (9223372036854775807 < (rdOf ByteArray.empty y122 a0_0).size + (rdOf ByteArray.empty y126 (ji6)).size) = False := eq_false (Nat.not_lt.2 c9)
              obtain rfl := Option.some.inj H
              go_enter Try.func17, Try.ntmps17
              try go_wp2_with (first | ((with_reducible refine gate_dst (N := 1) rfl ?_); refine box_event ?hg (N := 1) ?hd (cs := #[.int .i64 a0_0, .int .i64 a0_1]) (t := 25) ?hr ?_; (case hd => rfl); (case hg => rfl); (case hr => first | (go_simp; done) | (go_simp; rfl)); intro gb120 hg w10 hbox hb; have n0_ := Aside0.mk (below_step (by repeat (first | (with_reducible first | exact HB.out | apply below_alloc | apply pw_below_drewN | apply below_drew1) | exact HB.out)) hb); have n1_ := Aside0.mk (hbox); have n2_ := Aside0.mk ((by rw [hg]; exact (below_size (by repeat (first | (with_reducible first | exact HB.out | apply below_alloc | apply pw_below_drewN | apply below_drew1) | exact HB.out))) : w.heap.size ≤ gb120)); have n3_ := Aside0.mk ((by rw [hg]; exact (below_size (by repeat (first | (with_reducible first | exact HB.out | apply below_alloc | apply pw_below_drewN | apply below_drew1) | exact HB.out))) : w.heap.size ≤ gb120)); clear HB; have HB := n0_; have BK120 := n1_; have GW120 := n2_; have GE120 := n3_; clear n0_ n1_ n2_ n3_; clear hb hbox hg; have hcz11_0 : w10.cell? ⟨gb120, 0, none⟩ = some (.int .i64 a0_0) := (blk_cell BK120.out 0).trans rfl; have hcz11_1 : w10.cell? ⟨gb120, 1, none⟩ = some (.int .i64 a0_1) := (blk_cell BK120.out 1).trans rfl; have hfz11_0 := blk_frozen BK120.out 0; have hfz11_1 := blk_frozen BK120.out 1) | ((with_reducible refine gate_callee (f := 11) rfl ?_); refine goesL_ (some 4) rfl rfl Try.func11 (by kernel_rfl) rfl #[.agg #[.int .i64 a0_0, .int .i64 a0_1]] rfl (by (try simp only [List.map_toArray, List.map_cons, List.map_nil]); first | done | rfl | (simp only [List.length_drop, List.length_take]; rfl)) ?_; (with_reducible refine (impl_IsChord.calls a0_0 a0_1 true _ A2.out).mono ?_); rintro e w12 ⟨rfl, hb⟩; refine ⟨_, rfl, ?_⟩; have n0_ := Aside0.mk (blk_below (g := gb120) (o := .cells #[.int .i64 a0_0, .int .i64 a0_1] 25 (0, 0)) (by (with_reducible repeat (first | refine blk_drewN ?_ _ | refine blk_drew ?_ | refine blk_alloc ?_ _)); exact BK120.out) hb); have n1_ := Aside0.mk (below_step (by repeat (first | (with_reducible first | exact HB.out | apply below_alloc | apply pw_below_drewN | apply below_drew1 | refine below_set ?_ GE120.out) | exact HB.out)) hb); clear BK120; clear HB; have BK120 := n0_; have HB := n1_; clear n0_ n1_; (try clear hb); (try clear hb2); (try clear hk); (try clear hi)))
              have pi125 : (0 ≤ (a0_0 : Int)) = True := eq_true (of_decide_eq_true (by first | (with_reducible assumption) | assumption))
              have qi125 : (a0_0 < (y122.length : Int)) = True := eq_true (of_decide_eq_true (by first | (with_reducible assumption) | assumption))
              have pi129 : (0 ≤ ((ji6) : Int)) = True := eq_true (of_decide_eq_true (by first | (with_reducible assumption) | assumption))
              have qi129 : ((ji6) < (y126.length : Int)) = True := eq_true (of_decide_eq_true (by first | (with_reducible assumption) | assumption))
              have n0_ := Aside0.mk (blk_drew BK120.out)
              have n1_ := Aside0.mk (below_drew1 HB.out)
              clear BK120
              clear HB
              have BK120 := n0_
              have HB := n1_
              clear n0_ n1_
              refine start_ (n := 13) (S := fun w' => True) (ds := []) #[false, false, false, false, false, false, false, false, false, false, false, false, false] (by kernel_rfl) rfl rfl trivial (fun hHeld => ?_); refine with_tabW impl_ChordText.tab3 impl_ChordText.bits3 (fun HT_ HW_ => ?_)
              generalize w12.drew = w13 at BK120 HB hHeld ⊢
              refine pure_ (i := 1) (N := some 7) (v := ?_) (a' := ?_) #[false, true, false, false, false, false, false, false, false, false, false, false, false] rfl rfl (any_of HT_.out (by kernel_rfl)) (fun _ _ _ h => h) (Or.inl ⟨by rfl, ?_⟩) ?_ ?_
              rotate_left
              · intro w'
                go_simp
                with_reducible rfl
              rotate_left
              · simp only [Act.put, List.setIfInBounds_toArray, List.set_cons_zero, List.set_cons_succ, i64_w, i32_w]
                rfl
              refine pure_ (i := 6) (N := some 12) (v := ?_) (a' := ?_) #[false, true, false, false, false, false, true, false, false, false, false, false, false] rfl rfl (any_of HT_.out (by kernel_rfl)) (fun _ _ _ h => h) (Or.inl ⟨by rfl, ?_⟩) ?_ ?_
              rotate_left
              · intro w'
                go_simp
                with_reducible rfl
              rotate_left
              · simp only [Act.put, List.setIfInBounds_toArray, List.set_cons_zero, List.set_cons_succ, i64_w, i32_w]
                rfl
              refine inv_at [0, 2, 3, 4, 5, 7, 8, 9, 10, 11, 12] (fun a0_ b a w' => ∃ (v123 : Value) (adz_v123 : Addr) (v127 : Value) (adz_v127 : Addr) (m3_ : Value) (m9_ : Value), a = putSel a0_ b [(0, 6, v123), (2, 8, .int .i64 a0_0), (3, 9, m3_), (4, 10, .string (rdOf ByteArray.empty y122 a0_0)), (5, 11, v127), (7, 13, .int .i64 a0_1), (8, 14, .int .i64 ji6), (9, 15, m9_), (10, 16, .string (rdOf ByteArray.empty y126 (ji6))), (11, 17, .string ((rdOf ByteArray.empty y122 a0_0) ++ (rdOf ByteArray.empty y126 (ji6)))), (12, 2, .string ((rdOf ByteArray.empty y122 a0_0) ++ (rdOf ByteArray.empty y126 (ji6))))] ∧ (w'.heap[gb120]? = some (.cells #[.int .i64 a0_0, .int .i64 a0_1] 25 (0, 0))) ∧ (Below w.heap.size w w') ∧ (b 0 = true → Kd.R Kd.string 9 w' w.heap.size (fun _ => True) v123 y122) ∧ (b 0 = true → ∃ c_, (v123 : Value) = .slice (some adz_v123) y122.length c_) ∧ (b 5 = true → Kd.R Kd.string 9 w' w.heap.size (fun _ => True) v127 y126) ∧ (b 5 = true → ∃ c_, (v127 : Value) = .slice (some adz_v127) y126.length c_) ∧ (b 3 = true → (m3_ : Value) = .pointer (some (adz_v123.add (a0_0).toNat))) ∧ (b 9 = true → (m9_ : Value) = .pointer (some (adz_v127.add ((ji6)).toNat)))) HT_.out HW_.out (by kernel_rfl) (by kernel_rfl) ?_ ?_ ?_
              · exact ⟨.bool false, ⟨0, 0, none⟩, .bool false, ⟨0, 0, none⟩, .bool false, .bool false, by simp only [putSel, Bool.false_eq_true, if_false], BK120.out, HB.out, fun h_ => absurd h_ (by decide), fun h_ => absurd h_ (by decide), fun h_ => absurd h_ (by decide), fun h_ => absurd h_ (by decide), fun h_ => absurd h_ (by decide), fun h_ => absurd h_ (by decide)⟩
              · skip
                clear BK120 HB
                refine steps_cons ?_ ?_
                · rintro b a w' ⟨v123, adz_v123, v127, adz_v127, m3_, m9_, ha, Q_BK120, Q_HB, Q_HO124, Q_HA_HO124, Q_HO128, Q_HA_HO128, Q_X3_, Q_X9_⟩ hb_ hon hoff
                  refine ⟨_, rfl, fun K hK => ?_⟩
                  replace ha := Aside0.mk ha
                  have BK120 := Aside0.mk Q_BK120
                  have HB := Aside0.mk Q_HB
                  refine Kd.R_lit_step Kd.string _ 9 ?hg (N := 6) ?hd (xs := ([(⟨#[99]⟩ : ByteArray), (⟨#[99, 35]⟩ : ByteArray), (⟨#[100]⟩ : ByteArray), (⟨#[100, 35]⟩ : ByteArray), (⟨#[101]⟩ : ByteArray), (⟨#[102]⟩ : ByteArray), (⟨#[102, 35]⟩ : ByteArray), (⟨#[103]⟩ : ByteArray), (⟨#[103, 35]⟩ : ByteArray), (⟨#[97]⟩ : ByteArray), (⟨#[97, 35]⟩ : ByteArray), (⟨#[98]⟩ : ByteArray)] : List ByteArray)) (inner := [.string (⟨#[99]⟩ : ByteArray), .string (⟨#[99, 35]⟩ : ByteArray), .string (⟨#[100]⟩ : ByteArray), .string (⟨#[100, 35]⟩ : ByteArray), .string (⟨#[101]⟩ : ByteArray), .string (⟨#[102]⟩ : ByteArray), .string (⟨#[102, 35]⟩ : ByteArray), .string (⟨#[103]⟩ : ByteArray), .string (⟨#[103, 35]⟩ : ByteArray), .string (⟨#[97]⟩ : ByteArray), .string (⟨#[97, 35]⟩ : ByteArray), .string (⟨#[98]⟩ : ByteArray)]) (ok := fun _ => True) (okp := fun _ => True) ?hr ?hp (fun _ hk => hk) trivial (Below.refl _ _) (Nat.le_refl _) (by simp) ?_; (case hd => rfl); (case hg => rfl); (case hr => first | (go_simp; done) | (go_simp; rfl)); (case hp => exact (Reps.one (show Kd.M Kd.string _ _ _ (⟨#[99]⟩ : ByteArray) [.string (⟨#[99]⟩ : ByteArray)] from rfl) (Reps.one (show Kd.M Kd.string _ _ _ (⟨#[99, 35]⟩ : ByteArray) [.string (⟨#[99, 35]⟩ : ByteArray)] from rfl) (Reps.one (show Kd.M Kd.string _ _ _ (⟨#[100]⟩ : ByteArray) [.string (⟨#[100]⟩ : ByteArray)] from rfl) (Reps.one (show Kd.M Kd.string _ _ _ (⟨#[100, 35]⟩ : ByteArray) [.string (⟨#[100, 35]⟩ : ByteArray)] from rfl) (Reps.one (show Kd.M Kd.string _ _ _ (⟨#[101]⟩ : ByteArray) [.string (⟨#[101]⟩ : ByteArray)] from rfl) (Reps.one (show Kd.M Kd.string _ _ _ (⟨#[102]⟩ : ByteArray) [.string (⟨#[102]⟩ : ByteArray)] from rfl) (Reps.one (show Kd.M Kd.string _ _ _ (⟨#[102, 35]⟩ : ByteArray) [.string (⟨#[102, 35]⟩ : ByteArray)] from rfl) (Reps.one (show Kd.M Kd.string _ _ _ (⟨#[103]⟩ : ByteArray) [.string (⟨#[103]⟩ : ByteArray)] from rfl) (Reps.one (show Kd.M Kd.string _ _ _ (⟨#[103, 35]⟩ : ByteArray) [.string (⟨#[103, 35]⟩ : ByteArray)] from rfl) (Reps.one (show Kd.M Kd.string _ _ _ (⟨#[97]⟩ : ByteArray) [.string (⟨#[97]⟩ : ByteArray)] from rfl) (Reps.one (show Kd.M Kd.string _ _ _ (⟨#[97, 35]⟩ : ByteArray) [.string (⟨#[97, 35]⟩ : ByteArray)] from rfl) (Reps.one (show Kd.M Kd.string _ _ _ (⟨#[98]⟩ : ByteArray) [.string (⟨#[98]⟩ : ByteArray)] from rfl) (Reps.none _ _))))))))))))))
                  intro v123 w14 ho15 hb hg_ hnew_
                  clear hg_ hnew_
                  (first | rw [← Ny122.out] at ho15 | (simp only [Int.reduceToNat] at ho15; rw [← Ny122.out] at ho15))
                  have n0_ := Aside0.mk (Kd.R_lower ho15 (below_size (by repeat (first | (with_reducible first | exact HB.out | apply below_alloc | apply pw_below_drewN | apply below_drew1 | refine below_set ?_ GE120.out) | exact HB.out))))
                  have n1_ := Aside0.mk (blk_below (g := gb120) (o := .cells #[.int .i64 a0_0, .int .i64 a0_1] 25 (0, 0)) (by (with_reducible repeat (first | refine blk_drewN ?_ _ | refine blk_drew ?_ | refine blk_alloc ?_ _)); exact BK120.out) hb)
                  have n2_ := Aside0.mk (below_step (by repeat (first | (with_reducible first | exact HB.out | apply below_alloc | apply pw_below_drewN | apply below_drew1 | refine below_set ?_ GE120.out) | exact HB.out)) hb)
                  have z_HO128 := fun (h0_ : b 5 = true) => (show Kd.R Kd.string 9 w14 w.heap.size (fun _ => True) v127 y126 from by first | exact (Kd.R_elder' (by (with_reducible repeat (first | apply Kd.R_alloc | apply Kd.R_drewN | apply Kd.R_drew)); exact (Q_HO128 h0_)) (Kd.R_base ho15) hb) | exact Kd.R_mono (Kd.R_elder' (by (with_reducible repeat (first | apply Kd.R_alloc | apply Kd.R_drewN | apply Kd.R_drew)); exact (Q_HO128 h0_)) (Kd.R_base ho15) hb) (fun _ h_ => by first | trivial | exact h_ | exact h_.1))
                  clear BK120
                  clear HB
                  have HO124 := n0_
                  have BK120 := n1_
                  have HB := n2_
                  clear n0_ n1_ n2_
                  clear hb ho15
                  obtain ⟨Ao16, co16, eo16⟩ := Kd.R_slice HO124.out
                  subst eo16
                  obtain ⟨ado16, fo16, _⟩ := Kd.at_string (Kd.R_reads' HO124.out).2.2 0 (by decide) (by rw [Ny122.out]; simp)
                  cases fo16
                  refine hK.out _ _ ⟨.slice (some ado16) y122.length co16, ado16, v127, adz_v127, m3_, m9_, (by rw [ha.out]; exact putSel_upk 0 hb_ rfl rfl rfl), (by (with_reducible repeat (first | refine blk_drewN ?_ _ | refine blk_drew ?_ | refine blk_alloc ?_ _)); exact BK120.out), (by repeat (first | (with_reducible first | exact HB.out | apply below_alloc | apply pw_below_drewN | apply below_drew1 | refine below_set ?_ GE120.out) | exact HB.out)), fun _ => (by (with_reducible repeat (first | apply Kd.R_alloc | apply Kd.R_drewN | apply Kd.R_drew)); exact HO124.out), fun _ => ⟨_, rfl⟩, z_HO128, Q_HA_HO128, fun h0_ => absurd ((hoff 3 (by kernel_rfl)).symm.trans h0_) (by decide), Q_X9_⟩
                refine steps_cons ?_ ?_
                · rintro b a w' ⟨v123, adz_v123, v127, adz_v127, m3_, m9_, ha, Q_BK120, Q_HB, Q_HO124, Q_HA_HO124, Q_HO128, Q_HA_HO128, Q_X3_, Q_X9_⟩ hb_ hon hoff
                  refine ⟨_, rfl, fun K hK => ?_⟩
                  have e7 : a.tmps[7]? = some (.pointer (some ⟨gb120, 0, none⟩)) := by rw [ha]; exact (putSel_off rfl).trans rfl
                  replace ha := Aside0.mk ha
                  have BK120 := Aside0.mk Q_BK120
                  have HB := Aside0.mk Q_HB
                  have hc0_ : w'.cell? ⟨gb120, 0, none⟩ = some (.int .i64 a0_0) := (blk_cell BK120.out 0).trans rfl
                  have hc1_ : w'.cell? ⟨gb120, 1, none⟩ = some (.int .i64 a0_1) := (blk_cell BK120.out 1).trans rfl
                  refine value_ (w1 := w') (v := .int .i64 a0_0) (by rfl) rfl ?_ ?_
                  · go_simp
                    (try simp only [i64_w])
                    try rfl
                  refine hK.out _ _ ⟨v123, adz_v123, v127, adz_v127, m3_, m9_, (by rw [ha.out]; exact putSel_upk 1 hb_ rfl rfl rfl), Q_BK120, Q_HB, Q_HO124, Q_HA_HO124, Q_HO128, Q_HA_HO128, fun h0_ => absurd ((hoff 3 (by kernel_rfl)).symm.trans h0_) (by decide), Q_X9_⟩
                refine steps_cons ?_ ?_
                · rintro b a w' ⟨v123, adz_v123, v127, adz_v127, m3_, m9_, ha, Q_BK120, Q_HB, Q_HO124, Q_HA_HO124, Q_HO128, Q_HA_HO128, Q_X3_, Q_X9_⟩ hb_ hon hoff
                  refine ⟨_, rfl, fun K hK => ?_⟩
                  have e6 : a.tmps[6]? = some (v123) := by rw [ha]; exact putSel_on (e := (0, 6, v123)) 0 rfl rfl (hon 0 (by kernel_rfl)) rfl
                  have e8 : a.tmps[8]? = some (.int .i64 a0_0) := by rw [ha]; exact putSel_on (e := (2, 8, .int .i64 a0_0)) 1 rfl rfl (hon 2 (by kernel_rfl)) rfl
                  replace ha := Aside0.mk ha
                  have BK120 := Aside0.mk Q_BK120
                  have HB := Aside0.mk Q_HB
                  have HO124 := Aside0.mk (Q_HO124 (hon 0 (by kernel_rfl)))
                  have HA_HO124 := Aside0.mk (Q_HA_HO124 (hon 0 (by kernel_rfl)))
                  obtain ⟨c_, hv_⟩ := HA_HO124.out
                  rw [hv_] at e6
                  refine value_ (w1 := w') (v := .pointer (some (adz_v123.add (a0_0).toNat))) (by rfl) rfl ?_ ?_
                  · go_simp
                    (try simp only [i64_w])
                    try rfl
                  refine hK.out _ _ ⟨v123, adz_v123, v127, adz_v127, (.pointer (some (adz_v123.add (a0_0).toNat))), m9_, (by rw [ha.out]; exact putSel_upk 2 hb_ rfl rfl rfl), Q_BK120, Q_HB, Q_HO124, Q_HA_HO124, Q_HO128, Q_HA_HO128, fun _ => rfl, Q_X9_⟩
                refine steps_cons ?_ ?_
                · rintro b a w' ⟨v123, adz_v123, v127, adz_v127, m3_, m9_, ha, Q_BK120, Q_HB, Q_HO124, Q_HA_HO124, Q_HO128, Q_HA_HO128, Q_X3_, Q_X9_⟩ hb_ hon hoff
                  refine ⟨_, rfl, fun K hK => ?_⟩
                  have e9 : a.tmps[9]? = some (m3_) := by rw [ha]; exact putSel_on (e := (3, 9, m3_)) 2 rfl rfl (hon 3 (by kernel_rfl)) rfl
                  rw [Q_X3_ (hon 3 (by kernel_rfl))] at e9
                  replace ha := Aside0.mk ha
                  have BK120 := Aside0.mk Q_BK120
                  have HB := Aside0.mk Q_HB
                  have HO124 := Aside0.mk (Q_HO124 (hon 0 (by kernel_rfl)))
                  have HA_HO124 := Aside0.mk (Q_HA_HO124 (hon 0 (by kernel_rfl)))
                  obtain ⟨c_, hv_⟩ := HA_HO124.out
                  have hF_ := HO124.out
                  rw [hv_] at hF_
                  obtain ⟨ad_, ea_, hx_⟩ := Kd.at_string (Kd.R_reads' hF_).2.2 a0_0 (of_eq_true pi125) (of_eq_true qi125)
                  cases ea_
                  refine value_ (w1 := w') (v := .string (rdOf ByteArray.empty y122 a0_0)) (by rfl) rfl ?_ ?_
                  · go_simp
                    (try simp only [i64_w])
                    try rfl
                  refine hK.out _ _ ⟨v123, adz_v123, v127, adz_v127, m3_, m9_, (by rw [ha.out]; exact putSel_upk 3 hb_ rfl rfl rfl), Q_BK120, Q_HB, Q_HO124, Q_HA_HO124, Q_HO128, Q_HA_HO128, Q_X3_, Q_X9_⟩
                refine steps_cons ?_ ?_
                · rintro b a w' ⟨v123, adz_v123, v127, adz_v127, m3_, m9_, ha, Q_BK120, Q_HB, Q_HO124, Q_HA_HO124, Q_HO128, Q_HA_HO128, Q_X3_, Q_X9_⟩ hb_ hon hoff
                  refine ⟨_, rfl, fun K hK => ?_⟩
                  replace ha := Aside0.mk ha
                  have BK120 := Aside0.mk Q_BK120
                  have HB := Aside0.mk Q_HB
                  refine Kd.R_lit_step Kd.string _ 9 ?hg (N := 11) ?hd (xs := ([(⟨#[]⟩ : ByteArray), (⟨#[109]⟩ : ByteArray), (⟨#[111]⟩ : ByteArray), (⟨#[43]⟩ : ByteArray), (⟨#[55]⟩ : ByteArray)] : List ByteArray)) (inner := [.string (⟨#[]⟩ : ByteArray), .string (⟨#[109]⟩ : ByteArray), .string (⟨#[111]⟩ : ByteArray), .string (⟨#[43]⟩ : ByteArray), .string (⟨#[55]⟩ : ByteArray)]) (ok := fun _ => True) (okp := fun _ => True) ?hr ?hp (fun _ hk => hk) trivial (Below.refl _ _) (Nat.le_refl _) (by simp) ?_; (case hd => rfl); (case hg => rfl); (case hr => first | (go_simp; done) | (go_simp; rfl)); (case hp => exact (Reps.one (show Kd.M Kd.string _ _ _ (⟨#[]⟩ : ByteArray) [.string (⟨#[]⟩ : ByteArray)] from rfl) (Reps.one (show Kd.M Kd.string _ _ _ (⟨#[109]⟩ : ByteArray) [.string (⟨#[109]⟩ : ByteArray)] from rfl) (Reps.one (show Kd.M Kd.string _ _ _ (⟨#[111]⟩ : ByteArray) [.string (⟨#[111]⟩ : ByteArray)] from rfl) (Reps.one (show Kd.M Kd.string _ _ _ (⟨#[43]⟩ : ByteArray) [.string (⟨#[43]⟩ : ByteArray)] from rfl) (Reps.one (show Kd.M Kd.string _ _ _ (⟨#[55]⟩ : ByteArray) [.string (⟨#[55]⟩ : ByteArray)] from rfl) (Reps.none _ _)))))))
                  intro v127 w14 ho15 hb hg_ hnew_
                  clear hg_ hnew_
                  (first | rw [← Ny126.out] at ho15 | (simp only [Int.reduceToNat] at ho15; rw [← Ny126.out] at ho15))
                  have n0_ := Aside0.mk (Kd.R_lower ho15 (below_size (by repeat (first | (with_reducible first | exact HB.out | apply below_alloc | apply pw_below_drewN | apply below_drew1 | refine below_set ?_ GE120.out) | exact HB.out))))
                  have n1_ := Aside0.mk (blk_below (g := gb120) (o := .cells #[.int .i64 a0_0, .int .i64 a0_1] 25 (0, 0)) (by (with_reducible repeat (first | refine blk_drewN ?_ _ | refine blk_drew ?_ | refine blk_alloc ?_ _)); exact BK120.out) hb)
                  have n2_ := Aside0.mk (below_step (by repeat (first | (with_reducible first | exact HB.out | apply below_alloc | apply pw_below_drewN | apply below_drew1 | refine below_set ?_ GE120.out) | exact HB.out)) hb)
                  have z_HO124 := fun (h0_ : b 0 = true) => (show Kd.R Kd.string 9 w14 w.heap.size (fun _ => True) v123 y122 from by first | exact (Kd.R_elder' (by (with_reducible repeat (first | apply Kd.R_alloc | apply Kd.R_drewN | apply Kd.R_drew)); exact (Q_HO124 h0_)) (Kd.R_base ho15) hb) | exact Kd.R_mono (Kd.R_elder' (by (with_reducible repeat (first | apply Kd.R_alloc | apply Kd.R_drewN | apply Kd.R_drew)); exact (Q_HO124 h0_)) (Kd.R_base ho15) hb) (fun _ h_ => by first | trivial | exact h_ | exact h_.1))
                  clear BK120
                  clear HB
                  have HO128 := n0_
                  have BK120 := n1_
                  have HB := n2_
                  clear n0_ n1_ n2_
                  clear hb ho15
                  obtain ⟨Ao16, co16, eo16⟩ := Kd.R_slice HO128.out
                  subst eo16
                  obtain ⟨ado16, fo16, _⟩ := Kd.at_string (Kd.R_reads' HO128.out).2.2 0 (by decide) (by rw [Ny126.out]; simp)
                  cases fo16
                  refine hK.out _ _ ⟨v123, adz_v123, .slice (some ado16) y126.length co16, ado16, m3_, m9_, (by rw [ha.out]; exact putSel_upk 4 hb_ rfl rfl rfl), (by (with_reducible repeat (first | refine blk_drewN ?_ _ | refine blk_drew ?_ | refine blk_alloc ?_ _)); exact BK120.out), (by repeat (first | (with_reducible first | exact HB.out | apply below_alloc | apply pw_below_drewN | apply below_drew1 | refine below_set ?_ GE120.out) | exact HB.out)), z_HO124, Q_HA_HO124, fun _ => (by (with_reducible repeat (first | apply Kd.R_alloc | apply Kd.R_drewN | apply Kd.R_drew)); exact HO128.out), fun _ => ⟨_, rfl⟩, Q_X3_, fun h0_ => absurd ((hoff 9 (by kernel_rfl)).symm.trans h0_) (by decide)⟩
                refine steps_cons ?_ ?_
                · rintro b a w' ⟨v123, adz_v123, v127, adz_v127, m3_, m9_, ha, Q_BK120, Q_HB, Q_HO124, Q_HA_HO124, Q_HO128, Q_HA_HO128, Q_X3_, Q_X9_⟩ hb_ hon hoff
                  refine ⟨_, rfl, fun K hK => ?_⟩
                  have e12 : a.tmps[12]? = some (.pointer (some ⟨gb120, 1, none⟩)) := by rw [ha]; exact (putSel_off rfl).trans rfl
                  replace ha := Aside0.mk ha
                  have BK120 := Aside0.mk Q_BK120
                  have HB := Aside0.mk Q_HB
                  have hc0_ : w'.cell? ⟨gb120, 0, none⟩ = some (.int .i64 a0_0) := (blk_cell BK120.out 0).trans rfl
                  have hc1_ : w'.cell? ⟨gb120, 1, none⟩ = some (.int .i64 a0_1) := (blk_cell BK120.out 1).trans rfl
                  refine value_ (w1 := w') (v := .int .i64 a0_1) (by rfl) rfl ?_ ?_
                  · go_simp
                    (try simp only [i64_w])
                    try rfl
                  refine hK.out _ _ ⟨v123, adz_v123, v127, adz_v127, m3_, m9_, (by rw [ha.out]; exact putSel_upk 5 hb_ rfl rfl rfl), Q_BK120, Q_HB, Q_HO124, Q_HA_HO124, Q_HO128, Q_HA_HO128, Q_X3_, fun h0_ => absurd ((hoff 9 (by kernel_rfl)).symm.trans h0_) (by decide)⟩
                refine steps_cons ?_ ?_
                · rintro b a w' ⟨v123, adz_v123, v127, adz_v127, m3_, m9_, ha, Q_BK120, Q_HB, Q_HO124, Q_HA_HO124, Q_HO128, Q_HA_HO128, Q_X3_, Q_X9_⟩ hb_ hon hoff
                  refine ⟨_, rfl, fun K hK => ?_⟩
                  have e13 : a.tmps[13]? = some (.int .i64 a0_1) := by rw [ha]; exact putSel_on (e := (7, 13, .int .i64 a0_1)) 5 rfl rfl (hon 7 (by kernel_rfl)) rfl
                  replace ha := Aside0.mk ha
                  have BK120 := Aside0.mk Q_BK120
                  have HB := Aside0.mk Q_HB
                  refine value_ (w1 := w') (v := .int .i64 ji6) (by rfl) rfl ?_ ?_
                  · go_simp
                    (try simp only [i64_w])
                    try rfl
                  refine hK.out _ _ ⟨v123, adz_v123, v127, adz_v127, m3_, m9_, (by rw [ha.out]; exact putSel_upk 6 hb_ rfl rfl rfl), Q_BK120, Q_HB, Q_HO124, Q_HA_HO124, Q_HO128, Q_HA_HO128, Q_X3_, fun h0_ => absurd ((hoff 9 (by kernel_rfl)).symm.trans h0_) (by decide)⟩
                refine steps_cons ?_ ?_
                · rintro b a w' ⟨v123, adz_v123, v127, adz_v127, m3_, m9_, ha, Q_BK120, Q_HB, Q_HO124, Q_HA_HO124, Q_HO128, Q_HA_HO128, Q_X3_, Q_X9_⟩ hb_ hon hoff
                  refine ⟨_, rfl, fun K hK => ?_⟩
                  have e11 : a.tmps[11]? = some (v127) := by rw [ha]; exact putSel_on (e := (5, 11, v127)) 4 rfl rfl (hon 5 (by kernel_rfl)) rfl
                  have e14 : a.tmps[14]? = some (.int .i64 ji6) := by rw [ha]; exact putSel_on (e := (8, 14, .int .i64 ji6)) 6 rfl rfl (hon 8 (by kernel_rfl)) rfl
                  replace ha := Aside0.mk ha
                  have BK120 := Aside0.mk Q_BK120
                  have HB := Aside0.mk Q_HB
                  have HO128 := Aside0.mk (Q_HO128 (hon 5 (by kernel_rfl)))
                  have HA_HO128 := Aside0.mk (Q_HA_HO128 (hon 5 (by kernel_rfl)))
                  obtain ⟨c_, hv_⟩ := HA_HO128.out
                  rw [hv_] at e11
                  refine value_ (w1 := w') (v := .pointer (some (adz_v127.add ((ji6)).toNat))) (by rfl) rfl ?_ ?_
                  · go_simp
                    (try simp only [i64_w])
                    try rfl
                  refine hK.out _ _ ⟨v123, adz_v123, v127, adz_v127, m3_, (.pointer (some (adz_v127.add ((ji6)).toNat))), (by rw [ha.out]; exact putSel_upk 7 hb_ rfl rfl rfl), Q_BK120, Q_HB, Q_HO124, Q_HA_HO124, Q_HO128, Q_HA_HO128, Q_X3_, fun _ => rfl⟩
                refine steps_cons ?_ ?_
                · rintro b a w' ⟨v123, adz_v123, v127, adz_v127, m3_, m9_, ha, Q_BK120, Q_HB, Q_HO124, Q_HA_HO124, Q_HO128, Q_HA_HO128, Q_X3_, Q_X9_⟩ hb_ hon hoff
                  refine ⟨_, rfl, fun K hK => ?_⟩
                  have e15 : a.tmps[15]? = some (m9_) := by rw [ha]; exact putSel_on (e := (9, 15, m9_)) 7 rfl rfl (hon 9 (by kernel_rfl)) rfl
                  rw [Q_X9_ (hon 9 (by kernel_rfl))] at e15
                  replace ha := Aside0.mk ha
                  have BK120 := Aside0.mk Q_BK120
                  have HB := Aside0.mk Q_HB
                  have HO128 := Aside0.mk (Q_HO128 (hon 5 (by kernel_rfl)))
                  have HA_HO128 := Aside0.mk (Q_HA_HO128 (hon 5 (by kernel_rfl)))
                  obtain ⟨c_, hv_⟩ := HA_HO128.out
                  have hF_ := HO128.out
                  rw [hv_] at hF_
                  obtain ⟨ad_, ea_, hx_⟩ := Kd.at_string (Kd.R_reads' hF_).2.2 (ji6) (of_eq_true pi129) (of_eq_true qi129)
                  cases ea_
                  refine value_ (w1 := w') (v := .string (rdOf ByteArray.empty y126 (ji6))) (by rfl) rfl ?_ ?_
                  · go_simp
                    (try simp only [i64_w])
                    try rfl
                  refine hK.out _ _ ⟨v123, adz_v123, v127, adz_v127, m3_, m9_, (by rw [ha.out]; exact putSel_upk 8 hb_ rfl rfl rfl), Q_BK120, Q_HB, Q_HO124, Q_HA_HO124, Q_HO128, Q_HA_HO128, Q_X3_, Q_X9_⟩
                refine steps_cons ?_ ?_
                · rintro b a w' ⟨v123, adz_v123, v127, adz_v127, m3_, m9_, ha, Q_BK120, Q_HB, Q_HO124, Q_HA_HO124, Q_HO128, Q_HA_HO128, Q_X3_, Q_X9_⟩ hb_ hon hoff
                  refine ⟨_, rfl, fun K hK => ?_⟩
                  have e10 : a.tmps[10]? = some (.string (rdOf ByteArray.empty y122 a0_0)) := by rw [ha]; exact putSel_on (e := (4, 10, .string (rdOf ByteArray.empty y122 a0_0))) 3 rfl rfl (hon 4 (by kernel_rfl)) rfl
                  have e16 : a.tmps[16]? = some (.string (rdOf ByteArray.empty y126 (ji6))) := by rw [ha]; exact putSel_on (e := (10, 16, .string (rdOf ByteArray.empty y126 (ji6)))) 8 rfl rfl (hon 10 (by kernel_rfl)) rfl
                  replace ha := Aside0.mk ha
                  have BK120 := Aside0.mk Q_BK120
                  have HB := Aside0.mk Q_HB
                  have HO124 := Aside0.mk (Q_HO124 (hon 0 (by kernel_rfl)))
                  have HA_HO124 := Aside0.mk (Q_HA_HO124 (hon 0 (by kernel_rfl)))
                  have HO128 := Aside0.mk (Q_HO128 (hon 5 (by kernel_rfl)))
                  have HA_HO128 := Aside0.mk (Q_HA_HO128 (hon 5 (by kernel_rfl)))
                  refine value_ (w1 := w') (v := .string ((rdOf ByteArray.empty y122 a0_0) ++ (rdOf ByteArray.empty y126 (ji6)))) (by rfl) rfl ?_ ?_
                  · go_simp
                    (try simp only [i64_w])
                    try rfl
                  refine hK.out _ _ ⟨v123, adz_v123, v127, adz_v127, m3_, m9_, (by rw [ha.out]; exact putSel_upk 9 hb_ rfl rfl rfl), Q_BK120, Q_HB, Q_HO124, Q_HA_HO124, Q_HO128, Q_HA_HO128, Q_X3_, Q_X9_⟩
                refine steps_cons ?_ ?_
                · rintro b a w' ⟨v123, adz_v123, v127, adz_v127, m3_, m9_, ha, Q_BK120, Q_HB, Q_HO124, Q_HA_HO124, Q_HO128, Q_HA_HO128, Q_X3_, Q_X9_⟩ hb_ hon hoff
                  refine ⟨_, rfl, fun K hK => ?_⟩
                  have e17 : a.tmps[17]? = some (.string ((rdOf ByteArray.empty y122 a0_0) ++ (rdOf ByteArray.empty y126 (ji6)))) := by rw [ha]; exact putSel_on (e := (11, 17, .string ((rdOf ByteArray.empty y122 a0_0) ++ (rdOf ByteArray.empty y126 (ji6))))) 9 rfl rfl (hon 11 (by kernel_rfl)) rfl
                  replace ha := Aside0.mk ha
                  have BK120 := Aside0.mk Q_BK120
                  have HB := Aside0.mk Q_HB
                  have HO124 := Aside0.mk (Q_HO124 (hon 0 (by kernel_rfl)))
                  have HA_HO124 := Aside0.mk (Q_HA_HO124 (hon 0 (by kernel_rfl)))
                  have HO128 := Aside0.mk (Q_HO128 (hon 5 (by kernel_rfl)))
                  have HA_HO128 := Aside0.mk (Q_HA_HO128 (hon 5 (by kernel_rfl)))
                  refine value_ (w1 := w') (v := .string ((rdOf ByteArray.empty y122 a0_0) ++ (rdOf ByteArray.empty y126 (ji6)))) (by rfl) rfl ?_ ?_
                  · go_simp
                    (try simp only [i64_w])
                    try rfl
                  refine hK.out _ _ ⟨v123, adz_v123, v127, adz_v127, m3_, m9_, (by rw [ha.out]; exact putSel_upk 10 hb_ rfl rfl rfl), Q_BK120, Q_HB, Q_HO124, Q_HA_HO124, Q_HO128, Q_HA_HO128, Q_X3_, Q_X9_⟩
                exact steps_nil
              rintro b a w20 hall ⟨v123, adz_v123, v127, adz_v127, m3_, m9_, ha, Q_BK120, Q_HB, Q_HO124, Q_HA_HO124, Q_HO128, Q_HA_HO128, Q_X3_, Q_X9_⟩
              clear BK120 HB
              have hb0_ := hall 0 (by kernel_rfl)
              have hb2_ := hall 2 (by kernel_rfl)
              have hb3_ := hall 3 (by kernel_rfl)
              have hb4_ := hall 4 (by kernel_rfl)
              have hb5_ := hall 5 (by kernel_rfl)
              have hb7_ := hall 7 (by kernel_rfl)
              have hb8_ := hall 8 (by kernel_rfl)
              have hb9_ := hall 9 (by kernel_rfl)
              have hb10_ := hall 10 (by kernel_rfl)
              have hb11_ := hall 11 (by kernel_rfl)
              have hb12_ := hall 12 (by kernel_rfl)
              subst ha
              obtain rfl := Q_X3_ hb3_
              obtain rfl := Q_X9_ hb9_
              simp only [putSel, hb0_, hb2_, hb3_, hb4_, hb5_, hb7_, hb8_, hb9_, hb10_, hb11_, hb12_, if_true, Act.put, List.setIfInBounds_toArray, List.set_cons_zero, List.set_cons_succ]
              have BK120 := Aside0.mk Q_BK120
              clear Q_BK120
              have HB := Aside0.mk Q_HB
              clear Q_HB
              have HO124 := Aside0.mk (Q_HO124 hb0_)
              clear Q_HO124
              have HA_HO124 := Aside0.mk (Q_HA_HO124 hb0_)
              clear Q_HA_HO124
              have HO128 := Aside0.mk (Q_HO128 hb5_)
              clear Q_HO128
              have HA_HO128 := Aside0.mk (Q_HA_HO128 hb5_)
              clear Q_HA_HO128
              clear hall hb0_ hb2_ hb3_ hb4_ hb5_ hb7_ hb8_ hb9_ hb10_ hb11_ hb12_
              obtain ⟨co21, eo21⟩ := HA_HO124.out
              clear HA_HO124
              subst eo21
              obtain ⟨co22, eo22⟩ := HA_HO128.out
              clear HA_HO128
              subst eo22
              try go_wp2
              go_ret
              exact ⟨by first | rfl | (simp [errW_none, errW_some] <;> rfl) | (simp only [← hji6]; first | rfl | (simp [errW_none, errW_some] <;> rfl)) | (simp [*, errW_none, errW_some] <;> rfl), by repeat (first | (with_reducible first | exact HB.out | apply below_alloc | apply pw_below_drewN | apply below_drew1 | refine below_set ?_ GE120.out) | exact HB.out)⟩
            · rw [if_neg c9] at H
              exact absurd H (by simp)
          · rw [if_neg c8] at H
            exact absurd H (by simp)
        · rw [if_neg c7] at H
          exact absurd H (by simp)
      · rw [if_neg c5] at H
        exact absurd H (by simp)
    · rw [if_neg c4] at H
      exact absurd H (by simp)
  · replace c3 := Bool.eq_false_iff.mpr c3
    subst c3
    have H1 : (some (⟨#[]⟩ : ByteArray)) = some r := by rw [if_neg (show ¬ (false = true) by decide)] at H; exact H
    clear H
    have H := H1
    clear H1
    obtain rfl := Option.some.inj H
    go_enter Try.func17, Try.ntmps17
    go_wp2_with (first | ((with_reducible refine gate_dst (N := 1) rfl ?_); refine box_event ?hg (N := 1) ?hd (cs := #[.int .i64 a0_0, .int .i64 a0_1]) (t := 25) ?hr ?_; (case hd => rfl); (case hg => rfl); (case hr => first | (go_simp; done) | (go_simp; rfl)); intro gb120 hg w23 hbox hb; have n0_ := Aside0.mk (below_step (by repeat (first | (with_reducible first | exact HB.out | apply below_alloc | apply pw_below_drewN | apply below_drew1) | exact HB.out)) hb); have n1_ := Aside0.mk (hbox); have n2_ := Aside0.mk ((by rw [hg]; exact (below_size (by repeat (first | (with_reducible first | exact HB.out | apply below_alloc | apply pw_below_drewN | apply below_drew1) | exact HB.out))) : w.heap.size ≤ gb120)); have n3_ := Aside0.mk ((by rw [hg]; exact (below_size (by repeat (first | (with_reducible first | exact HB.out | apply below_alloc | apply pw_below_drewN | apply below_drew1) | exact HB.out))) : w.heap.size ≤ gb120)); clear HB; have HB := n0_; have BK120 := n1_; have GW120 := n2_; have GE120 := n3_; clear n0_ n1_ n2_ n3_; clear hb hbox hg; have hcz24_0 : w23.cell? ⟨gb120, 0, none⟩ = some (.int .i64 a0_0) := (blk_cell BK120.out 0).trans rfl; have hcz24_1 : w23.cell? ⟨gb120, 1, none⟩ = some (.int .i64 a0_1) := (blk_cell BK120.out 1).trans rfl; have hfz24_0 := blk_frozen BK120.out 0; have hfz24_1 := blk_frozen BK120.out 1) | ((with_reducible refine gate_callee (f := 11) rfl ?_); refine goesL_ (some 4) rfl rfl Try.func11 (by kernel_rfl) rfl #[.agg #[.int .i64 a0_0, .int .i64 a0_1]] rfl (by (try simp only [List.map_toArray, List.map_cons, List.map_nil]); first | done | rfl | (simp only [List.length_drop, List.length_take]; rfl)) ?_; (with_reducible refine (impl_IsChord.calls a0_0 a0_1 false _ A2.out).mono ?_); rintro e w25 ⟨rfl, hb⟩; refine ⟨_, rfl, ?_⟩; have n0_ := Aside0.mk (blk_below (g := gb120) (o := .cells #[.int .i64 a0_0, .int .i64 a0_1] 25 (0, 0)) (by (with_reducible repeat (first | refine blk_drewN ?_ _ | refine blk_drew ?_ | refine blk_alloc ?_ _)); exact BK120.out) hb); have n1_ := Aside0.mk (below_step (by repeat (first | (with_reducible first | exact HB.out | apply below_alloc | apply pw_below_drewN | apply below_drew1 | refine below_set ?_ GE120.out) | exact HB.out)) hb); clear BK120; clear HB; have BK120 := n0_; have HB := n1_; clear n0_ n1_; (try clear hb); (try clear hb2); (try clear hk); (try clear hi)))
    go_ret
    exact ⟨by first | rfl | (simp [errW_none, errW_some] <;> rfl) | (simp [*, errW_none, errW_some] <;> rfl), by repeat (first | (with_reducible first | exact HB.out | apply below_alloc | apply pw_below_drewN | apply below_drew1 | refine below_set ?_ GE120.out) | exact HB.out)⟩

end Go.Proofs.Ytdnhgdniaacghaa.PFnExactChordText
