/-
The band is never ahead of where the player surely is: the law answers true for whatever bytes it draws from.
Conditions: none.
-/
import Derived.Test.YtcgkmcnfhobkiaaPFnNeverAheadx24
import Derived.Test.YtcgkmcnfhobkiaaEd
namespace Go.Proofs.Ytcgkmcnfhobkiaa.Pure
open Go.RowKit Go.Proofs.Ytcgkmcnfhobkiaa.PFnNeverAhead Go.Proofs.YtcgkmcnfhobkiaaW.PrintWords Go.Proofs.YtcgkmcnfhobkiaaW.PrintLast Go.Proofs.YtcgkmcnfhobkiaaW.PrintMore Go.Proofs.Ytcgkmcnfhobkiaa.Base Go.Proofs.Ytcgkmcnfhobkiaa.Ed
set_option linter.unusedVariables false
set_option linter.unusedSimpArgs false

theorem l1In_eq (a b c : Int) : spec_l1In.f a b c = some (decide (b ≤ a ∧ a ≤ c)) := by
  unfold spec_l1In.f
  by_cases h1 : b ≤ a <;> by_cases h2 : a ≤ c <;> simp [h1, h2]
theorem InRange_eq (a b c : Int) : impl_InRange.f a b c = some (decide (b ≤ a ∧ a ≤ c)) := by
  unfold impl_InRange.f
  by_cases h1 : b ≤ a <;> by_cases h2 : a ≤ c <;> simp [h1, h2]

/-! ### more on distances -/
/-- What is heard first costs no more at some earlier place. -/
theorem ed_prefix1 (a b : List Int) (j : Nat) : ∀ n, ∃ m, m ≤ n ∧ ed a b m j ≤ ed a b n (j + 1) := by
  intro n
  induction n with
  | zero => exact ⟨0, Nat.le_refl _, by rw [ed_zero, ed_zero]; omega⟩
  | succ n ih =>
    obtain ⟨m, hm, h⟩ := ih
    have e := ed_succ a b n j
    rcases (by omega : ed a b (n + 1) (j + 1) = ed a b n (j + 1) + 1 ∨ ed a b (n + 1) (j + 1) = ed a b (n + 1) j + 1 ∨ ed a b (n + 1) (j + 1) = ed a b n j + unl a b n j) with h1 | h1 | h1
    · exact ⟨m, by omega, by omega⟩
    · exact ⟨n + 1, Nat.le_refl _, by omega⟩
    · exact ⟨n, by omega, by omega⟩
theorem ed_prefix (a b : List Int) (d : Nat) : ∀ j n, ∃ m, m ≤ n ∧ ed a b m j ≤ ed a b n (j + d) := by
  induction d with
  | zero => intro j n; exact ⟨n, Nat.le_refl _, Nat.le_refl _⟩
  | succ d ih =>
    intro j n
    obtain ⟨m, hm, h⟩ := ed_prefix1 a b (j + d) n
    obtain ⟨m', hm', h'⟩ := ih j m
    exact ⟨m', by omega, by rw [show j + (d + 1) = j + d + 1 by omega]; omega⟩
/-- The distance depends on what lies ahead of the places alone. -/
theorem ed_take (a b a' b' : List Int) : ∀ i j, (∀ t, t < i → a.getD t 0 = a'.getD t 0) → (∀ t, t < j → b.getD t 0 = b'.getD t 0) → ed a b i j = ed a' b' i j := by
  intro i
  induction i with
  | zero => intro j _ _; rw [ed_zero, ed_zero]
  | succ i ih =>
    intro j
    induction j with
    | zero => intro _ _; rw [ed_left, ed_left]
    | succ j jh =>
      intro h1 h2
      have e1 := ih (j + 1) (fun t ht => h1 t (by omega)) h2
      have e2 := jh h1 (fun t ht => h2 t (by omega))
      have e3 := ih j (fun t ht => h1 t (by omega)) (fun t ht => h2 t (by omega))
      have e4 : unl a b i j = unl a' b' i j := by unfold unl; rw [h1 i (by omega), h2 j (by omega)]
      rw [ed_succ, ed_succ, e1, e2, e3, e4]
/-! ### from the front -/
theorem specMin_eq (a b : Int) : spec_Min.f a b = some (min a b) := by
  unfold spec_Min.f
  split <;> (congr 1; omega)
theorem unlE_eq (a b : List Int) (i j : Nat) : impl_unlike.f (rd a (i : Int)) (rd b (j : Int)) = some ((unl a b i j : Nat) : Int) := by
  unfold impl_unlike.f unl
  rw [rd_nat, rd_nat]
  split <;> simp
def alignM (a b : List Int) : Int := if a.length ≤ 40 ∧ b.length ≤ 40 then ((ed a b a.length b.length : Nat) : Int) else -1
/-- A row of the costs; the table. -/
def rowE (a b : List Int) (i n : Nat) : List Int := (List.range n).map fun j => ((ed a b i j : Nat) : Int)
def rowsE (a b : List Int) (n : Nat) : List (List Int) := (List.range n).map fun i => rowE a b i (b.length + 1)
theorem rowsE_length (a b : List Int) (n : Nat) : (rowsE a b n).length = n := by simp [rowsE]
theorem rowE_length (a b : List Int) (i n : Nat) : (rowE a b i n).length = n := by simp [rowE]
theorem rowsE_at (a b : List Int) (n i : Nat) (h : i < n) : rd_L4 (rowsE a b n) (i : Int) = rowE a b i (b.length + 1) := by
  simp [rd_L4, rowsE, List.getD, h]
theorem implCosts_l1 (a b : List Int) (ha : a.length ≤ 40) (hb : b.length ≤ 40) (i : Nat) (hi : i ≤ a.length) {r : List (List Int)} (e : Ev (fun k => impl_costs.l0 k a b (rowsE a b (i + 1)) ((a.length + 1 : Nat) : Int) ((i + 1 : Nat) : Int)) r) (d : Nat) : ∀ j, j + d = b.length + 1 →
    Ev (fun k => impl_costs.l1 k a b (rowsE a b i) (i : Int) (rowE a b i j ++ List.replicate d 0) ((a.length + 1 : Nat) : Int) (i : Int) ((b.length + 1 : Nat) : Int) (j : Int)) r := by
  induction d with
  | zero =>
    intro j hj
    refine ev_tail ?_
    simp only [impl_costs.l1]
    refine ev_neg (by omega) (ev_pos (by rw [rowsE_length]; omega) ?_)
    rw [wrap_succ (by omega)]
    have : rowsE a b i ++ [rowE a b i j ++ List.replicate 0 0] = rowsE a b (i + 1) := by
      obtain rfl : j = b.length + 1 := by omega
      simp [rowsE, List.range_succ]
    rw [this]
    exact e
  | succ d ih =>
    intro j hj
    have e1 := ih (j + 1) (by omega)
    have wj : Aside0 (wrap64 ((j : Int) + 1) = ((j + 1 : Nat) : Int)) := ⟨wrap_succ (by omega)⟩
    have hlen : (rowE a b i j ++ List.replicate (d + 1) (0 : Int)).length = b.length + 1 := by simp [rowE]; omega
    have put : ∀ v : Int, v = ((ed a b i j : Nat) : Int) → (rowE a b i j ++ List.replicate (d + 1) 0).set ((j : Nat) : Int).toNat v = rowE a b i (j + 1) ++ List.replicate d 0 := fun v hv => row_set (fun j => ((ed a b i j : Nat) : Int)) j d v hv
    refine ev_tail ?_
    simp only [impl_costs.l1, hlen, wj.out]
    refine ev_pos (by omega) ?_
    by_cases hi0 : i = 0
    · subst hi0
      refine ev_pos (by omega) (ev_pos (by omega) (ev_pos (by omega) ?_))
      rw [put _ (by rw [ed_zero])]
      exact e1
    · refine ev_neg (by omega) ?_
      by_cases hj0 : j = 0
      · subst hj0
        refine ev_pos (by omega) (ev_pos (by omega) (ev_pos (by omega) ?_))
        rw [put _ (by rw [ed_left])]
        exact e1
      · refine ev_neg (by omega) ?_
        obtain ⟨i', rfl⟩ : ∃ m, i = m + 1 := ⟨i - 1, by omega⟩
        obtain ⟨j', rfl⟩ : ∃ m, j = m + 1 := ⟨j - 1, by omega⟩
        have wi : Aside0 (wrap64 (((i' + 1 : Nat) : Int) - 1) = (i' : Int)) := ⟨by rw [wrap_pred (by omega) (by omega)]; omega⟩
        have wj1 : Aside0 (wrap64 (((j' + 1 : Nat) : Int) - 1) = (j' : Int)) := ⟨by rw [wrap_pred (by omega) (by omega)]; omega⟩
        have hrow : Aside0 (rd_L4 (rowsE a b (i' + 1)) (i' : Int) = rowE a b i' (b.length + 1)) := ⟨rowsE_at a b (i' + 1) i' (by omega)⟩
        have r1 : Aside0 (rd (rowE a b i' (b.length + 1)) ((j' + 1 : Nat) : Int) = ((ed a b i' (j' + 1) : Nat) : Int)) := ⟨rd_map_range (fun j => ((ed a b i' j : Nat) : Int)) _ _ (by omega)⟩
        have r2 : Aside0 (rd (rowE a b (i' + 1) (j' + 1) ++ List.replicate (d + 1) 0) (j' : Int) = ((ed a b (i' + 1) j' : Nat) : Int)) := ⟨rd_row (fun j => ((ed a b (i' + 1) j : Nat) : Int)) _ _ _ (by omega)⟩
        have r3 : Aside0 (rd (rowE a b i' (b.length + 1)) (j' : Int) = ((ed a b i' j' : Nat) : Int)) := ⟨rd_map_range (fun j => ((ed a b i' j : Nat) : Int)) _ _ (by omega)⟩
        have b1 := ed_le a b i' (j' + 1)
        have b2 := ed_le a b (i' + 1) j'
        have b3 := ed_le a b i' j'
        have b4 := unl_le a b i' j'
        simp only [wi.out, wj1.out, hrow.out, r1.out, r2.out, r3.out, unlE_eq, Option.bind_some, rowE_length, rowsE_length]
        refine ev_pos (by omega) (ev_pos (by omega) (ev_pos (by omega) (ev_pos (by omega) (ev_pos (by omega) (ev_pos (by omega) (ev_pos (by omega) (ev_pos (by omega) (ev_pos (by omega) (ev_pos (by omega) ?_)))))))))
        rw [put _ (by rw [ed_succ, mn_eq, mn_eq, wrap_id (by omega) (by omega), wrap_id (by omega) (by omega), wrap_id (by omega) (by omega)]; omega)]
        exact e1
theorem implCosts_l0 (a b : List Int) (ha : a.length ≤ 40) (hb : b.length ≤ 40) (d : Nat) : ∀ i, i + d = a.length + 1 →
    Ev (fun k => impl_costs.l0 k a b (rowsE a b i) ((a.length + 1 : Nat) : Int) (i : Int)) (rowsE a b (a.length + 1)) := by
  induction d with
  | zero =>
    intro i hi
    obtain rfl : i = a.length + 1 := by omega
    refine ev_tail ?_
    simp only [impl_costs.l0]
    exact ev_neg (by omega) (Ev.now _)
  | succ d ih =>
    intro i hi
    refine ev_tail ?_
    have wb : Aside0 (wrap64 ((b.length : Int) + 1) = ((b.length + 1 : Nat) : Int)) := ⟨wrap_succ (by omega)⟩
    simp only [impl_costs.l0, wb.out, Option.bind_some, Int.toNat_natCast, List.length_replicate]
    refine ev_pos (by omega) (ev_pos (by omega) (ev_pos (by omega) ?_))
    exact implCosts_l1 a b ha hb i (by omega) (ih (i + 1) (by omega)) (b.length + 1) 0 (by omega)
theorem implCosts_ev (a b : List Int) (ha : a.length ≤ 40) (hb : b.length ≤ 40) : Ev (fun k => impl_costs.f k a b) (rowsE a b (a.length + 1)) := by
  simp only [impl_costs.f]
  rw [wrap_succ (by omega)]
  exact implCosts_l0 a b ha hb (a.length + 1) 0 (by omega)

theorem implAlignCost_ev (a b : List Int) : Ev (fun k => impl_AlignCost.f k a b) (alignM a b) := by
  simp only [impl_AlignCost.f, alignM]
  by_cases ha : a.length ≤ 40
  · refine ev_neg (by omega) ?_
    by_cases hb : b.length ≤ 40
    · rw [if_pos ⟨ha, hb⟩]
      refine ev_neg (by omega) (Ev.bind (implCosts_ev a b ha hb) ?_)
      have hrow : Aside0 (rd_L4 (rowsE a b (a.length + 1)) (a.length : Int) = rowE a b a.length (b.length + 1)) := ⟨rowsE_at a b (a.length + 1) a.length (by omega)⟩
      have r1 : Aside0 (rd (rowE a b a.length (b.length + 1)) ((b.length : Nat) : Int) = ((ed a b a.length b.length : Nat) : Int)) := ⟨rd_map_range (fun j => ((ed a b a.length j : Nat) : Int)) _ _ (by omega)⟩
      simp only [hrow.out, r1.out, rowsE_length, rowE_length]
      exact ev_pos (by omega) (ev_pos (by omega) (ev_pos (by omega) (ev_pos (by omega) (Ev.now _))))
    · rw [if_neg (by omega)]
      exact ev_pos (by omega) (Ev.now _)
  · rw [if_neg (by omega)]
    exact ev_pos (by omega) (Ev.now _)

def evOK (e : S35) : Bool := decide (0 ≤ e.f0 ∧ e.f0 ≤ 2000 ∧ 1 ≤ e.f1 ∧ e.f1 ≤ 96 ∧ 21 ≤ e.f2 ∧ e.f2 ≤ 108 ∧ 1 ≤ e.f3 ∧ e.f3 ≤ 4)
/-- In order: by At, then by Voice, then by Pitch. -/
def evLt (a b : S35) : Bool := decide (a.f0 < b.f0 ∨ (a.f0 = b.f0 ∧ (a.f3 < b.f3 ∨ (a.f3 = b.f3 ∧ a.f2 < b.f2))))
def scC (l : List S35) (i : Int) : Bool := evOK (rd_T35 l i) && (decide (i ≤ 0) || evLt (rd_T35 l (i - 1)) (rd_T35 l i))
def scoreM (l : List S35) : Bool := allF (scC l) (decide ((l.length : Int) ≤ 40)) l.length 0
theorem l8Ok_eq (e : S35) : spec_l8Ok.f e.f0 e.f1 e.f2 e.f3 = some (evOK e) := by
  simp only [spec_l8Ok.f, l1In_eq, Option.bind_some, evOK]
  by_cases h1 : 0 ≤ e.f0 ∧ e.f0 ≤ 2000 <;> by_cases h2 : 1 ≤ e.f1 ∧ e.f1 ≤ 96 <;> by_cases h3 : 21 ≤ e.f2 ∧ e.f2 ≤ 108 <;> simp [h1, h2, h3, and_assoc] <;> omega
theorem l8Before_eq (a b : S35) : spec_l8Before.f a.f0 a.f1 a.f2 a.f3 b.f0 b.f1 b.f2 b.f3 = some (evLt a b) := by
  simp only [spec_l8Before.f, evLt]
  by_cases h1 : a.f0 = b.f0
  · rw [if_pos h1]
    by_cases h2 : a.f3 = b.f3
    · rw [if_pos h2]; congr 1; exact decide_eq_decide.mpr (by omega)
    · rw [if_neg h2]; congr 1; exact decide_eq_decide.mpr (by omega)
  · rw [if_neg h1]; congr 1; exact decide_eq_decide.mpr (by omega)
theorem specIsScore_ev (l : List S35) (h : l.length ≤ 1048576) : Ev (fun k => spec_IsScore.f k l) (scoreM l) := by
  simp only [spec_IsScore.f]
  refine ev_all (L := fun k i => spec_IsScore.l0 k l i) (n := l.length) (fun i hi => ?_) ?_ l.length 0 (by omega)
  · have w1 : Aside0 (wrap64 ((i : Int) + 1) = (i : Int) + 1) := ⟨wrap_id (by omega) (by omega)⟩
    have w2 : Aside0 (wrap64 ((i : Int) - 1) = (i : Int) - 1) := ⟨wrap_id (by omega) (by omega)⟩
    constructor
    · intro hc r e
      simp only [scC, Bool.and_eq_true] at hc
      obtain ⟨h1, h2⟩ := hc
      refine ev_tail ?_
      simp only [spec_IsScore.l0, l8Ok_eq, l8Before_eq, Option.bind_some, w1.out, w2.out]
      refine ev_pos (by omega) (ev_pos (by omega) (ev_pos h1 (ev_ite (fun h0 => ?_) (fun _ => e))))
      rw [decide_eq_false (by omega), Bool.false_or] at h2
      exact ev_pos (by omega) (ev_pos (by omega) (ev_pos h2 e))
    · intro hc
      simp only [scC, Bool.and_eq_false_iff] at hc
      refine ev_tail ?_
      simp only [spec_IsScore.l0, l8Ok_eq, l8Before_eq, Option.bind_some, w1.out, w2.out]
      refine ev_pos (by omega) (ev_pos (by omega) (ev_ite (fun h1 => ?_) (fun _ => Ev.now _)))
      rcases hc with hc | hc
      · rw [hc] at h1; exact absurd h1 (by simp)
      · simp only [Bool.or_eq_false_iff, decide_eq_false_iff_not] at hc
        exact ev_pos (by omega) (ev_pos (by omega) (ev_pos (by omega) (ev_neg (by rw [hc.2]; simp) (Ev.now _))))
  · refine ev_tail ?_
    simp only [spec_IsScore.l0]
    exact ev_neg (by omega) (Ev.now _)
theorem cmp_eq (a b : Int) : cmp_Compare_int.f a b = some (if a < b then -1 else if a > b then 1 else 0) := by
  simp only [cmp_Compare_int.f, cmp_isNaN_int.f, Option.bind_some, bne_self_eq_false, Bool.false_eq_true, if_false]
  by_cases h1 : a < b
  · rw [if_pos h1, if_pos h1]
  · rw [if_neg h1, if_neg h1]
    by_cases h2 : a > b
    · rw [if_pos h2, if_pos h2]
    · rw [if_neg h2, if_neg h2]
theorem or_ev (a b c : Int) : Ev (fun k => cmp_Or_int.f k [a, b, c]) (if a = 0 then (if b = 0 then (if c = 0 then 0 else c) else b) else a) := by
  simp only [cmp_Or_int.f]
  have r0 : rd [a, b, c] 0 = a := rfl
  have r1 : rd [a, b, c] 1 = b := rfl
  have r2 : rd [a, b, c] 2 = c := rfl
  have w0 : wrap64 ((0 : Int) + 1) = 1 := by unfold wrap64; omega
  have w1 : wrap64 ((1 : Int) + 1) = 2 := by unfold wrap64; omega
  have w2 : wrap64 ((2 : Int) + 1) = 3 := by unfold wrap64; omega
  refine ev_tail ?_
  simp only [cmp_Or_int.l0, r0, w0]
  refine ev_pos (by simp) (ev_pos (by omega) (ev_pos (by simp) (ev_ite (fun h0 => ?_) (fun h0 => ?_))))
  · rw [if_pos h0]
    refine ev_tail ?_
    simp only [cmp_Or_int.l0, r1, w1]
    refine ev_pos (by simp) (ev_pos (by omega) (ev_pos (by simp) (ev_ite (fun h1 => ?_) (fun h1 => ?_))))
    · rw [if_pos h1]
      refine ev_tail ?_
      simp only [cmp_Or_int.l0, r2, w2]
      refine ev_pos (by simp) (ev_pos (by omega) (ev_pos (by simp) (ev_ite (fun h2 => ?_) (fun h2 => ?_))))
      · rw [if_pos h2]
        refine ev_tail ?_
        simp only [cmp_Or_int.l0]
        exact ev_neg (by simp) (Ev.now _)
      · rw [if_neg h2]; exact Ev.now _
    · rw [if_neg h1]; exact Ev.now _
  · rw [if_neg h0]; exact Ev.now _
theorem eventOrder_ev (a b : S35) : ∃ r, Ev (fun k => impl_eventOrder.f k a.f0 a.f1 a.f2 a.f3 b.f0 b.f1 b.f2 b.f3) r ∧ (evLt a b = true ↔ r < 0) := by
  simp only [impl_eventOrder.f, cmp_eq, Option.bind_some]
  refine ⟨_, Ev.bind (or_ev _ _ _) (Ev.now _), ?_⟩
  simp only [evLt, decide_eq_true_eq]
  repeat' split
  all_goals omega
theorem implIsScore_ev (l : List S35) (h : l.length ≤ 1048576) : Ev (fun k => impl_IsScore.f k l) (scoreM l) := by
  simp only [impl_IsScore.f]
  refine ev_all (L := fun k i => impl_IsScore.l0 k l l (l.length : Int) i) (n := l.length) (fun i hi => ?_) ?_ l.length 0 (by omega)
  · have w1 : Aside0 (wrap64 ((i : Int) + 1) = (i : Int) + 1) := ⟨wrap_id (by omega) (by omega)⟩
    have w2 : Aside0 (wrap64 ((i : Int) - 1) = (i : Int) - 1) := ⟨wrap_id (by omega) (by omega)⟩
    obtain ⟨q, hq, hl⟩ := eventOrder_ev (rd_T35 l ((i : Int) - 1)) (rd_T35 l (i : Int))
    constructor
    · intro hc r e
      simp only [scC, Bool.and_eq_true, evOK, decide_eq_true_eq] at hc
      obtain ⟨h1, h2⟩ := hc
      refine ev_tail ?_
      simp only [impl_IsScore.l0, InRange_eq, Option.bind_some, w1.out, w2.out]
      refine ev_pos (by omega) (ev_pos (by omega) (ev_pos (by omega) (ev_pos (by simp; omega) (ev_pos (by simp; omega) (ev_pos (by simp; omega) (ev_pos (by simp; omega) (ev_ite (fun h0 => ?_) (fun _ => e))))))))
      rw [decide_eq_false (by omega), Bool.false_or] at h2
      have := hl.mp h2
      exact ev_pos (by omega) (ev_pos (by omega) (Ev.bind hq (ev_neg (by omega) e)))
    · intro hc
      refine ev_tail ?_
      simp only [impl_IsScore.l0, InRange_eq, Option.bind_some, w1.out, w2.out]
      refine ev_pos (by omega) (ev_pos (by omega) (ev_pos (by omega) (ev_ite (fun h1 => ev_ite (fun h2 => ev_ite (fun h3 => ev_ite (fun h4 => ?_) (fun _ => Ev.now _)) (fun _ => Ev.now _)) (fun _ => Ev.now _)) (fun _ => Ev.now _))))
      simp only [decide_eq_true_eq] at h1 h2 h3 h4
      simp only [scC, Bool.and_eq_false_iff] at hc
      rcases hc with hc | hc
      · simp only [evOK, decide_eq_false_iff_not] at hc
        exact absurd ⟨h1.1, h1.2, h2.1, h2.2, h3.1, h3.2, h4.1, h4.2⟩ hc
      · simp only [Bool.or_eq_false_iff, decide_eq_false_iff_not] at hc
        have : ¬ q < 0 := fun hlt => by rw [hl.mpr hlt] at hc; exact absurd hc.2 (by simp)
        exact ev_pos (by omega) (ev_pos (by omega) (ev_pos (by omega) (Ev.bind hq (ev_pos (by omega) (Ev.now _)))))
  · refine ev_tail ?_
    simp only [impl_IsScore.l0]
    exact ev_neg (by omega) (Ev.now _)
/-- The events of one voice, in order. -/
def voiceM (l : List S35) (u : Int) : List S35 := l.filter fun e => !(e.f3 != u)
theorem voiceM_length (l : List S35) (u : Int) : (voiceM l u).length ≤ l.length := List.length_filter_le _ _
def voSt (l : List S35) (u : Int) (i : Int) (out : List S35) : List S35 := if (rd_T35 l i).f3 = u then out ++ [rd_T35 l i] else out
theorem voiceM_fold (l : List S35) (u : Int) : foldM (voSt l u) l.length 0 [] = voiceM l u := by
  have h := foldM_all (fun (x : S35) (s : List S35) => if x.f3 = u then s ++ [x] else s) z35 l []
  refine h.trans ?_
  have g : ∀ (t out : List S35), t.foldl (fun (s : List S35) x => if x.f3 = u then s ++ [x] else s) out = out ++ voiceM t u := by
    intro t
    induction t with
    | nil => intro out; simp [voiceM]
    | cons x t ih =>
      intro out
      rw [List.foldl_cons, ih]
      unfold voiceM
      by_cases hx : x.f3 = u
      · simp [hx]
      · simp [hx]
  rw [g, List.nil_append]
theorem specVoiceOf_ev (l : List S35) (u : Int) (h : l.length ≤ 1048576) : Ev (fun k => spec_VoiceOf.f k l u) (voiceM l u) := by
  simp only [spec_VoiceOf.f]
  rw [← voiceM_fold]
  refine ev_fold (L := fun k out i => spec_VoiceOf.l0 k l u out i) (st := voSt l u) (fin := id) (n := l.length) (s0 := 0) (fun i out => out.length ≤ i) (fun i out _ _ ho => ?_) (fun i out _ hi ho r e => ?_) (fun p _ => ?_) l.length 0 [] (by omega) (by omega) (by simp)
  · unfold voSt
    split
    · simp; omega
    · omega
  · refine ev_tail ?_
    simp only [spec_VoiceOf.l0]
    rw [wrap_id (n := (i : Int) + 1) (by omega) (by omega)]
    unfold voSt at e
    refine ev_pos (by omega) (ev_pos (by omega) (ev_ite (fun c => ev_pos (by omega) ?_) (fun c => ?_)))
    · rw [if_pos c] at e; exact e
    · rw [if_neg c] at e; exact e
  · refine ev_tail ?_
    simp only [spec_VoiceOf.l0]
    exact ev_neg (by omega) (Ev.now _)
theorem implVoiceOf_eq (l : List S35) (u : Int) (h : l.length ≤ 1048576) : impl_VoiceOf.f l u = some (voiceM l u) := by
  unfold impl_VoiceOf.f
  rw [if_pos (by omega)]
  rfl
/-- A voice as a target and its ticks. -/
def cueFM (l : List S35) (u : Int) : List Int × List Int × Bool := if scoreM l = true then ((voiceM l u).map (fun e => e.f2), (voiceM l u).map (fun e => e.f0), true) else ([], [], false)
theorem cueFM_length (l : List S35) (u : Int) : (cueFM l u).1.length ≤ l.length ∧ (cueFM l u).2.1.length ≤ l.length := by
  have := voiceM_length l u
  unfold cueFM
  split
  · simp only [List.length_map]; omega
  · simp
theorem specCue_l0 (suf : List S35) : ∀ (pre : List S35) (p a : List Int), (pre ++ suf).length ≤ 1048576 → p.length ≤ pre.length → a.length ≤ pre.length →
    Ev (fun k => spec_CueFrom.l0 k (pre ++ suf) (pre.length : Int) p a) (p ++ suf.map (fun e => e.f2), a ++ suf.map (fun e => e.f0), true) := by
  induction suf with
  | nil =>
    intro pre p a h hp ha
    refine ev_tail ?_
    simp only [spec_CueFrom.l0]
    exact ev_neg (by simp) (ev_eq (Ev.now _) (by simp))
  | cons x t ih =>
    intro pre p a h hp ha
    have e := ih (pre ++ [x]) (p ++ [x.f2]) (a ++ [x.f0]) (by simpa using h) (by simp; omega) (by simp; omega)
    simp only [List.length_append, List.length_cons] at h
    refine ev_tail ?_
    simp only [spec_CueFrom.l0]
    refine ev_pos (by simp; omega) (ev_pos (by omega) (ev_pos (by omega) (ev_pos (by omega) ?_)))
    rw [show rd_T35 (pre ++ x :: t) ((pre.length : Nat) : Int) = x from getD_mid pre x t _, wrap_succ (by omega), snoc_cons pre x t, ← length_snoc pre x]
    exact ev_eq e (by simp)
theorem specCueFrom_ev (l : List S35) (u : Int) (h : l.length ≤ 1048576) : Ev (fun k => spec_CueFrom.f k l u) (cueFM l u) := by
  have hv := voiceM_length l u
  simp only [spec_CueFrom.f, cueFM]
  refine Ev.bind (specIsScore_ev l h) (ev_ite (fun hs => ?_) (fun hs => ?_))
  · rw [if_pos hs]
    refine Ev.bind (specVoiceOf_ev l u h) ?_
    exact specCue_l0 (voiceM l u) [] [] [] (by simp; omega) (Nat.le_refl _) (Nat.le_refl _)
  · rw [if_neg hs]; exact Ev.now _
theorem implCue_l0 (suf : List S35) : ∀ (pre : List S35) (p a : List Int), (pre ++ suf).length ≤ 1048576 → p.length ≤ pre.length → a.length ≤ pre.length →
    Ev (fun k => impl_CueFrom.l0 k (pre ++ suf) ((pre ++ suf).length : Int) (pre.length : Int) p a) (p ++ suf.map (fun e => e.f2), a ++ suf.map (fun e => e.f0), true) := by
  induction suf with
  | nil =>
    intro pre p a h hp ha
    refine ev_tail ?_
    simp only [impl_CueFrom.l0]
    exact ev_neg (by simp) (ev_eq (Ev.now _) (by simp))
  | cons x t ih =>
    intro pre p a h hp ha
    have e := ih (pre ++ [x]) (p ++ [x.f2]) (a ++ [x.f0]) (by simpa using h) (by simp; omega) (by simp; omega)
    simp only [List.length_append, List.length_cons] at h
    refine ev_tail ?_
    simp only [impl_CueFrom.l0, Option.bind_some, List.length_cons, List.length_nil]
    refine ev_pos (by simp; omega) (ev_pos (by omega) (ev_pos (by simp; omega) (ev_pos (by omega) (ev_pos (by omega) ?_))))
    rw [show rd_T35 (pre ++ x :: t) ((pre.length : Nat) : Int) = x from getD_mid pre x t _, wrap_succ (by omega), snoc_cons pre x t, ← length_snoc pre x]
    exact ev_eq e (by simp)
theorem implCueFrom_ev (l : List S35) (u : Int) (h : l.length ≤ 1048576) : Ev (fun k => impl_CueFrom.f k l u) (cueFM l u) := by
  have hv := voiceM_length l u
  simp only [impl_CueFrom.f, cueFM]
  refine Ev.bind (implIsScore_ev l h) (ev_ite (fun hs => ?_) (fun hs => ?_))
  · rw [if_pos hs]
    refine ev_val (implVoiceOf_eq l u h) ?_
    exact implCue_l0 (voiceM l u) [] [] [] (by simp; omega) (Nat.le_refl _) (Nat.le_refl _)
  · rw [if_neg hs]; exact Ev.now _

def dueG (l : List S35) (v a b : Int) (i : Int) : Option S35 :=
  if (rd_T35 l i).f3 ≠ v ∧ (rd_T35 l i).f0 > a ∧ (rd_T35 l i).f0 ≤ b then some (rd_T35 l i) else none
def dueM (l : List S35) (v a b : Int) : List S35 := if scoreM l = true then colM (dueG l v a b) l.length 0 else []
theorem implDueEvents_ev (l : List S35) (v a b : Int) (h : l.length ≤ 1048576) : Ev (fun k => impl_DueEvents.f k l v a b) (dueM l v a b) := by
  simp only [impl_DueEvents.f, Option.bind_some, dueM]
  refine Ev.bind (implIsScore_ev l h) (ev_ite (fun hsc => ?_) (fun hsc => ?_))
  · rw [if_pos hsc]
    refine ev_col (L := fun k out i => impl_DueEvents.l0 k v a b out l (l.length : Int) i) (g := dueG l v a b) (fin := id) (n := l.length) (s := 0) (fun i out _ hi ho r e => ?_) (fun out => ?_) l.length 0 [] (by omega) (by omega) (by simp)
    · have w1 : Aside0 (wrap64 ((i : Int) + 1) = (i : Int) + 1) := ⟨wrap_id (by omega) (by omega)⟩
      refine ev_tail ?_
      simp only [impl_DueEvents.l0, w1.out]
      refine ev_pos (by omega) (ev_pos (by omega) (ev_pos (by omega) ?_))
      unfold dueG at e
      refine ev_ite (fun c1 => ?_) (fun c1 => ev_ite (fun c2 => ev_ite (fun c3 => ev_pos (by omega) ?_) (fun c3 => ?_)) (fun c2 => ?_))
      · rw [if_neg (fun z => z.1 c1)] at e; simpa using e
      · rw [if_pos ⟨c1, c2, c3⟩] at e; exact e
      · rw [if_neg (fun z => c3 z.2.2)] at e; simpa using e
      · rw [if_neg (fun z => c2 z.2.1)] at e; simpa using e
    · refine ev_tail ?_
      simp only [impl_DueEvents.l0]
      exact ev_neg (by omega) (Ev.now _)
  · rw [if_neg hsc]
    exact Ev.now _

theorem colM_len {α : Type} (g : Int → Option α) (d : Nat) : ∀ i, (colM g d i).length ≤ d := by
  induction d with
  | zero => intro i; simp [colM]
  | succ d ih =>
    intro i
    have h1 := ih (i + 1)
    have h2 := toList_le (g (i : Int))
    simp only [colM, List.length_append]
    omega

/-- 0, 1, .. -/
def countI (n : Nat) : List Int := (List.range n).map fun (j : Nat) => (j : Int)
theorem countI_succ (n : Nat) : countI (n + 1) = countI n ++ [(n : Int)] := by simp [countI, List.range_succ]
theorem countI_length (n : Nat) : (countI n).length = n := by simp [countI]
def startM (t : List Int) : List Int × Int × Bool := if t.length ≤ 40 then (countI (t.length + 1), 0, true) else ([], 0, false)
theorem specStart_l0 (t : List Int) (h : t.length ≤ 40) (d : Nat) : ∀ i, i + d = t.length + 1 → Ev (fun k => spec_StartFollower.l0 k t (i : Int) (countI i) 0) (countI (t.length + 1), 0, true) := by
  induction d with
  | zero =>
    intro i hi
    refine ev_tail ?_
    simp only [spec_StartFollower.l0]
    obtain rfl : i = t.length + 1 := by omega
    exact ev_neg (by omega) (Ev.now _)
  | succ d ih =>
    intro i hi
    have e := ih (i + 1) (by omega)
    refine ev_tail ?_
    simp only [spec_StartFollower.l0]
    refine ev_pos (by omega) (ev_pos (by rw [countI_length]; omega) ?_)
    rw [wrap_succ (by omega), ← countI_succ]
    exact e
theorem implStart_l0 (n : Nat) (h : n ≤ 41) (d : Nat) : ∀ i, i + d = n → Ev (fun k => impl_StartFollower.l0 k (n : Int) (i : Int) (countI i) 0) (countI n, 0, true) := by
  induction d with
  | zero =>
    intro i hi
    refine ev_tail ?_
    simp only [impl_StartFollower.l0]
    obtain rfl : i = n := by omega
    exact ev_neg (by omega) (Ev.now _)
  | succ d ih =>
    intro i hi
    have e := ih (i + 1) (by omega)
    refine ev_tail ?_
    simp only [impl_StartFollower.l0]
    refine ev_pos (by omega) (ev_pos (by rw [countI_length]; omega) ?_)
    rw [wrap_succ (by omega), ← countI_succ]
    exact e
theorem specStartFollower_ev (t : List Int) : Ev (fun k => spec_StartFollower.f k t) (startM t) := by
  simp only [spec_StartFollower.f, startM]
  by_cases h : t.length ≤ 40
  · rw [if_pos h]
    have e := specStart_l0 t h (t.length + 1) 0 (by omega)
    exact ev_neg (by omega) (by simpa [countI] using e)
  · rw [if_neg h]
    exact ev_pos (by omega) (Ev.now _)
theorem implStartFollower_ev (t : List Int) : Ev (fun k => impl_StartFollower.f k t) (startM t) := by
  simp only [impl_StartFollower.f, startM]
  by_cases h : t.length ≤ 40
  · rw [if_pos h]
    refine ev_neg (by omega) ?_
    rw [wrap_succ (by omega)]
    have e := implStart_l0 (t.length + 1) (by omega) (t.length + 1) 0 (by omega)
    simpa [countI] using e
  · rw [if_neg h]
    exact ev_pos (by omega) (Ev.now _)
theorem startM_length (t : List Int) : (startM t).1.length ≤ 41 := by
  unfold startM
  split
  · simp [countI_length]; omega
  · simp

def folC (l : List Int) (i : Int) : Bool := decide (0 ≤ rd l i ∧ rd l i ≤ 1000 ∧ (0 < i → -1 ≤ wrap64 (rd l i - rd l (i - 1)) ∧ wrap64 (rd l i - rd l (i - 1)) ≤ 1))
def folM (t l : List Int) (x : Int) : Bool := allF (folC l) (decide ((t.length : Int) ≤ 40 ∧ (l.length : Int) = (t.length : Int) + 1 ∧ 0 ≤ x ∧ x ≤ 1000)) l.length 0
theorem specIsFollower_ev (t l : List Int) (x : Int) (ht : t.length ≤ 1048576) (h : l.length ≤ 1048577) : Ev (fun k => spec_IsFollower.f k t l x) (folM t l x) := by
  simp only [spec_IsFollower.f]
  refine ev_all (L := fun k i => spec_IsFollower.l0 k t i l x) (n := l.length) (fun i hi => ?_) ?_ l.length 0 (by omega)
  · have w1 : wrap64 ((i : Int) + 1) = (i : Int) + 1 := wrap_id (by omega) (by omega)
    have w2 : wrap64 ((i : Int) - 1) = (i : Int) - 1 := wrap_id (by omega) (by omega)
    constructor
    · intro hc r e
      simp only [folC, decide_eq_true_eq] at hc
      obtain ⟨h1, h2, h5⟩ := hc
      refine ev_tail ?_
      simp only [spec_IsFollower.l0, l1In_eq, Option.bind_some, w1, w2]
      refine ev_pos (by omega) (ev_pos (by omega) (ev_pos (by simpa using ⟨h1, h2⟩) ?_))
      refine ev_ite (fun h0 => ?_) (fun _ => e)
      exact ev_pos (by omega) (ev_pos (by omega) (ev_pos (by simpa using h5 h0) e))
    · intro hc
      simp only [folC, decide_eq_false_iff_not] at hc
      refine ev_tail ?_
      simp only [spec_IsFollower.l0, l1In_eq, Option.bind_some, w1, w2]
      refine ev_pos (by omega) (ev_pos (by omega) (ev_ite (fun h1 => ?_) (fun _ => Ev.now _)))
      simp only [decide_eq_true_eq] at h1
      refine ev_ite (fun h0 => ?_) (fun h0 => absurd ⟨h1.1, h1.2, fun h => absurd h h0⟩ hc)
      refine ev_pos (by omega) (ev_pos (by omega) (ev_ite (fun h3 => ?_) (fun _ => Ev.now _)))
      simp only [decide_eq_true_eq] at h3
      exact absurd ⟨h1.1, h1.2, fun _ => h3⟩ hc
  · refine ev_tail ?_
    have w3 : wrap64 ((t.length : Int) + 1) = (t.length : Int) + 1 := wrap_id (by omega) (by omega)
    simp only [spec_IsFollower.l0, l1In_eq, Option.bind_some, w3]
    refine ev_neg (by omega) (ev_ite (fun h1 => ev_ite (fun h2 => ?_) (fun h2 => ?_)) (fun h1 => ?_))
    · simpa [h1, h2] using Ev.now _
    · simpa [h1, h2] using Ev.now _
    · simpa [h1] using Ev.now _
theorem implIsFollower_ev (t l : List Int) (x : Int) (ht : t.length ≤ 1048576) (h : l.length ≤ 1048577) : Ev (fun k => impl_IsFollower.f k t l x) (folM t l x) := by
  simp only [impl_IsFollower.f]
  refine ev_all (L := fun k i => impl_IsFollower.l0 k t l (l.length : Int) i l x) (n := l.length) (fun i hi => ?_) ?_ l.length 0 (by omega)
  · have w1 : wrap64 ((i : Int) + 1) = (i : Int) + 1 := wrap_id (by omega) (by omega)
    have w2 : wrap64 ((i : Int) - 1) = (i : Int) - 1 := wrap_id (by omega) (by omega)
    constructor
    · intro hc r e
      simp only [folC, decide_eq_true_eq] at hc
      obtain ⟨h1, h2, h5⟩ := hc
      refine ev_tail ?_
      simp only [impl_IsFollower.l0, InRange_eq, Option.bind_some, w1, w2]
      refine ev_pos (by omega) (ev_pos (by omega) (ev_pos (by omega) (ev_pos (by simpa using ⟨h1, h2⟩) ?_)))
      refine ev_ite (fun h0 => ?_) (fun _ => e)
      exact ev_pos (by omega) (ev_pos (by omega) (ev_pos (by simpa using h5 h0) e))
    · intro hc
      simp only [folC, decide_eq_false_iff_not] at hc
      refine ev_tail ?_
      simp only [impl_IsFollower.l0, InRange_eq, Option.bind_some, w1, w2]
      refine ev_pos (by omega) (ev_pos (by omega) (ev_pos (by omega) (ev_ite (fun h1 => ?_) (fun _ => Ev.now _))))
      simp only [decide_eq_true_eq] at h1
      refine ev_ite (fun h0 => ?_) (fun h0 => absurd ⟨h1.1, h1.2, fun h => absurd h h0⟩ hc)
      refine ev_pos (by omega) (ev_pos (by omega) (ev_ite (fun h3 => ?_) (fun _ => Ev.now _)))
      simp only [decide_eq_true_eq] at h3
      exact absurd ⟨h1.1, h1.2, fun _ => h3⟩ hc
  · refine ev_tail ?_
    have w3 : wrap64 ((t.length : Int) + 1) = (t.length : Int) + 1 := wrap_id (by omega) (by omega)
    simp only [impl_IsFollower.l0, InRange_eq, Option.bind_some, w3]
    refine ev_neg (by omega) (ev_ite (fun h1 => ev_ite (fun h2 => ?_) (fun h2 => ?_)) (fun h1 => ?_))
    · simpa [h1, h2] using Ev.now _
    · simpa [h1, h2] using Ev.now _
    · simpa [h1] using Ev.now _

/-- 0 for two like numbers, else 1. -/
def unl1 (x p : Int) : Int := if x = p then 0 else 1
theorem unl1_le (x p : Int) : 0 ≤ unl1 x p ∧ unl1 x p ≤ 1 := by unfold unl1; split <;> omega
theorem unlike_eq (x p : Int) : impl_unlike.f x p = some (unl1 x p) := by
  unfold impl_unlike.f unl1
  by_cases h : x = p <;> simp [h]
theorem l17Copy_eq (l : List Int) (x : Int) (h : l.length < 17592186044416) : spec_l17Copy.f l x = some (l, x) := by
  unfold spec_l17Copy.f
  simp [h]
theorem clone_eq (l : List Int) (h : l.length < 17592186044416) : impl_clone_int.f l = some l := by
  unfold impl_clone_int.f
  simp [h]

theorem rd_at (pre : List Int) (x : Int) (suf : List Int) {i : Int} (h : i = (pre.length : Int)) : rd (pre ++ x :: suf) i = x := by
  subst h; exact rd_mid pre x suf
theorem rd_at1 (pre : List Int) (d x : Int) (suf : List Int) {i : Int} (h : i = ((pre.length + 1 : Nat) : Int)) : rd (pre ++ d :: x :: suf) i = x := by
  rw [snoc_cons]; exact rd_at _ _ _ (by simp; omega)
theorem set_at1 (pre : List Int) (d x y : Int) (suf : List Int) {i : Int} (h : i = ((pre.length + 1 : Nat) : Int)) : (pre ++ d :: x :: suf).set i.toNat y = pre ++ d :: y :: suf := by
  subst h
  rw [snoc_cons]
  have e := set_mid (pre ++ [d]) x y suf
  rw [length_snoc] at e
  rw [e]; simp
def stepV (p x d o c : Int) : Int := min (min (c + 1) (o + 1)) (d + unl1 x p)
/-- The costs behind the first one, once a pitch is heard. -/
def folRow (p : Int) : List Int → Int → Int → List Int → List Int
  | x :: t, d, o, c :: cs => stepV p x d o c :: folRow p t c (stepV p x d o c) cs
  | _, _, _, _ => []
theorem folRow_length (p : Int) (t : List Int) : ∀ (d o : Int) (cs : List Int), cs.length = t.length → (folRow p t d o cs).length = cs.length := by
  induction t with
  | nil => intro d o cs h; cases cs with
    | nil => rfl
    | cons c cs => simp at h
  | cons x t ih =>
    intro d o cs h
    cases cs with
    | nil => simp at h
    | cons c cs => simp only [folRow, List.length_cons]; rw [ih _ _ _ (by simpa using h)]
def stepRow (t l : List Int) (x p : Int) : List Int × Int := match l with
  | [] => ([], x + 1)
  | c :: cs => ((c + 1) :: folRow p t c (c + 1) cs, x + 1)
def stepM (t l : List Int) (x p : Int) : List Int × Int := if folM t l x = true ∧ x ≤ 500 then stepRow t l x p else (l, x)
theorem folM_facts {t l : List Int} {x : Int} (h : folM t l x = true) : t.length ≤ 40 ∧ l.length = t.length + 1 ∧ 0 ≤ x ∧ x ≤ 1000 ∧ ∀ c ∈ l, 0 ≤ c ∧ c ≤ 1000 := by
  unfold folM at h
  rw [allF_iff] at h
  obtain ⟨h1, h2⟩ := h
  simp only [decide_eq_true_eq] at h1
  refine ⟨by omega, by omega, h1.2.2.1, h1.2.2.2, fun c hc => ?_⟩
  obtain ⟨j, hj, rfl⟩ := List.getElem_of_mem hc
  have h3 := h2 j (by omega) (by omega)
  simp only [folC, decide_eq_true_eq] at h3
  have e : rd l (j : Int) = l[j] := by rw [rd_nat, List.getD_eq_getElem?_getD, List.getElem?_eq_getElem hj, Option.getD_some]
  rw [e] at h3
  exact ⟨h3.1, h3.2.1⟩
theorem stepV_bound {p x d o c : Int} (hd : 0 ≤ d ∧ d ≤ 1001) (ho : 0 ≤ o ∧ o ≤ 1001) (hc : 0 ≤ c ∧ c ≤ 1000) : 0 ≤ stepV p x d o c ∧ stepV p x d o c ≤ 1001 := by
  have := unl1_le x p
  unfold stepV; omega
theorem implStep_l0 (p x h : Int) (ts : List Int) : ∀ (tp lp op cs : List Int) (d o : Int), tp.length = lp.length → op.length = lp.length → cs.length = ts.length → (tp ++ ts).length ≤ 40 → (0 ≤ d ∧ d ≤ 1000) → (0 ≤ o ∧ o ≤ 1001) → (∀ c ∈ cs, 0 ≤ c ∧ c ≤ 1000) →
    Ev (fun k => impl_StepFollower.l0 k p (tp ++ ts) ((tp ++ ts).length : Int) (tp.length : Int) (lp ++ d :: cs) x (op ++ o :: cs) h) (op ++ o :: folRow p ts d o cs, h) := by
  induction ts with
  | nil =>
    intro tp lp op cs d o h1 h2 h3 h4 _ _ _
    obtain rfl : cs = [] := List.length_eq_zero_iff.1 (by simpa using h3)
    refine ev_tail ?_
    simp only [impl_StepFollower.l0]
    exact ev_neg (by simp) (Ev.now _)
  | cons y t ih =>
    intro tp lp op cs d o h1 h2 h3 h4 hd ho hc
    cases cs with
    | nil => simp at h3
    | cons c cs =>
      have hcc := hc c (by simp)
      have hv := stepV_bound (p := p) (x := y) ⟨hd.1, by omega⟩ ho hcc
      have e := ih (tp ++ [y]) (lp ++ [d]) (op ++ [o]) cs c (stepV p y d o c) (by simp [h1]) (by simp [h2]) (by simpa using h3) (by simpa using h4) hcc hv (fun z hz => hc z (by simp [hz]))
      simp only [List.length_append, List.length_cons] at h4
      refine ev_tail ?_
      simp only [impl_StepFollower.l0]
      have w1 : Aside0 (wrap64 ((tp.length : Int) + 1) = ((tp.length + 1 : Nat) : Int)) := ⟨wrap_succ (by omega)⟩
      rw [w1.out]
      refine ev_pos (by simp; omega) (ev_pos (by omega) (ev_pos (by simp; omega) (ev_pos (by omega) (ev_pos (by simp; omega) (ev_pos (by simp; omega) (ev_pos (by simp; omega) (ev_val (unlike_eq _ _) (ev_pos (by simp; omega) ?_))))))))
      have r1 := rd_mid tp y t
      have r2 := rd_at1 lp d c cs (i := ((tp.length + 1 : Nat) : Int)) (by omega)
      have r3 := rd_at op o (c :: cs) (i := (tp.length : Int)) (by omega)
      have r4 := rd_at lp d (c :: cs) (i := (tp.length : Int)) (by omega)
      have u := unl1_le y p
      rw [r1, r2, r3, r4, set_at1 op o c _ cs (by omega)]
      have ev : mn (mn (wrap64 (c + 1)) (wrap64 (o + 1))) (wrap64 (d + unl1 y p)) = stepV p y d o c := by
        rw [wrap_id (by omega) (by omega), wrap_id (by omega) (by omega), wrap_id (by omega) (by omega), mn_eq, mn_eq]
        rfl
      rw [ev]
      simp only [folRow]
      have e2 := e
      simp only [List.append_assoc, List.singleton_append, length_snoc] at e2
      exact e2
theorem specStep_l0 (p x h : Int) (ts : List Int) : ∀ (tp lp op cs : List Int) (d o : Int), tp.length = lp.length → op.length = lp.length → cs.length = ts.length → (tp ++ ts).length ≤ 40 → (0 ≤ d ∧ d ≤ 1000) → (0 ≤ o ∧ o ≤ 1001) → (∀ c ∈ cs, 0 ≤ c ∧ c ≤ 1000) →
    Ev (fun k => spec_StepFollower.l0 k (tp ++ ts) p ((tp.length + 1 : Nat) : Int) (lp ++ d :: cs) x (op ++ o :: cs) h) (op ++ o :: folRow p ts d o cs, h) := by
  induction ts with
  | nil =>
    intro tp lp op cs d o h1 h2 h3 h4 _ _ _
    obtain rfl : cs = [] := List.length_eq_zero_iff.1 (by simpa using h3)
    refine ev_tail ?_
    simp only [spec_StepFollower.l0]
    exact ev_neg (by simp; omega) (Ev.now _)
  | cons y t ih =>
    intro tp lp op cs d o h1 h2 h3 h4 hd ho hc
    cases cs with
    | nil => simp at h3
    | cons c cs =>
      have hcc := hc c (by simp)
      have hv := stepV_bound (p := p) (x := y) ⟨hd.1, by omega⟩ ho hcc
      have e := ih (tp ++ [y]) (lp ++ [d]) (op ++ [o]) cs c (stepV p y d o c) (by simp [h1]) (by simp [h2]) (by simpa using h3) (by simpa using h4) hcc hv (fun z hz => hc z (by simp [hz]))
      simp only [List.length_append, List.length_cons] at h4
      refine ev_tail ?_
      simp only [spec_StepFollower.l0, specMin_eq, Option.bind_some]
      have w1 : Aside0 (wrap64 (((tp.length + 1 : Nat) : Int) - 1) = (tp.length : Int)) := ⟨by rw [wrap_pred (by omega) (by omega)]; simp⟩
      have w2 : Aside0 (wrap64 (((tp.length + 1 : Nat) : Int) + 1) = ((tp.length + 1 + 1 : Nat) : Int)) := ⟨wrap_succ (by omega)⟩
      rw [w1.out, w2.out]
      have r1 := rd_mid tp y t
      have r2 := rd_at1 lp d c cs (i := ((tp.length + 1 : Nat) : Int)) (by omega)
      have r3 := rd_at op o (c :: cs) (i := (tp.length : Int)) (by omega)
      have r4 := rd_at lp d (c :: cs) (i := (tp.length : Int)) (by omega)
      have hset : ∀ v, (op ++ o :: c :: cs).set (((tp.length + 1 : Nat) : Int)).toNat v = op ++ o :: v :: cs := fun v => set_at1 op o c v cs (by omega)
      refine ev_pos (by simp; omega) (ev_pos (by omega) (ev_pos (by simp; omega) (ev_pos (by simp; omega) ?_)))
      rw [r1, r2, r3, r4]
      simp only [hset]
      have fin : ∀ g : Nat → Option (List Int × Int), (∀ k, g k = spec_StepFollower.l0 k (tp ++ y :: t) p ((tp.length + 1 + 1 : Nat) : Int) (lp ++ d :: c :: cs) x (op ++ o :: stepV p y d o c :: cs) h) → Ev g (op ++ o :: folRow p (y :: t) d o (c :: cs), h) := by
        intro g hg
        have e' : Ev g ((op ++ [o]) ++ stepV p y d o c :: folRow p t c (stepV p y d o c) cs, h) := by
          have hg' : g = fun k => spec_StepFollower.l0 k ((tp ++ [y]) ++ t) p (((tp ++ [y]).length + 1 : Nat) : Int) ((lp ++ [d]) ++ c :: cs) x ((op ++ [o]) ++ stepV p y d o c :: cs) h := by
            funext k; rw [hg k]; simp
          rw [hg']; exact e
        refine ev_eq e' ?_
        simp [folRow]
      by_cases hy : y = p
      · refine ev_pos hy (ev_pos (by omega) (ev_pos (by simp; omega) (ev_pos (by simp; omega) ?_)))
        refine fin _ (fun k => ?_)
        have ev : min d (wrap64 (min c o + 1)) = stepV p y d o c := by
          rw [wrap_id (by omega) (by omega)]; unfold stepV unl1; rw [if_pos hy]; omega
        rw [ev]
      · refine ev_neg hy (ev_pos (by omega) (ev_pos (by simp; omega) (ev_pos (by simp; omega) ?_)))
        refine fin _ (fun k => ?_)
        have ev : min (wrap64 (d + 1)) (wrap64 (min c o + 1)) = stepV p y d o c := by
          rw [wrap_id (by omega) (by omega), wrap_id (by omega) (by omega)]; unfold stepV unl1; rw [if_neg hy]; omega
        rw [ev]
theorem stepRow_length {t l : List Int} {x p : Int} (h : l.length = t.length + 1) : (stepRow t l x p).1.length = l.length := by
  cases l with
  | nil => simp at h
  | cons c cs => simp only [stepRow, List.length_cons]; rw [folRow_length p t _ _ cs (by simpa using h)]
theorem stepM_length (t l : List Int) (x p : Int) : (stepM t l x p).1.length = l.length := by
  unfold stepM
  split
  · rename_i h; exact stepRow_length (folM_facts h.1).2.1
  · rfl
theorem specStep_j0 (t l : List Int) (x p : Int) (hf : folM t l x = true) (b : Bool) (hb : b = decide (x > 500)) : Ev (fun k => spec_StepFollower.j0 k t p b l x l x) (stepM t l x p) := by
  obtain ⟨h1, h2, h3, h4, h5⟩ := folM_facts hf
  refine ev_tail ?_
  simp only [spec_StepFollower.j0]
  by_cases h : x > 500
  · rw [stepM, if_neg (by omega)]
    exact ev_pos (by rw [hb]; simpa using h) (Ev.now _)
  · rw [stepM, if_pos ⟨hf, by omega⟩]
    refine ev_neg (by rw [hb]; simpa using h) ?_
    cases l with
    | nil => simp at h2
    | cons c cs =>
      have hc := h5 c (by simp)
      refine ev_pos (by simp only [List.length_cons]; omega) (ev_pos (by simp only [List.length_cons]; omega) ?_)
      have w1 : wrap64 (rd (c :: cs) 0 + 1) = c + 1 := by
        have : rd (c :: cs) 0 = c := rd_mid [] c cs
        rw [this, wrap_id (by omega) (by omega)]
      have w2 : wrap64 (x + 1) = x + 1 := wrap_id (by omega) (by omega)
      rw [w1, w2]
      exact specStep_l0 p x (x + 1) t [] [] [] cs c (c + 1) rfl rfl (by simpa using h2) (by simpa using h1) hc (by omega) (fun z hz => h5 z (by simp [hz]))
theorem implStep_j0 (t l : List Int) (x p : Int) (hf : folM t l x = true) (b : Bool) (hb : b = decide (x > 500)) : Ev (fun k => impl_StepFollower.j0 k t p b l x l x) (stepM t l x p) := by
  obtain ⟨h1, h2, h3, h4, h5⟩ := folM_facts hf
  refine ev_tail ?_
  simp only [impl_StepFollower.j0]
  by_cases h : x > 500
  · rw [stepM, if_neg (by omega)]
    exact ev_pos (by rw [hb]; simpa using h) (Ev.now _)
  · rw [stepM, if_pos ⟨hf, by omega⟩]
    refine ev_neg (by rw [hb]; simpa using h) ?_
    cases l with
    | nil => simp at h2
    | cons c cs =>
      have hc := h5 c (by simp)
      refine ev_pos (by simp only [List.length_cons]; omega) ?_
      have w1 : wrap64 (rd (c :: cs) 0 + 1) = c + 1 := by
        have : rd (c :: cs) 0 = c := rd_mid [] c cs
        rw [this, wrap_id (by omega) (by omega)]
      have w2 : wrap64 (x + 1) = x + 1 := wrap_id (by omega) (by omega)
      rw [w1, w2]
      exact implStep_l0 p x (x + 1) t [] [] [] cs c (c + 1) rfl rfl (by simpa using h2) (by simpa using h1) hc (by omega) (fun z hz => h5 z (by simp [hz]))
theorem specStepFollower_ev (t l : List Int) (x p : Int) (ht : t.length ≤ 1048576) (hl : l.length ≤ 1048577) : Ev (fun k => spec_StepFollower.f k t l x p) (stepM t l x p) := by
  simp only [spec_StepFollower.f, l17Copy_eq l x (by omega), Option.bind_some]
  refine Ev.bind (specIsFollower_ev t l x ht hl) ?_
  refine ev_ite (fun h => specStep_j0 t l x p h _ rfl) (fun h => ?_)
  refine ev_tail ?_
  simp only [spec_StepFollower.j0, if_true]
  rw [stepM, if_neg (fun z => h z.1)]
  exact Ev.now _
theorem implStepFollower_ev (t l : List Int) (x p : Int) (ht : t.length ≤ 1048576) (hl : l.length ≤ 1048577) : Ev (fun k => impl_StepFollower.f k t l x p) (stepM t l x p) := by
  simp only [impl_StepFollower.f, clone_eq l (by omega), Option.bind_some]
  refine Ev.bind (implIsFollower_ev t l x ht hl) ?_
  refine ev_ite (fun h => implStep_j0 t l x p h _ rfl) (fun h => ?_)
  refine ev_tail ?_
  simp only [impl_StepFollower.j0, if_true]
  rw [stepM, if_neg (fun z => h z.1)]
  exact Ev.now _

def hearM (t l : List Int) (x : Int) (ps : List Int) : List Int × Int := ps.foldl (fun s p => stepM t s.1 s.2 p) (l, x)
theorem hearM_length (t : List Int) (ps : List Int) : ∀ (l : List Int) (x : Int), (hearM t l x ps).1.length = l.length := by
  induction ps with
  | nil => intro l x; rfl
  | cons p ps ih =>
    intro l x
    have e := ih (stepM t l x p).1 (stepM t l x p).2
    rw [stepM_length] at e
    exact e
theorem specHear_l0 (t : List Int) (ht : t.length ≤ 1048576) (suf : List Int) : ∀ (pre l : List Int) (x : Int), (pre ++ suf).length ≤ 1048576 → l.length ≤ 1048577 → Ev (fun k => spec_HearAll.l0 k t (pre ++ suf) (pre.length : Int) l x) (hearM t l x suf) := by
  induction suf with
  | nil =>
    intro pre l x h hl
    refine ev_tail ?_
    simp only [spec_HearAll.l0]
    exact ev_neg (by simp) (Ev.now _)
  | cons p ps ih =>
    intro pre l x h hl
    have hs := stepM_length t l x p
    have e := ih (pre ++ [p]) (stepM t l x p).1 (stepM t l x p).2 (by simpa using h) (by omega)
    simp only [List.length_append, List.length_cons] at h
    refine ev_tail ?_
    simp only [spec_HearAll.l0]
    refine ev_pos (by simp; omega) (ev_pos (by omega) ?_)
    rw [rd_mid]
    refine Ev.bind (specStepFollower_ev t l x p ht hl) ?_
    rw [wrap_succ (by omega), snoc_cons pre p ps, ← length_snoc pre p]
    exact e
theorem specHearAll_ev (t l : List Int) (x : Int) (ps : List Int) (ht : t.length ≤ 1048576) (hl : l.length ≤ 1048577) (hp : ps.length ≤ 1048576) : Ev (fun k => spec_HearAll.f k t l x ps) (hearM t l x ps) := by
  simp only [spec_HearAll.f, l17Copy_eq l x (by omega), Option.bind_some]
  exact specHear_l0 t ht ps [] l x (by simpa using hp) hl
def cueC (l : List Int) (i : Int) : Bool := decide (0 ≤ rd l i ∧ rd l i ≤ 2000 ∧ (0 < i → rd l (i - 1) ≤ rd l i))
def cueM (t l : List Int) : Bool := allF (cueC l) (decide ((t.length : Int) ≤ 40) && ((l.length : Int) == (t.length : Int))) l.length 0
theorem implIsCue_ev (t l : List Int) (h : l.length ≤ 1048576) : Ev (fun k => impl_IsCue.f k t l) (cueM t l) := by
  simp only [impl_IsCue.f]
  refine ev_all (L := fun k i => impl_IsCue.l0 k l (l.length : Int) i t l) (n := l.length) (fun i hi => ?_) ?_ l.length 0 (by omega)
  · have w1 : wrap64 ((i : Int) + 1) = (i : Int) + 1 := wrap_id (by omega) (by omega)
    have w2 : wrap64 ((i : Int) - 1) = (i : Int) - 1 := wrap_id (by omega) (by omega)
    constructor
    · intro hc r e
      simp only [cueC, decide_eq_true_eq] at hc
      obtain ⟨h1, h2, h5⟩ := hc
      refine ev_tail ?_
      simp only [impl_IsCue.l0, InRange_eq, Option.bind_some, w1, w2]
      refine ev_pos (by omega) (ev_pos (by omega) (ev_pos (by omega) (ev_pos (by simpa using ⟨h1, h2⟩) ?_)))
      refine ev_ite (fun h0 => ?_) (fun _ => e)
      have := h5 h0
      exact ev_pos (by omega) (ev_pos (by omega) (ev_neg (by omega) e))
    · intro hc
      simp only [cueC, decide_eq_false_iff_not] at hc
      refine ev_tail ?_
      simp only [impl_IsCue.l0, InRange_eq, Option.bind_some, w1, w2]
      refine ev_pos (by omega) (ev_pos (by omega) (ev_pos (by omega) (ev_ite (fun h1 => ?_) (fun _ => Ev.now _))))
      simp only [decide_eq_true_eq] at h1
      refine ev_ite (fun h0 => ?_) (fun h0 => absurd ⟨h1.1, h1.2, fun h => absurd h h0⟩ hc)
      refine ev_pos (by omega) (ev_pos (by omega) (ev_ite (fun _ => Ev.now _) (fun h3 => ?_)))
      exact absurd ⟨h1.1, h1.2, fun _ => by omega⟩ hc
  · refine ev_tail ?_
    simp only [impl_IsCue.l0]
    refine ev_neg (by omega) (ev_ite (fun h => ?_) (fun h => ?_))
    · simpa [h] using Ev.now _
    · simpa [h] using Ev.now _

def aheadM (t l : List Int) (at0 reached : Int) : Bool := cueM t l && (decide (reached ≤ (l.length : Int)) && (decide (reached < 1) || decide (at0 > rd l (reached - 1))))
theorem implIsAhead_ev (t l : List Int) (at0 x y z reached : Int) (h : l.length ≤ 1048576) : Ev (fun k => impl_IsAhead.f k t l at0 x y z reached) (aheadM t l at0 reached) := by
  simp only [impl_IsAhead.f, aheadM]
  refine Ev.bind (implIsCue_ev t l h) (ev_ite (fun h1 => ev_ite (fun h2 => ?_) (fun h2 => ev_ite (fun h3 => ?_) (fun h3 => ?_))) (fun h1 => ?_))
  · exact ev_eq (Ev.now _) (by simp; omega)
  · exact ev_eq (Ev.now _) (by rw [h1]; simp; omega)
  · have hw : wrap64 (reached - 1) = reached - 1 := wrap_id (by omega) (by omega)
    rw [hw]
    exact ev_pos (by omega) (ev_pos (by omega) (ev_eq (Ev.now _) (by rw [h1, decide_eq_true (by omega : reached ≤ (l.length : Int)), decide_eq_false h3]; simp)))
  · exact ev_eq (Ev.now _) (by rw [Bool.eq_false_iff.mpr h1]; simp)

/-- The first and the last place of a cost that is small enough. -/
def sbGo (e : Int) : List Int → Int → Int × Int → Int × Int
  | [], _, s => s
  | c :: t, i, s => if c ≤ e then sbGo e t (i + 1) (if s.1 < 0 then i else s.1, i) else sbGo e t (i + 1) s
theorem implSurely_l0 (e : Int) (suf : List Int) : ∀ (pre : List Int) (a b : Int), (pre ++ suf).length ≤ 35184372088832 → Ev (fun k => impl_SurelyBetween.l0 k e a b (pre ++ suf) ((pre ++ suf).length : Int) (pre.length : Int)) (sbGo e suf (pre.length : Int) (a, b)) := by
  induction suf with
  | nil =>
    intro pre a b h
    refine ev_tail ?_
    simp only [impl_SurelyBetween.l0]
    exact ev_neg (by simp) (Ev.now _)
  | cons y t ih =>
    intro pre a b h
    have e1 := fun a' b' => ih (pre ++ [y]) a' b' (by simpa using h)
    simp only [List.length_append, List.length_cons] at h
    refine ev_tail ?_
    simp only [impl_SurelyBetween.l0, sbGo]
    refine ev_pos (by simp; omega) (ev_pos (by omega) (ev_pos (by simp; omega) ?_))
    rw [rd_mid, wrap_succ (by omega), snoc_cons pre y t, ← length_snoc pre y]
    refine ev_ite (fun hy => ?_) (fun hy => ?_)
    · rw [if_pos hy]
      refine ev_ite (fun h0 => ?_) (fun h0 => ?_)
      · rw [if_pos h0]; simpa using e1 _ _
      · rw [if_neg h0]; simpa using e1 _ _
    · rw [if_neg hy]; simpa using e1 _ _
def surelyM (l : List Int) (e : Int) : Int × Int := sbGo e l 0 (-1, -1)
theorem implSurely_ev (l : List Int) (x e : Int) (h : l.length ≤ 35184372088832) : Ev (fun k => impl_SurelyBetween.f k l x e) (surelyM l e) := by
  simp only [impl_SurelyBetween.f]
  exact implSurely_l0 e l [] _ _ (by simpa using h)

theorem sbGo_bd (e : Int) (suf : List Int) : ∀ (i : Int) (s : Int × Int), s.1 < i → (sbGo e suf i s).1 < i + suf.length := by
  induction suf with
  | nil => intro i s h; simpa [sbGo] using h
  | cons c t ih =>
    intro i s h
    simp only [sbGo]
    have h1 := ih (i + 1)
    simp only [List.length_cons]
    split
    · have := h1 (if s.1 < 0 then i else s.1, i) (by
        show (if s.1 < 0 then i else s.1) < i + 1
        split <;> omega)
      omega
    · have := h1 s (by omega)
      omega
theorem cueM_facts {t l : List Int} (h : cueM t l = true) : t.length ≤ 40 ∧ l.length = t.length ∧ ∀ j : Nat, j < l.length → cueC l (j : Int) = true := by
  unfold cueM at h
  rw [allF_iff] at h
  obtain ⟨h1, h2⟩ := h
  simp only [Bool.and_eq_true, decide_eq_true_eq, beq_iff_eq] at h1
  exact ⟨by omega, by omega, fun j hj => h2 j (by omega) (by omega)⟩
theorem folM_facts2 {t l : List Int} {x : Int} (h : folM t l x = true) : t.length ≤ 40 ∧ l.length = t.length + 1 ∧ 0 ≤ x ∧ x ≤ 1000 ∧ ∀ j : Nat, j < l.length → folC l (j : Int) = true := by
  unfold folM at h
  rw [allF_iff] at h
  obtain ⟨h1, h2⟩ := h
  simp only [decide_eq_true_eq] at h1
  exact ⟨by omega, by omega, by omega, by omega, fun j hj => h2 j (by omega) (by omega)⟩
def sureM (t l c : List Int) (x e : Int) : Int :=
  if cueM t l = true ∧ folM t c x = true ∧ 1 ≤ (surelyM c e).1 then rd l ((surelyM c e).1 - 1) else -1
theorem sure_idx {t l c : List Int} {x e : Int} (h1 : cueM t l = true) (h2 : folM t c x = true) : (surelyM c e).1 < (l.length : Int) + 1 := by
  obtain ⟨_, a, _⟩ := cueM_facts h1
  obtain ⟨_, b, _⟩ := folM_facts2 h2
  have := sbGo_bd e c 0 (-1, -1) (by show (-1 : Int) < 0; omega)
  unfold surelyM
  omega
theorem implSureTick_ev (t l c : List Int) (x e : Int) (ht : t.length ≤ 1048576) (hl : l.length ≤ 1048576) (hc : c.length ≤ 1048576) : Ev (fun k => impl_SureTick.f k t l c x e) (sureM t l c x e) := by
  simp only [impl_SureTick.f, sureM]
  refine Ev.bind (implSurely_ev c x e (by omega)) (ev_ite (fun h3 => ?_) (fun h3 => Ev.bind (implIsCue_ev t l hl) (ev_ite (fun h1 => Ev.bind (implIsFollower_ev t c x ht (by omega)) (ev_ite (fun h2 => ?_) (fun h2 => ?_))) (fun h1 => ?_))))
  · rw [if_neg (fun z => by omega)]; exact Ev.now _
  · have hi := sure_idx (e := e) h1 h2
    have hh : cueM t l = true ∧ folM t c x = true ∧ 1 ≤ (surelyM c e).1 := ⟨h1, h2, by omega⟩
    rw [if_pos hh]
    have w1 : Aside0 (wrap64 ((surelyM c e).1 - 1) = (surelyM c e).1 - 1) := ⟨wrap_id (by omega) (by omega)⟩
    simp only [w1.out]
    exact ev_pos (by omega) (ev_pos (by omega) (Ev.now _))
  · rw [if_neg (fun z => h2 z.2.1)]; exact Ev.now _
  · rw [if_neg (fun z => h1 z.1)]; exact Ev.now _

def playGo (t c : List Int) (e : Int) : List Int → Int → List Int × Int → Int
  | [], s, _ => s
  | p :: ps, s, f => playGo t c e ps (max s (sureM t c (stepM t f.1 f.2 p).1 (stepM t f.1 f.2 p).2 e)) (stepM t f.1 f.2 p)
def playM (l : List S35) (v : Int) (ps : List Int) (e : Int) : List S35 × Bool :=
  if (cueFM l v).2.2 = true ∧ (startM (cueFM l v).1).2.2 = true then (dueM l v (-1) (playGo (cueFM l v).1 (cueFM l v).2.1 e ps (-1) ((startM (cueFM l v).1).1, (startM (cueFM l v).1).2.1)), true) else ([], false)
theorem implPlay_l0 (l : List S35) (hl : l.length ≤ 1048576) (v e : Int) (t c : List Int) (ht : t.length ≤ 1048576) (hc : c.length ≤ 1048576) (suf : List Int) : ∀ (pre : List Int) (s : Int) (f : List Int × Int), (pre ++ suf).length ≤ 1048576 → f.1.length ≤ 41 →
    Ev (fun k => impl_PlayAlong.l0 k l v e s (pre ++ suf) ((pre ++ suf).length : Int) (pre.length : Int) t c f.1 f.2) (dueM l v (-1) (playGo t c e suf s f), true) := by
  induction suf with
  | nil =>
    intro pre s f h hf
    refine ev_tail ?_
    simp only [impl_PlayAlong.l0, playGo]
    exact ev_neg (by simp) (Ev.bind (implDueEvents_ev l v (-1) s hl) (Ev.now _))
  | cons p ps ih =>
    intro pre s f h hf
    have hs := stepM_length t f.1 f.2 p
    have e1 := ih (pre ++ [p]) (max s (sureM t c (stepM t f.1 f.2 p).1 (stepM t f.1 f.2 p).2 e)) (stepM t f.1 f.2 p) (by simpa using h) (by omega)
    simp only [List.length_append, List.length_cons] at h
    refine ev_tail ?_
    simp only [impl_PlayAlong.l0, playGo]
    refine ev_pos (by simp; omega) (ev_pos (by omega) (ev_pos (by simp; omega) ?_))
    rw [rd_mid, wrap_succ (by omega), snoc_cons pre p ps, ← length_snoc pre p]
    refine Ev.bind (implStepFollower_ev t f.1 f.2 p ht (by omega)) (Ev.bind (implSureTick_ev t c _ _ e ht hc (by omega)) ?_)
    rw [mx_eq]
    exact e1
theorem implPlayAlong_ev (l : List S35) (v : Int) (ps : List Int) (e : Int) (hl : l.length ≤ 1048576) (hp : ps.length ≤ 1048576) : Ev (fun k => impl_PlayAlong.f k l v ps e) (playM l v ps e) := by
  obtain ⟨h1, h2⟩ := cueFM_length l v
  have h3 := startM_length (cueFM l v).1
  simp only [impl_PlayAlong.f, playM]
  refine Ev.bind (implCueFrom_ev l v hl) (Ev.bind (implStartFollower_ev _) (ev_ite (fun a => ev_tail ?_) (fun a => ev_tail ?_)))
  · simp only [impl_PlayAlong.j0]
    refine ev_ite (fun b => ?_) (fun b => ?_)
    · rw [if_neg (fun z => by simp only [Bool.not_eq_true'] at b; rw [b] at z; exact absurd z.2 (by simp))]; exact Ev.now _
    · rw [if_pos ⟨a, by simpa using b⟩]
      exact implPlay_l0 l hl v e _ _ (by omega) (by omega) ps [] (-1) ((startM (cueFM l v).1).1, (startM (cueFM l v).1).2.1) (by simpa using hp) (by show (startM (cueFM l v).1).1.length ≤ 41; omega)
  · simp only [impl_PlayAlong.j0]
    rw [if_neg (fun z => a z.1)]
    exact ev_pos (by trivial) (Ev.now _)

/-! ### slips -/
def slP (n : Int) (x : S95) : Prop := 1 ≤ x.f0 ∧ x.f0 ≤ 3 ∧ 0 ≤ x.f1 ∧ x.f1 ≤ (if x.f0 = 3 then n else n - 1) ∧ 0 ≤ x.f2 ∧ x.f2 ≤ 127 ∧ (x.f0 = 2 → x.f2 = 0)
instance (n : Int) (x : S95) : Decidable (slP n x) := by unfold slP; exact inferInstance
def slC (l : List S95) (n : Int) (i : Int) : Bool := decide (slP n (rd_T95 l i) ∧ (0 < i → (rd_T95 l i).f1 < (rd_T95 l (i - 1)).f1))
def slipsM (l : List S95) (n : Int) : Bool := decide (0 ≤ n ∧ n ≤ 1000) && allF (slC l n) (decide ((l.length : Int) ≤ 8)) l.length 0
theorem specSl_j1 (l : List S95) (n m : Int) (i : Nat) (hi : i < l.length) (hl : l.length ≤ 1048576) (hm : m = if (rd_T95 l (i : Int)).f0 = 3 then n else n - 1) :
    (slC l n (i : Int) = true → ∀ r, Ev (fun k => spec_AreSlips.l0 k l n ((i : Int) + 1)) r → Ev (fun k => spec_AreSlips.j1 k l n (i : Int) m (rd_T95 l (i : Int)).f0 (rd_T95 l (i : Int)).f1 (rd_T95 l (i : Int)).f2) r) ∧
    (slC l n (i : Int) = false → Ev (fun k => spec_AreSlips.j1 k l n (i : Int) m (rd_T95 l (i : Int)).f0 (rd_T95 l (i : Int)).f1 (rd_T95 l (i : Int)).f2) false) := by
  have w1 : wrap64 ((i : Int) + 1) = (i : Int) + 1 := wrap_id (by omega) (by omega)
  have w2 : wrap64 ((i : Int) - 1) = (i : Int) - 1 := wrap_id (by omega) (by omega)
  constructor
  · intro hc r e
    simp only [slC, slP, decide_eq_true_eq, ← hm] at hc
    obtain ⟨⟨h1, h2, h3, h4, h5, h6, h7⟩, h8⟩ := hc
    refine ev_tail ?_
    simp only [spec_AreSlips.j1, l1In_eq, Option.bind_some, w1, w2]
    refine ev_pos (decide_eq_true ⟨h1, h2⟩) (ev_pos (decide_eq_true ⟨h3, h4⟩) (ev_pos (decide_eq_true ⟨h5, h6⟩) ?_))
    refine ev_ite (fun hk => ev_pos (h7 hk) ?_) (fun _ => ?_)
    all_goals exact ev_ite (fun h0 => ev_pos (by omega) (ev_pos (by omega) (ev_neg (by have := h8 h0; omega) e))) (fun _ => e)
  · intro hc
    simp only [slC, slP, decide_eq_false_iff_not, ← hm] at hc
    refine ev_tail ?_
    simp only [spec_AreSlips.j1, l1In_eq, Option.bind_some, w1, w2]
    refine ev_ite (fun a1 => ev_ite (fun a2 => ev_ite (fun a3 => ?_) (fun _ => Ev.now _)) (fun _ => Ev.now _)) (fun _ => Ev.now _)
    simp only [decide_eq_true_eq] at a1 a2 a3
    refine ev_ite (fun hk => ev_ite (fun h => ?_) (fun _ => Ev.now _)) (fun hk => ?_)
    · exact ev_ite (fun h0 => ev_pos (by omega) (ev_pos (by omega) (ev_ite (fun _ => Ev.now _) (fun h8 => absurd ⟨⟨a1.1, a1.2, a2.1, a2.2, a3.1, a3.2, fun _ => h⟩, fun _ => by omega⟩ hc)))) (fun h0 => absurd ⟨⟨a1.1, a1.2, a2.1, a2.2, a3.1, a3.2, fun _ => h⟩, fun z => absurd z h0⟩ hc)
    · exact ev_ite (fun h0 => ev_pos (by omega) (ev_pos (by omega) (ev_ite (fun _ => Ev.now _) (fun h8 => absurd ⟨⟨a1.1, a1.2, a2.1, a2.2, a3.1, a3.2, fun z => absurd z hk⟩, fun _ => by omega⟩ hc)))) (fun h0 => absurd ⟨⟨a1.1, a1.2, a2.1, a2.2, a3.1, a3.2, fun z => absurd z hk⟩, fun z => absurd z h0⟩ hc)
theorem specAreSlips_ev (l : List S95) (n : Int) (hl : l.length ≤ 1048576) : Ev (fun k => spec_AreSlips.f k l n) (slipsM l n) := by
  simp only [spec_AreSlips.f, l1In_eq, Option.bind_some, slipsM]
  refine ev_ite (fun hn => ?_) (fun hn => ev_eq (Ev.now _) (by simp only [Bool.not_eq_true] at hn; rw [hn, Bool.false_and]))
  rw [hn, Bool.true_and]
  simp only [decide_eq_true_eq] at hn
  refine ev_all (L := fun k i => spec_AreSlips.l0 k l n i) (n := l.length) (fun i hi => ?_) ?_ l.length 0 (by omega)
  · have w2 : wrap64 (n - 1) = n - 1 := wrap_id (by omega) (by omega)
    constructor
    · intro hc r e
      refine ev_tail ?_
      simp only [spec_AreSlips.l0, w2]
      exact ev_pos (by omega) (ev_pos (by omega) (ev_ite (fun h => (specSl_j1 l n n i hi hl (by rw [if_pos h])).1 hc r e) (fun h => (specSl_j1 l n (n - 1) i hi hl (by rw [if_neg h])).1 hc r e)))
    · intro hc
      refine ev_tail ?_
      simp only [spec_AreSlips.l0, w2]
      exact ev_pos (by omega) (ev_pos (by omega) (ev_ite (fun h => (specSl_j1 l n n i hi hl (by rw [if_pos h])).2 hc) (fun h => (specSl_j1 l n (n - 1) i hi hl (by rw [if_neg h])).2 hc)))
  · refine ev_tail ?_
    simp only [spec_AreSlips.l0]
    exact ev_neg (by omega) (Ev.now _)

/-! ### errors -/
theorem slips_facts {l : List S95} {n : Int} (h : slipsM l n = true) : 0 ≤ n ∧ n ≤ 1000 ∧ l.length ≤ 8 ∧ (∀ x ∈ l, slP n x) ∧ l.Pairwise (fun a b => b.f1 < a.f1) := by
  simp only [slipsM, Bool.and_eq_true, decide_eq_true_eq] at h
  obtain ⟨⟨h1, h2⟩, h3⟩ := h
  obtain ⟨h4, h5⟩ := (allF_iff _ _ _ _).1 h3
  simp only [decide_eq_true_eq] at h4
  have at_ : ∀ (j : Nat) (hj : j < l.length), rd_T95 l (j : Int) = l[j] := fun j hj => by simp [rd_T95, List.getD, hj]
  have hx : ∀ (j : Nat) (hj : j < l.length), slP n l[j] := fun j hj => by
    have := h5 j (Nat.zero_le _) (by omega)
    simp only [slC, decide_eq_true_eq] at this
    rw [← at_ j hj]; exact this.1
  have adj : ∀ (j : Nat) (hj : j + 1 < l.length), l[j + 1].f1 < l[j].f1 := fun j hj => by
    have := h5 (j + 1) (Nat.zero_le _) (by omega)
    simp only [slC, decide_eq_true_eq] at this
    have h6 := this.2 (by omega)
    rw [at_ (j + 1) hj, show ((j + 1 : Nat) : Int) - 1 = (j : Int) by omega, at_ j (by omega)] at h6
    exact h6
  have far : ∀ (d i : Nat) (hd : i + d + 1 < l.length), l[i + d + 1].f1 < l[i].f1 := by
    intro d
    induction d with
    | zero => intro i hd; exact adj i hd
    | succ d ih =>
      intro i hd
      have a1 := ih i (by omega)
      have a2 := adj (i + d + 1) (by omega)
      have : l[i + (d + 1) + 1].f1 < l[i + d + 1].f1 := a2
      omega
  refine ⟨h1, h2, by omega, fun x hm => ?_, List.pairwise_iff_getElem.2 (fun i j hi hj hij => ?_)⟩
  · obtain ⟨j, hj, rfl⟩ := List.getElem_of_mem hm
    exact hx j hj
  · obtain ⟨d, rfl⟩ : ∃ d, j = i + d + 1 := ⟨j - i - 1, by omega⟩
    exact far d i hj
def errStep (o : List Int) (x : S95) : List Int := if x.f0 = 1 then o.set x.f1.toNat x.f2 else if x.f0 = 2 then o.take x.f1.toNat ++ o.drop (x.f1.toNat + 1) else o.take x.f1.toNat ++ [x.f2] ++ o.drop x.f1.toNat
def errM (p : List Int) (l : List S95) : List Int × Bool := if slipsM l (p.length : Int) = true then (l.foldl errStep p, true) else (p, false)
/-- The place of a slip in what is there. -/
def slOk (x : S95) (n : Nat) : Prop := (1 ≤ x.f0 ∧ x.f0 ≤ 3 ∧ 0 ≤ x.f1) ∧ (x.f1 < (n : Int) ∨ x.f0 = 3 ∧ x.f1 ≤ (n : Int))
theorem errStep_len {o : List Int} {x : S95} (h : slOk x o.length) : x.f1 ≤ ((errStep o x).length : Int) ∧ (errStep o x).length ≤ o.length + 1 := by
  obtain ⟨⟨h1, h2, h3⟩, h4⟩ := h
  unfold errStep
  by_cases k1 : x.f0 = 1
  · rw [if_pos k1, List.length_set]; omega
  · rw [if_neg k1]
    by_cases k2 : x.f0 = 2
    · rw [if_pos k2]; simp only [List.length_append, List.length_take, List.length_drop]; omega
    · rw [if_neg k2]; simp only [List.length_append, List.length_take, List.length_drop, List.length_cons, List.length_nil]; omega
theorem slOk_next {o : List Int} {x : S95} {t : List S95} (hx : slOk x o.length) (hm : ∀ y ∈ x :: t, 1 ≤ y.f0 ∧ y.f0 ≤ 3 ∧ 0 ≤ y.f1) (hp : (x :: t).Pairwise (fun a b => b.f1 < a.f1)) : ∀ y, t.head? = some y → slOk y (errStep o x).length := by
  intro y hy
  have hyt : y ∈ t := List.mem_of_mem_head? hy
  have h1 := (List.pairwise_cons.1 hp).1 y hyt
  have h2 := (errStep_len hx).1
  exact ⟨hm y (List.mem_cons_of_mem _ hyt), .inl (by omega)⟩
theorem err_length (l : List S95) : ∀ o : List Int, (∀ y ∈ l, 1 ≤ y.f0 ∧ y.f0 ≤ 3 ∧ 0 ≤ y.f1) → l.Pairwise (fun a b => b.f1 < a.f1) → (∀ y, l.head? = some y → slOk y o.length) → (l.foldl errStep o).length ≤ o.length + l.length := by
  induction l with
  | nil => intro o _ _ _; simp
  | cons x t ih =>
    intro o hm hp hx
    have hx := hx x rfl
    have h1 := ih (errStep o x) (fun y hy => hm y (List.mem_cons_of_mem _ hy)) (List.pairwise_cons.1 hp).2 (slOk_next hx hm hp)
    have h2 := (errStep_len hx).2
    simp only [List.foldl_cons, List.length_cons]
    omega
theorem slips_head {l : List S95} {n : Nat} (h : slipsM l (n : Int) = true) : (∀ y ∈ l, 1 ≤ y.f0 ∧ y.f0 ≤ 3 ∧ 0 ≤ y.f1) ∧ l.Pairwise (fun a b => b.f1 < a.f1) ∧ (∀ y, l.head? = some y → slOk y n) := by
  obtain ⟨_, _, _, h1, h2⟩ := slips_facts h
  refine ⟨fun y hy => ⟨(h1 y hy).1, (h1 y hy).2.1, (h1 y hy).2.2.1⟩, h2, fun y hy => ?_⟩
  obtain ⟨a1, a2, a3, a4, _⟩ := h1 y (List.mem_of_mem_head? hy)
  refine ⟨⟨a1, a2, a3⟩, ?_⟩
  by_cases h3 : y.f0 = 3
  · rw [if_pos h3] at a4; exact .inr ⟨h3, a4⟩
  · rw [if_neg h3] at a4; exact .inl (by omega)
theorem errM_length (p : List Int) (l : List S95) : (errM p l).1.length ≤ p.length + 8 := by
  unfold errM
  split
  · rename_i h
    obtain ⟨h1, h2, h3⟩ := slips_head h
    have := err_length l p h1 h2 h3
    have := (slips_facts h).2.2.1
    show (l.foldl errStep p).length ≤ _
    omega
  · show p.length ≤ _; omega
theorem specErr_l0 (suf : List S95) : ∀ (pre : List S95) (o : List Int), (pre ++ suf).length ≤ 1048576 → o.length + suf.length ≤ 2097152 → (∀ y ∈ suf, 1 ≤ y.f0 ∧ y.f0 ≤ 3 ∧ 0 ≤ y.f1) → suf.Pairwise (fun a b => b.f1 < a.f1) → (∀ y, suf.head? = some y → slOk y o.length) →
    Ev (fun k => spec_ErrBy.l0 k (pre ++ suf) o (pre.length : Int)) (suf.foldl errStep o, true) := by
  induction suf with
  | nil =>
    intro pre o h _ _ _ _
    refine ev_tail ?_
    simp only [spec_ErrBy.l0]
    exact ev_neg (by simp) (Ev.now _)
  | cons x t ih =>
    intro pre o h ho hm hp hx
    have hx := hx x rfl
    have hlen := (errStep_len hx).2
    have e := ih (pre ++ [x]) (errStep o x) (by simpa using h) (by simp only [List.length_cons] at ho; omega) (fun y hy => hm y (List.mem_cons_of_mem _ hy)) (List.pairwise_cons.1 hp).2 (slOk_next hx hm hp)
    simp only [List.length_append, List.length_cons] at h ho
    obtain ⟨⟨h1, h2, h3⟩, h4⟩ := hx
    refine ev_tail ?_
    simp only [spec_ErrBy.l0]
    refine ev_pos (by simp; omega) (ev_pos (by omega) ?_)
    rw [show rd_T95 (pre ++ x :: t) ((pre.length : Nat) : Int) = x from getD_mid pre x t _, wrap_succ (by omega), snoc_cons pre x t, ← length_snoc pre x]
    have w : (wrap64 (x.f1 + 1)).toNat = x.f1.toNat + 1 := by rw [wrap_id (by omega) (by omega)]; omega
    refine ev_ite (fun k1 => ?_) (fun k1 => ev_ite (fun k2 => ?_) (fun k2 => ?_))
    · refine ev_pos h3 (ev_pos (by omega) ?_)
      rw [show errStep o x = o.set x.f1.toNat x.f2 by unfold errStep; rw [if_pos k1]] at e
      exact ev_eq e (by rw [List.foldl_cons, show errStep o x = o.set x.f1.toNat x.f2 by unfold errStep; rw [if_pos k1]])
    · have q : spec_cut.f o x.f1 = some (errStep o x) := by
        unfold spec_cut.f errStep
        rw [if_pos ⟨h3, by omega, by omega⟩, if_neg k1, if_pos k2, w]; simp
      exact ev_val q (ev_eq e rfl)
    · have q : spec_put.f o x.f1 x.f2 = some (errStep o x) := by
        unfold spec_put.f errStep
        rw [if_pos ⟨h3, by omega, by omega⟩, if_neg k1, if_neg k2]; simp
      exact ev_val q (ev_eq e rfl)
theorem specErrBy_ev (p : List Int) (l : List S95) (hp : p.length ≤ 1048576) (hl : l.length ≤ 1048576) : Ev (fun k => spec_ErrBy.f k p l) (errM p l) := by
  simp only [spec_ErrBy.f, Option.bind_some, List.length_nil, List.nil_append, errM]
  refine ev_pos (by omega) (Ev.bind (specAreSlips_ev l _ hl) (ev_ite (fun h => ?_) (fun h => ?_)))
  · rw [if_pos h]
    obtain ⟨h1, h2, h3⟩ := slips_head h
    exact specErr_l0 l [] p (by simpa using hl) (by omega) h1 h2 h3
  · rw [if_neg h]; exact Ev.now _

/-! ### draws -/
/-- Where a reader of draws stands: inside its bytes. -/
def Rd (b : List Int) (i : Int) : Prop := 0 ≤ i ∧ i ≤ (b.length : Int) ∧ b.length ≤ 1048576
theorem and255 (x : Int) : 0 ≤ Go.bits .and .i64 x 255 ∧ Go.bits .and .i64 x 255 ≤ 255 := by
  have h : (BitVec.ofInt IntKind.i64.bits x &&& BitVec.ofInt IntKind.i64.bits 255).toNat ≤ 255 := by
    rw [BitVec.toNat_and]; exact Nat.le_trans Nat.and_le_right (by decide)
  show 0 ≤ IntKind.i64.wrap ((BitVec.ofInt IntKind.i64.bits x &&& BitVec.ofInt IntKind.i64.bits 255).toNat : Int) ∧ IntKind.i64.wrap ((BitVec.ofInt IntKind.i64.bits x &&& BitVec.ofInt IntKind.i64.bits 255).toNat : Int) ≤ 255
  generalize (BitVec.ofInt IntKind.i64.bits x &&& BitVec.ofInt IntKind.i64.bits 255).toNat = n at h ⊢
  simp only [i64_w]
  rw [wrap_id (by omega) (by omega)]
  omega
theorem new_l0 (b : List Int) (hb : b.length ≤ 1048576) (d : Nat) : ∀ (i : Nat) (h : Int), i + d = b.length → ∃ h', Ev (fun k => spec_l1New.l0 k b h (i : Int)) (b, 0, h') := by
  induction d with
  | zero =>
    intro i h hi
    refine ⟨h, ev_tail ?_⟩
    simp only [spec_l1New.l0]
    exact ev_neg (by omega) (Ev.now _)
  | succ d ih =>
    intro i h hi
    by_cases h4 : (i : Int) < 4000
    · obtain ⟨h', e⟩ := ih (i + 1) (Go.bits .and .i64 (wrap64 ((wrap64 ((wrap64 (h * 137)) + (wrap64 (rd b (i : Int))))) + 11)) 1073741823) (by omega)
      refine ⟨h', ev_tail ?_⟩
      simp only [spec_l1New.l0]
      refine ev_pos (by omega) (ev_pos h4 (ev_pos (by omega) ?_))
      rw [wrap_succ (by omega)]
      exact e
    · refine ⟨h, ev_tail ?_⟩
      simp only [spec_l1New.l0]
      exact ev_pos (by omega) (ev_neg h4 (Ev.now _))
theorem new_ok (b : List Int) (hb : b.length ≤ 1048576) : ∃ h', Ev (fun k => spec_l1New.f k b) (b, 0, h') := by
  obtain ⟨h', e⟩ := new_l0 b hb b.length 0 (wrap64 (193017 + (b.length : Int))) (by omega)
  exact ⟨h', by simp only [spec_l1New.f]; exact e⟩
theorem Rd.zero {b : List Int} (hb : b.length ≤ 1048576) : Rd b 0 := ⟨by omega, by omega, hb⟩
theorem byte_ok {b : List Int} {i : Int} (h : Rd b i) (s : Int) : ∃ x i' s', spec_l1Byte.f b i s = some (x, i', s') ∧ (0 ≤ x ∧ x ≤ 255) ∧ Rd b i' := by
  obtain ⟨h1, h2, h3⟩ := h
  unfold spec_l1Byte.f
  by_cases c : i < (b.length : Int)
  · rw [if_pos c, if_pos h1]
    exact ⟨_, _, _, rfl, and255 _, by rw [wrap_id (by omega) (by omega)]; exact ⟨by omega, by omega, h3⟩⟩
  · rw [if_neg c]
    exact ⟨_, _, _, rfl, and255 _, h1, h2, h3⟩
theorem below_ok {b : List Int} {i : Int} (h : Rd b i) (s n : Int) : ∃ x i' s', spec_l1Below.f b i s n = some (x, i', s') ∧ (0 ≤ x ∧ (0 < n → x < n) ∧ (n ≤ 0 → x = 0)) ∧ Rd b i' := by
  unfold spec_l1Below.f
  by_cases c0 : n ≤ 0
  · rw [if_pos c0]
    exact ⟨_, _, _, rfl, ⟨by omega, fun z => by omega, fun _ => rfl⟩, h⟩
  · rw [if_neg c0]
    by_cases c1 : n ≤ 256
    · rw [if_pos c1]
      obtain ⟨x, i', s', e, hx, h'⟩ := byte_ok h s
      rw [e]
      simp only [Option.bind_some]
      rw [if_neg (by omega)]
      exact ⟨_, _, _, rfl, ⟨Int.tmod_nonneg _ hx.1, fun _ => Int.tmod_lt_of_pos _ (by omega), fun z => absurd z c0⟩, h'⟩
    · rw [if_neg c1]
      obtain ⟨x, i1, s1, e1, hx, h1⟩ := byte_ok h s
      obtain ⟨y, i2, s2, e2, hy, h2⟩ := byte_ok h1 s1
      obtain ⟨z, i3, s3, e3, hz, h3⟩ := byte_ok h2 s2
      rw [e1]
      simp only [Option.bind_some, e2, e3]
      rw [if_neg (by omega)]
      refine ⟨_, _, _, rfl, ⟨Int.tmod_nonneg _ ?_, fun _ => Int.tmod_lt_of_pos _ (by omega), fun z => absurd z c0⟩, h3⟩
      rw [wrap_id (n := x * 65536) (by omega) (by omega), wrap_id (n := y * 256) (by omega) (by omega), wrap_id (n := x * 65536 + y * 256) (by omega) (by omega), wrap_id (by omega) (by omega)]
      omega

theorem int_ok {b : List Int} {i : Int} (h : Rd b i) (s : Int) (l : List Int) (hl : 0 < l.length) : ∃ v i' s', spec_l1Int.f b i s l = some (v, i', s') ∧ v ∈ l ∧ Rd b i' := by
  obtain ⟨x, i', s', e, ⟨h0, h1, _⟩, h'⟩ := below_ok h s (l.length : Int)
  have h1 := h1 (by omega)
  unfold spec_l1Int.f
  rw [e]
  simp only [Option.bind_some]
  rw [if_pos h0, if_pos h1]
  refine ⟨_, _, _, rfl, ?_, h'⟩
  have hx : x.toNat < l.length := by omega
  have : rd l x = l[x.toNat] := by simp [rd, List.getD, hx]
  rw [this]
  exact List.getElem_mem hx

theorem once_ok {b : List Int} {i : Int} (h : Rd b i) (s n : Int) : ∃ c i' s', spec_l1Once.f b i s n = some (c, i', s') ∧ Rd b i' := by
  obtain ⟨x, i', s', e, _, h'⟩ := below_ok h s n
  unfold spec_l1Once.f
  rw [e]
  exact ⟨_, _, _, rfl, h'⟩

theorem big_ev (l : List Int) : laws_big.f l = some (decide ((l.length : Int) > 1048576)) := rfl

theorem l15Draw_j1 (n : Int) (out : List S95) (x : Int) (c : Bool) {b : List Int} {i : Int} (h : Rd b i) (s : Int) (ho : out.length ≤ 2000) {P : List S95 → Int → Int → Prop}
    (e : ∀ (o : List S95) {j : Int} (hj : Rd b j) (t : Int), o.length ≤ out.length + 1 → ∃ l i' s', Ev (fun k => spec_l15Draw.l0 k n o (wrap64 (x - 1)) b j t) (l, i', s') ∧ P l i' s') :
    ∃ l i' s', Ev (fun k => spec_l15Draw.j1 k n out x c b i s) (l, i', s') ∧ P l i' s' := by
  cases c with
  | true =>
    obtain ⟨l, i', s', e1, hp⟩ := e out h s (by omega)
    refine ⟨l, i', s', ev_tail ?_, hp⟩
    simp only [spec_l15Draw.j1]
    exact ev_pos (by trivial) e1
  | false =>
    obtain ⟨r, i1, s1, e1, _, h1⟩ := below_ok h s 3
    obtain ⟨p, i2, s2, e2, _, h2⟩ := below_ok h1 s1 6
    by_cases hx : x = n
    · obtain ⟨l, i', s', e3, hp⟩ := e (out ++ [⟨3, x, wrap64 (60 + p)⟩]) h2 s2 (by simp)
      refine ⟨l, i', s', ev_tail ?_, hp⟩
      simp only [spec_l15Draw.j1, e1, e2, Option.bind_some]
      exact ev_neg (by simp) (ev_pos hx (ev_neg (by omega) (ev_pos (by omega) e3)))
    · by_cases h2' : wrap64 (1 + r) = 2
      · obtain ⟨l, i', s', e3, hp⟩ := e (out ++ [⟨wrap64 (1 + r), x, 0⟩]) h2 s2 (by simp)
        refine ⟨l, i', s', ev_tail ?_, hp⟩
        simp only [spec_l15Draw.j1, e1, e2, Option.bind_some]
        exact ev_neg (by simp) (ev_neg hx (ev_pos h2' (ev_pos (by omega) e3)))
      · obtain ⟨l, i', s', e3, hp⟩ := e (out ++ [⟨wrap64 (1 + r), x, wrap64 (60 + p)⟩]) h2 s2 (by simp)
        refine ⟨l, i', s', ev_tail ?_, hp⟩
        simp only [spec_l15Draw.j1, e1, e2, Option.bind_some]
        exact ev_neg (by simp) (ev_neg hx (ev_neg h2' (ev_pos (by omega) e3)))
theorem l15Draw_l0 (n : Int) (d : Nat) : ∀ (out : List S95) {b : List Int} {i : Int} (h : Rd b i) (s : Int), out.length + d ≤ 1000 →
    ∃ l i' s', Ev (fun k => spec_l15Draw.l0 k n out ((d : Int) - 1) b i s) (l, i', s') ∧ l.length ≤ 1000 ∧ Rd b i' := by
  induction d with
  | zero =>
    intro out b i h s ho
    refine ⟨out, i, s, ev_tail ?_, by omega, h⟩
    simp only [spec_l15Draw.l0]
    exact ev_neg (by omega) (Ev.now _)
  | succ d ih =>
    intro out b i h s ho
    have e : ∀ (o : List S95) {j : Int} (hj : Rd b j) (t : Int), o.length ≤ out.length + 1 → ∃ l i' s', Ev (fun k => spec_l15Draw.l0 k n o (wrap64 ((((d + 1 : Nat) : Int) - 1) - 1)) b j t) (l, i', s') ∧ (l.length ≤ 1000 ∧ Rd b i') := by
      intro o j hj t hl
      rw [show wrap64 ((((d + 1 : Nat) : Int) - 1) - 1) = (d : Int) - 1 by rw [wrap_id (by omega) (by omega)]; omega]
      exact ih o hj t (by omega)
    obtain ⟨c, i1, s1, e1, h1⟩ := once_ok h s 4
    cases c with
    | true =>
      obtain ⟨l, i2, s2, e2, hl⟩ := l15Draw_j1 n out (((d + 1 : Nat) : Int) - 1) (decide ((out.length : Int) ≥ 8)) h1 s1 (by omega) (P := fun l i' _ => l.length ≤ 1000 ∧ Rd b i') e
      refine ⟨l, i2, s2, ev_tail ?_, hl⟩
      simp only [spec_l15Draw.l0, e1, Option.bind_some]
      exact ev_pos (by omega) (ev_pos (by trivial) e2)
    | false =>
      obtain ⟨l, i2, s2, e2, hl⟩ := l15Draw_j1 n out (((d + 1 : Nat) : Int) - 1) true h1 s1 (by omega) (P := fun l i' _ => l.length ≤ 1000 ∧ Rd b i') e
      refine ⟨l, i2, s2, ev_tail ?_, hl⟩
      simp only [spec_l15Draw.l0, e1, Option.bind_some]
      exact ev_pos (by omega) (ev_neg (by simp) e2)
theorem l15Draw_ok {b : List Int} {i : Int} (h : Rd b i) (s n : Int) (h0 : 0 ≤ n) (hn : n ≤ 40) : ∃ l i' s', Ev (fun k => spec_l15Draw.f k b i s n) (l, i', s') ∧ l.length ≤ 1000 ∧ Rd b i' := by
  simp only [spec_l15Draw.f]
  have e := l15Draw_l0 n (n.toNat + 1) [] h s (by simp; omega)
  rw [show (((n.toNat + 1 : Nat) : Int) - 1) = n by omega] at e
  exact e

/-! ### an event put into a list -/
def insEv : List S35 → S35 → List S35
  | [], e => [e]
  | x :: t, e => if evLt x e = true then x :: insEv t e else e :: x :: t
theorem insEv_length (l : List S35) (e : S35) : (insEv l e).length = l.length + 1 := by
  induction l with
  | nil => rfl
  | cons x t ih =>
    simp only [insEv]
    split
    · simp [ih]
    · simp
theorem put_l0 (e : S35) (suf : List S35) : ∀ pre : List S35, (pre ++ suf).length ≤ 1048576 → Ev (fun k => spec_l8Put.l0 k (pre ++ suf) (pre.length : Int) e.f0 e.f1 e.f2 e.f3) (pre ++ insEv suf e) := by
  induction suf with
  | nil =>
    intro pre h
    refine ev_tail ?_
    simp only [spec_l8Put.l0, Option.bind_some, List.append_nil, Int.toNat_natCast, List.nil_append, List.length_nil, List.length_append, List.length_cons, List.length_drop, List.length_take]
    simp only [List.append_nil] at h
    refine ev_neg (by omega) (ev_pos (by omega) (ev_pos (by omega) (ev_pos (by omega) (ev_pos (by omega) (ev_pos (by omega) ?_)))))
    exact ev_eq (Ev.now _) (by simp [insEv])
  | cons x t ih =>
    intro pre h
    have hlen : pre.length + (t.length + 1) ≤ 1048576 := by simpa using h
    have hr : rd_T35 (pre ++ x :: t) ((pre.length : Nat) : Int) = x := getD_mid pre x t _
    refine ev_tail ?_
    simp only [spec_l8Put.l0, hr, l8Before_eq, Option.bind_some, List.nil_append]
    refine ev_pos (by simp; omega) (ev_pos (by omega) (ev_ite (fun hlt => ?_) (fun hlt => ?_)))
    · have e1 := ih (pre ++ [x]) (by simpa using h)
      rw [wrap_succ (by omega), snoc_cons pre x t, ← length_snoc pre x]
      exact ev_eq e1 (by simp [insEv, hlt])
    · simp only [Int.toNat_natCast, List.length_nil, List.length_append, List.length_cons, List.length_drop, List.length_take]
      refine ev_pos (by omega) (ev_pos (by omega) (ev_pos (by omega) (ev_pos (by omega) ?_)))
      exact ev_eq (Ev.now _) (by simp only [insEv]; rw [if_neg hlt]; simp)
def putEv (l : List S35) (e : S35) : List S35 × Bool := if scoreM (insEv l e) = true then (insEv l e, true) else (l, false)
theorem putEv_length (l : List S35) (e : S35) : (putEv l e).1.length ≤ l.length + 1 := by
  have := insEv_length l e
  unfold putEv
  split
  · show (insEv l e).length ≤ _; omega
  · show l.length ≤ _; omega
theorem putEvent_ev (l : List S35) (e : S35) (h : l.length ≤ 1000000) : Ev (fun k => spec_PutEvent.f k l e.f0 e.f1 e.f2 e.f3) (putEv l e) := by
  have hl := insEv_length l e
  simp only [spec_PutEvent.f, spec_l8Put.f, Option.bind_some, List.nil_append, List.length_nil, putEv]
  refine Ev.bind (put_l0 e l [] (by simp; omega)) (Ev.bind (specIsScore_ev _ (by simp; omega)) (ev_ite (fun hs => ?_) (fun hs => ev_pos (by omega) ?_)))
  · simp only [List.nil_append] at hs ⊢
    rw [if_pos hs]; exact Ev.now _
  · simp only [List.nil_append] at hs ⊢
    rw [if_neg hs]; exact Ev.now _

theorem l8Tune_l0 (v : Int) (d : Nat) : ∀ (out : List S35) (at_ : Int) {b : List Int} {i : Int} (h : Rd b i) (s : Int), out.length + d ≤ 20 →
    ∃ l i' s', Ev (fun k => spec_l8Tune.l0 k v out at_ (d : Int) b i s) (l, i', s') ∧ l.length ≤ 20 ∧ Rd b i' := by
  induction d with
  | zero =>
    intro out at_ b i h s ho
    refine ⟨out, i, s, ev_tail ?_, by omega, h⟩
    simp only [spec_l8Tune.l0]
    exact ev_neg (by omega) (Ev.now _)
  | succ d ih =>
    intro out at_ b i h s ho
    obtain ⟨u, i1, s1, e1, _, h1⟩ := below_ok h s 3
    obtain ⟨p, i2, s2, e2, _, h2⟩ := below_ok h1 s1 8
    obtain ⟨c, i3, s3, e3, h3⟩ := once_ok h2 s2 5
    have ep := putEvent_ev out ⟨at_, wrap64 (6 * (wrap64 (1 + u))), wrap64 (60 + p), v⟩ (by omega)
    have hp := putEv_length out ⟨at_, wrap64 (6 * (wrap64 (1 + u))), wrap64 (60 + p), v⟩
    generalize hq : putEv out ⟨at_, wrap64 (6 * (wrap64 (1 + u))), wrap64 (60 + p), v⟩ = q at ep hp
    have wd : wrap64 (((d + 1 : Nat) : Int) - 1) = (d : Int) := by rw [wrap_id (by omega) (by omega)]; omega
    cases c with
    | true =>
      obtain ⟨l, i4, s4, e4, hl, h4⟩ := ih q.1 (wrap64 ((wrap64 (at_ + (wrap64 (6 * (wrap64 (1 + u)))))) + 12)) h3 s3 (by omega)
      refine ⟨l, i4, s4, ev_tail ?_, hl, h4⟩
      simp only [spec_l8Tune.l0, e1, e2, e3, Option.bind_some, wd]
      exact ev_pos (by omega) (ev_pos (by trivial) (Ev.bind ep e4))
    | false =>
      obtain ⟨l, i4, s4, e4, hl, h4⟩ := ih q.1 (wrap64 (at_ + (wrap64 (6 * (wrap64 (1 + u)))))) h3 s3 (by omega)
      refine ⟨l, i4, s4, ev_tail ?_, hl, h4⟩
      simp only [spec_l8Tune.l0, e1, e2, e3, Option.bind_some, wd]
      exact ev_pos (by omega) (ev_neg (by simp) (Ev.bind ep e4))
theorem l8Tune_ok {b : List Int} {i : Int} (h : Rd b i) (s v n : Int) (h0 : 0 < n) (hn : n ≤ 20) : ∃ l i' s', Ev (fun k => spec_l8Tune.f k b i s v n) (l, i', s') ∧ l.length ≤ 20 ∧ Rd b i' := by
  obtain ⟨x, i1, s1, e1, ⟨x0, x1, _⟩, h1⟩ := below_ok h s n
  have x1 := x1 h0
  obtain ⟨l, i2, s2, e2, hl, h2⟩ := l8Tune_l0 v x.toNat [] 0 h1 s1 (by simp; omega)
  rw [show ((x.toNat : Nat) : Int) = x by omega] at e2
  refine ⟨l, i2, s2, ?_, hl, h2⟩
  simp only [spec_l8Tune.f, e1, Option.bind_some]
  exact e2
theorem l13Score_l0 {b : List Int} {i : Int} (h : Rd b i) (s : Int) (suf : List S35) : ∀ (pre out : List S35), (pre ++ suf).length ≤ 20 → out.length ≤ 20 + pre.length →
    ∃ l, Ev (fun k => spec_l13Score.l0 k out (pre ++ suf) (pre.length : Int) b i s) (l, i, s) ∧ l.length ≤ 40 := by
  induction suf with
  | nil =>
    intro pre out hl ho
    simp only [List.append_nil] at hl ⊢
    refine ⟨out, ev_tail ?_, by omega⟩
    simp only [spec_l13Score.l0]
    exact ev_neg (by omega) (Ev.now _)
  | cons x t ih =>
    intro pre out hl ho
    have ep := putEvent_ev out x (by simp at hl; omega)
    have hp := putEv_length out x
    generalize hq : putEv out x = q at ep hp
    obtain ⟨l, e, h4⟩ := ih (pre ++ [x]) q.1 (by simpa using hl) (by simp; omega)
    refine ⟨l, ev_tail ?_, h4⟩
    have hr : rd_T35 (pre ++ x :: t) ((pre.length : Nat) : Int) = x := getD_mid pre x t _
    simp only [spec_l13Score.l0, hr]
    simp only [List.length_append, List.length_cons] at hl
    refine ev_pos (by simp; omega) (ev_pos (by omega) (Ev.bind ep ?_))
    rw [wrap_succ (by omega), snoc_cons pre x t, ← length_snoc pre x]
    exact e
theorem l13Score_ok {b : List Int} {i : Int} (h : Rd b i) (s : Int) : ∃ l i' s', Ev (fun k => spec_l13Score.f k b i s) (l, i', s') ∧ l.length ≤ 40 ∧ Rd b i' := by
  obtain ⟨u, i1, s1, e1, hu, h1⟩ := l8Tune_ok h s 1 9 (by omega) (by omega)
  obtain ⟨v, i2, s2, e2, hv, h2⟩ := l8Tune_ok h1 s1 2 9 (by omega) (by omega)
  obtain ⟨l, e3, hl⟩ := l13Score_l0 h2 s2 v [] u (by simpa using hv) (by simpa using hu)
  refine ⟨l, i2, s2, ?_, hl, h2⟩
  simp only [spec_l13Score.f]
  exact Ev.bind e1 (Ev.bind e2 e3)
theorem l8Event_ok {b : List Int} {i : Int} (h : Rd b i) (s : Int) : ∃ x y z v i' s', spec_l8Event.f b i s = some (x, y, z, v, i', s') ∧ Rd b i' := by
  obtain ⟨x, i1, s1, e1, _, h1⟩ := below_ok h s 20
  obtain ⟨y, i2, s2, e2, _, h2⟩ := below_ok h1 s1 10
  obtain ⟨z, i3, s3, e3, _, h3⟩ := below_ok h2 s2 18
  obtain ⟨v, i4, s4, e4, _, h4⟩ := below_ok h3 s3 3
  unfold spec_l8Event.f
  simp only [e1, e2, e3, e4, Option.bind_some]
  exact ⟨_, _, _, _, _, _, rfl, h4⟩
theorem l8Draw_l0 (d : Nat) : ∀ (out : List S35) {b : List Int} {i : Int} (h : Rd b i) (s : Int), out.length + d ≤ 20 →
    ∃ l i' s', Ev (fun k => spec_l8Draw.l0 k out (d : Int) b i s) (l, i', s') ∧ l.length ≤ 20 ∧ Rd b i' := by
  induction d with
  | zero =>
    intro out b i h s ho
    refine ⟨out, i, s, ev_tail ?_, by omega, h⟩
    simp only [spec_l8Draw.l0]
    exact ev_neg (by omega) (Ev.now _)
  | succ d ih =>
    intro out b i h s ho
    obtain ⟨x, y, z, v, i1, s1, e1, h1⟩ := l8Event_ok h s
    have ep := putEvent_ev out ⟨x, y, z, v⟩ (by omega)
    have hp := putEv_length out ⟨x, y, z, v⟩
    generalize putEv out ⟨x, y, z, v⟩ = q at ep hp
    obtain ⟨l, i2, s2, e2, hl, h2⟩ := ih q.1 h1 s1 (by omega)
    refine ⟨l, i2, s2, ev_tail ?_, hl, h2⟩
    simp only [spec_l8Draw.l0, e1, Option.bind_some]
    refine ev_pos (by omega) (Ev.bind ep ?_)
    rw [show wrap64 (((d + 1 : Nat) : Int) - 1) = (d : Int) by rw [wrap_id (by omega) (by omega)]; omega]
    exact e2
theorem l8Draw_ok {b : List Int} {i : Int} (h : Rd b i) (s : Int) : ∃ l i' s', Ev (fun k => spec_l8Draw.f k b i s) (l, i', s') ∧ l.length ≤ 20 ∧ Rd b i' := by
  obtain ⟨n, i1, s1, e1, ⟨n0, n1, _⟩, h1⟩ := below_ok h s 13
  have n1 := n1 (by omega)
  obtain ⟨l, i2, s2, e2, hl, h2⟩ := l8Draw_l0 n.toNat [] h1 s1 (by simp; omega)
  rw [show ((n.toNat : Nat) : Int) = n by omega] at e2
  refine ⟨l, i2, s2, ?_, hl, h2⟩
  simp only [spec_l8Draw.f, e1, Option.bind_some]
  exact e2
theorem l8Any_ok {b : List Int} {i : Int} (h : Rd b i) (s : Int) : ∃ l i' s', Ev (fun k => spec_l8Any.f k b i s) (l, i', s') ∧ l.length ≤ 40 ∧ Rd b i' := by
  obtain ⟨l, i1, s1, e1, hl, h1⟩ := l8Draw_ok h s
  by_cases c0 : (l.length : Int) = 0
  · refine ⟨l, i1, s1, ?_, by omega, h1⟩
    simp only [spec_l8Any.f]
    exact Ev.bind e1 (ev_pos c0 (Ev.now _))
  obtain ⟨x, i2, s2, e2, ⟨x0, x1, _⟩, h2⟩ := below_ok h1 s1 (l.length : Int)
  have x1 := x1 (by omega)
  obtain ⟨y, i3, s3, e3, _, h3⟩ := below_ok h2 s2 9
  have hset : ∀ e, (l.set x.toNat e).length ≤ 40 := fun e => by rw [List.length_set]; omega
  by_cases c1 : y = 0
  · obtain ⟨v, i4, s4, e4, _, h4⟩ := int_ok h3 s3 [-1, 2000, 2001] (by decide)
    refine ⟨l.set x.toNat ⟨v, (rd_T35 l x).f1, (rd_T35 l x).f2, (rd_T35 l x).f3⟩, i4, s4, ?_, hset _, h4⟩
    simp only [spec_l8Any.f]
    refine Ev.bind e1 (ev_neg c0 ?_)
    simp only [e2, e3, Option.bind_some]
    refine ev_pos c1 ?_
    simp only [e4, Option.bind_some]
    exact ev_pos x0 (ev_pos x1 (Ev.now _))
  by_cases c2 : y = 1
  · obtain ⟨v, i4, s4, e4, _, h4⟩ := int_ok h3 s3 [0, 96, 97] (by decide)
    refine ⟨l.set x.toNat ⟨(rd_T35 l x).f0, v, (rd_T35 l x).f2, (rd_T35 l x).f3⟩, i4, s4, ?_, hset _, h4⟩
    simp only [spec_l8Any.f]
    refine Ev.bind e1 (ev_neg c0 ?_)
    simp only [e2, e3, Option.bind_some]
    refine ev_neg c1 (ev_pos c2 ?_)
    simp only [e4, Option.bind_some]
    exact ev_pos x0 (ev_pos x1 (Ev.now _))
  by_cases c3 : y = 2
  · obtain ⟨v, i4, s4, e4, _, h4⟩ := int_ok h3 s3 [20, 108, 109] (by decide)
    refine ⟨l.set x.toNat ⟨(rd_T35 l x).f0, (rd_T35 l x).f1, v, (rd_T35 l x).f3⟩, i4, s4, ?_, hset _, h4⟩
    simp only [spec_l8Any.f]
    refine Ev.bind e1 (ev_neg c0 ?_)
    simp only [e2, e3, Option.bind_some]
    refine ev_neg c1 (ev_neg c2 (ev_pos c3 ?_))
    simp only [e4, Option.bind_some]
    exact ev_pos x0 (ev_pos x1 (Ev.now _))
  by_cases c4 : y = 3
  · obtain ⟨v, i4, s4, e4, _, h4⟩ := int_ok h3 s3 [0, 4, 5] (by decide)
    refine ⟨l.set x.toNat ⟨(rd_T35 l x).f0, (rd_T35 l x).f1, (rd_T35 l x).f2, v⟩, i4, s4, ?_, hset _, h4⟩
    simp only [spec_l8Any.f]
    refine Ev.bind e1 (ev_neg c0 ?_)
    simp only [e2, e3, Option.bind_some]
    refine ev_neg c1 (ev_neg c2 (ev_neg c3 (ev_pos c4 ?_)))
    simp only [e4, Option.bind_some]
    exact ev_pos x0 (ev_pos x1 (Ev.now _))
  by_cases c5 : y = 4
  · refine ⟨l ++ [rd_T35 l 0], i3, s3, ?_, by simp; omega, h3⟩
    simp only [spec_l8Any.f]
    refine Ev.bind e1 (ev_neg c0 ?_)
    simp only [e2, e3, Option.bind_some]
    exact ev_neg c1 (ev_neg c2 (ev_neg c3 (ev_neg c4 (ev_pos c5 (ev_pos (by omega) (ev_pos (by omega) (Ev.now _)))))))
  · refine ⟨l, i3, s3, ?_, by omega, h3⟩
    simp only [spec_l8Any.f]
    refine Ev.bind e1 (ev_neg c0 ?_)
    simp only [e2, e3, Option.bind_some]
    exact ev_neg c1 (ev_neg c2 (ev_neg c3 (ev_neg c4 (ev_neg c5 (Ev.now _)))))
theorem l20Case_ok {b : List Int} {i : Int} (h : Rd b i) (s : Int) : ∃ sc t c l x q i' s', Ev (fun k => spec_l20Case.f k b i s) (sc, t, c, l, x, q, i', s') ∧ sc.length ≤ 40 ∧ t.length ≤ 40 ∧ c.length ≤ 40 ∧ l.length ≤ 41 ∧ q.length ≤ 48 ∧ Rd b i' := by
  obtain ⟨sc, i1, s1, e1, hsc, h1⟩ := l13Score_ok h s
  have hcl := cueFM_length sc 1
  have e2 := specCueFrom_ev sc 1 (by omega)
  generalize hcu : cueFM sc 1 = cu at hcl e2
  obtain ⟨n, i2, s2, e3, ⟨n0, n1, _⟩, h2⟩ := below_ok h1 s1 ((cu.1.length : Int) + 1)
  have n1 := n1 (by omega)
  obtain ⟨sl, i3, s3, e4, hs, h3⟩ := l15Draw_ok h2 s2 n n0 (by omega)
  have e5 := specErrBy_ev (cu.1.take n.toNat) sl (by rw [List.length_take]; omega) (by omega)
  have hlen := errM_length (cu.1.take n.toNat) sl
  rw [List.length_take] at hlen
  have hst := startM_length cu.1
  have hh := hearM_length cu.1 (errM (cu.1.take n.toNat) sl).1 (startM cu.1).1 (startM cu.1).2.1
  have e6 := specHearAll_ev cu.1 (startM cu.1).1 (startM cu.1).2.1 (errM (cu.1.take n.toNat) sl).1 (by omega) (by omega) (by omega)
  generalize hearM cu.1 (startM cu.1).1 (startM cu.1).2.1 (errM (cu.1.take n.toNat) sl).1 = w at hh e6
  refine ⟨sc, cu.1, cu.2.1, w.1, w.2, (errM (cu.1.take n.toNat) sl).1, i3, s3, ?_, hsc, by omega, by omega, by omega, by omega, h3⟩
  · simp only [spec_l20Case.f]
    refine Ev.bind e1 (Ev.bind e2 ?_)
    dsimp only
    rw [wrap_id (n := (cu.1.length : Int) + 1) (by omega) (by omega)]
    simp only [e3, Option.bind_some]
    exact ev_pos n0 (ev_pos (by omega) (Ev.bind e4 (Ev.bind e5 (Ev.bind (specStartFollower_ev cu.1) (Ev.bind e6 (Ev.now _))))))
theorem drawPlay_ok (b : List Int) (hb : b.length ≤ 1048576) : ∃ sc v q e, Ev (fun k => spec_DrawPlayAlong.f k b) (sc, v, q, e) ∧ sc.length ≤ 40 ∧ q.length ≤ 48 := by
  obtain ⟨s0, e0⟩ := new_ok b hb
  obtain ⟨sc, t, c, l, x, q, i1, s1, e1, hsc, _, _, _, hq, h1⟩ := l20Case_ok (Rd.zero hb) s0
  obtain ⟨z, i2, s2, e2, h2⟩ := once_ok h1 s1 9
  cases z with
  | true =>
    obtain ⟨l', i3, s3, e3, hl', h3⟩ := l8Any_ok h2 s2
    obtain ⟨y, i4, s4, e4, _, h4⟩ := below_ok h3 s3 5
    refine ⟨l', 1, q, y, ?_, hl', hq⟩
    simp only [spec_DrawPlayAlong.f]
    refine Ev.bind e0 (Ev.bind e1 ?_)
    simp only [e2, Option.bind_some]
    refine ev_pos (by trivial) (Ev.bind e3 ?_)
    simp only [e4, Option.bind_some]
    exact Ev.now _
  | false =>
    obtain ⟨y, i4, s4, e4, _, h4⟩ := below_ok h2 s2 5
    refine ⟨sc, 1, q, y, ?_, hsc, hq⟩
    simp only [spec_DrawPlayAlong.f]
    refine Ev.bind e0 (Ev.bind e1 ?_)
    simp only [e2, e4, Option.bind_some]
    exact ev_neg (by simp) (Ev.now _)
theorem drawSure_ok (b : List Int) (hb : b.length ≤ 1048576) : ∃ t c l x e, Ev (fun k => spec_DrawSureTick.f k b) (t, c, l, x, e) ∧ t.length ≤ 40 ∧ c.length ≤ 40 ∧ l.length ≤ 41 ∧ -1 ≤ e ∧ e ≤ 5 := by
  obtain ⟨s0, e0⟩ := new_ok b hb
  obtain ⟨sc, t, c, l, x, q, i1, s1, e1, hsc, ht, hc, hl, hq, h1⟩ := l20Case_ok (Rd.zero hb) s0
  obtain ⟨z, i2, s2, e2, h2⟩ := once_ok h1 s1 9
  obtain ⟨y, i4, s4, e4, ⟨y0, y1, _⟩, h4⟩ := below_ok h2 s2 6
  have y1 := y1 (by omega)
  have wy : wrap64 (y - 1) = y - 1 := wrap_id (by omega) (by omega)
  cases z with
  | true =>
    by_cases c0 : (l.length : Int) > 0
    · refine ⟨t, c, l.drop (1 : Int).toNat, x, y - 1, ?_, ht, hc, by rw [List.length_drop]; omega, by omega, by omega⟩
      simp only [spec_DrawSureTick.f]
      refine Ev.bind e0 (Ev.bind e1 ?_)
      simp only [e2, Option.bind_some]
      refine ev_pos (by trivial) (ev_pos c0 (ev_pos (by omega) ?_))
      simp only [e4, Option.bind_some, wy]
      exact Ev.now _
    · refine ⟨t, c, l, x, y - 1, ?_, ht, hc, hl, by omega, by omega⟩
      simp only [spec_DrawSureTick.f]
      refine Ev.bind e0 (Ev.bind e1 ?_)
      simp only [e2, Option.bind_some]
      refine ev_pos (by trivial) (ev_neg c0 ?_)
      simp only [e4, Option.bind_some, wy]
      exact Ev.now _
  | false =>
    refine ⟨t, c, l, x, y - 1, ?_, ht, hc, hl, by omega, by omega⟩
    simp only [spec_DrawSureTick.f]
    refine Ev.bind e0 (Ev.bind e1 ?_)
    simp only [e2, e4, Option.bind_some, wy]
    exact ev_neg (by simp) (Ev.now _)

/-! ### the row by its places -/
/-- The cost at a place once a pitch is heard, by the place. -/
def stepN (t l : List Int) (p : Int) : Nat → Int
  | 0 => rd l 0 + 1
  | i + 1 => min (min (rd l ((i : Int) + 1) + 1) (stepN t l p i + 1)) (rd l (i : Int) + unl1 (rd t (i : Int)) p)
theorem rd_drop (l : List Int) (i : Nat) (h : i < l.length) : l.drop i = rd l (i : Int) :: l.drop (i + 1) := by
  rw [List.drop_eq_getElem_cons h, rd_nat, List.getD_eq_getElem?_getD, List.getElem?_eq_getElem h, Option.getD_some]
theorem folRow_N (t l : List Int) (p : Int) (hl : l.length = t.length + 1) (d : Nat) : ∀ i : Nat, i + d = t.length →
    folRow p (t.drop i) (rd l (i : Int)) (stepN t l p i) (l.drop (i + 1)) = (List.range d).map fun j => stepN t l p (i + 1 + j) := by
  induction d with
  | zero =>
    intro i h
    rw [List.drop_of_length_le (by omega)]
    simp [folRow]
  | succ d ih =>
    intro i h
    have e := ih (i + 1) (by omega)
    rw [rd_drop t i (by omega), rd_drop l (i + 1) (by omega)]
    have hv : stepV p (rd t (i : Int)) (rd l (i : Int)) (stepN t l p i) (rd l ((i + 1 : Nat) : Int)) = stepN t l p (i + 1) := by
      simp only [stepV, stepN]
      rw [show ((i + 1 : Nat) : Int) = (i : Int) + 1 by omega]
    simp only [folRow]
    rw [hv, e, List.range_succ_eq_map, List.map_cons, List.map_map]
    refine congrArg (List.cons _) ?_
    refine List.map_congr_left fun j _ => ?_
    simp only [Function.comp_apply]
    congr 1
    omega
theorem stepRow_N (t l : List Int) (x p : Int) (hl : l.length = t.length + 1) : stepRow t l x p = ((List.range l.length).map (stepN t l p), x + 1) := by
  have e := folRow_N t l p hl t.length 0 (by omega)
  cases l with
  | nil => simp at hl
  | cons c cs =>
    simp only [stepRow]
    have h0 : stepN t (c :: cs) p 0 = c + 1 := rfl
    rw [h0] at e
    simp only [List.drop_zero, Nat.zero_add, List.drop_succ_cons] at e
    rw [show rd (c :: cs) ((0 : Nat) : Int) = c from rfl] at e
    rw [e, hl, List.range_succ_eq_map, List.map_cons, List.map_map, h0]
    refine congrArg (fun z => ((c + 1) :: z, x + 1)) ?_
    refine List.map_congr_left fun j _ => ?_
    simp only [Function.comp_apply]
    congr 1
    omega
/-- A row that a tune's follower has after x pitches: small, and steps of one. -/
def rowOK (t l : List Int) (x : Int) : Prop := l.length = t.length + 1 ∧ t.length ≤ 40 ∧ 0 ≤ x ∧ (∀ i : Nat, i ≤ t.length → 0 ≤ rd l (i : Int) ∧ rd l (i : Int) ≤ (i : Int) + x) ∧ ∀ i : Nat, i < t.length → rd l (i : Int) - 1 ≤ rd l ((i : Int) + 1) ∧ rd l ((i : Int) + 1) ≤ rd l (i : Int) + 1
theorem rd_map_range (f : Nat → Int) (n i : Nat) (h : i < n) : rd ((List.range n).map f) (i : Int) = f i := by
  rw [rd_nat, List.getD_eq_getElem?_getD, List.getElem?_map, List.getElem?_range h]
  rfl
theorem rowOK_start (t : List Int) (h : t.length ≤ 40) : rowOK t (countI (t.length + 1)) 0 := by
  have hr : ∀ i : Nat, i ≤ t.length → rd (countI (t.length + 1)) (i : Int) = (i : Int) := fun i hi => rd_map_range _ _ i (by omega)
  refine ⟨countI_length _, h, Int.le_refl _, fun i hi => ?_, fun i hi => ?_⟩
  · rw [hr i hi]; omega
  · rw [hr i (by omega), show ((i : Int) + 1) = ((i + 1 : Nat) : Int) by omega, hr (i + 1) (by omega)]; omega
theorem stepN_ok {t l : List Int} {x : Int} (h : rowOK t l x) (p : Int) : ∀ i : Nat, i ≤ t.length → 0 ≤ stepN t l p i ∧ stepN t l p i ≤ (i : Int) + (x + 1) ∧ stepN t l p i ≤ rd l (i : Int) + 1 := by
  obtain ⟨h1, h2, h3, h4, h5⟩ := h
  intro i
  induction i with
  | zero =>
    intro hi
    have := h4 0 (by omega)
    simp only [stepN, Int.natCast_zero] at this ⊢
    omega
  | succ i ih =>
    intro hi
    have a := ih (by omega)
    have b := h4 i (by omega)
    have c := h4 (i + 1) hi
    have u := unl1_le (rd t (i : Int)) p
    simp only [stepN]
    rw [show ((i + 1 : Nat) : Int) = (i : Int) + 1 by omega] at c ⊢
    omega
theorem stepN_near {t l : List Int} {x : Int} (h : rowOK t l x) (p : Int) (i : Nat) (hi : i < t.length) : stepN t l p i - 1 ≤ stepN t l p (i + 1) ∧ stepN t l p (i + 1) ≤ stepN t l p i + 1 := by
  have a := stepN_ok h p i (by omega)
  obtain ⟨h1, h2, h3, h4, h5⟩ := h
  have b := h5 i hi
  have u := unl1_le (rd t (i : Int)) p
  simp only [stepN]
  omega
theorem rowOK_next {t l : List Int} {x : Int} (h : rowOK t l x) (p : Int) : rowOK t ((List.range l.length).map (stepN t l p)) (x + 1) := by
  have h' := h
  obtain ⟨h1, h2, h3, h4, h5⟩ := h
  refine ⟨by simp [h1], h2, by omega, fun i hi => ?_, fun i hi => ?_⟩
  · rw [rd_map_range _ _ i (by omega)]
    have := stepN_ok h' p i hi
    omega
  · rw [show ((i : Int) + 1) = ((i + 1 : Nat) : Int) by omega, rd_map_range _ _ i (by omega), rd_map_range _ _ (i + 1) (by omega)]
    exact stepN_near h' p i hi
theorem rowOK_fol {t l : List Int} {x : Int} (h : rowOK t l x) (hx : x ≤ 500) : folM t l x = true := by
  obtain ⟨h1, h2, h3, h4, h5⟩ := h
  unfold folM
  rw [allF_iff]
  refine ⟨decide_eq_true (by omega), fun j _ hj => ?_⟩
  have a := h4 j (by omega)
  unfold folC
  refine decide_eq_true ⟨by omega, by omega, fun hp => ?_⟩
  have b := h5 (j - 1) (by omega)
  have c := h4 (j - 1) (by omega)
  rw [show ((j - 1 : Nat) : Int) = (j : Int) - 1 by omega] at b c
  rw [show ((j : Int) - 1 + 1) = (j : Int) by omega] at b
  rw [wrap_id (by omega) (by omega)]
  omega
theorem step_row {t l : List Int} {x : Int} (h : rowOK t l x) (hx : x ≤ 400) (p : Int) : stepM t l x p = ((List.range l.length).map (stepN t l p), x + 1) := by
  unfold stepM
  rw [if_pos ⟨rowOK_fol h (by omega), by omega⟩, stepRow_N t l x p h.1]

/-! ### what is heard makes the row of distances -/
def rowEd (p q : List Int) (j : Nat) : List Int := (List.range (p.length + 1)).map fun i => ((ed p q i j : Nat) : Int)
theorem rowEd_length (p q : List Int) (j : Nat) : (rowEd p q j).length = p.length + 1 := by simp [rowEd]
theorem rowEd_at (p q : List Int) (j i : Nat) (h : i ≤ p.length) : rd (rowEd p q j) (i : Int) = ((ed p q i j : Nat) : Int) := rd_map_range (fun i => ((ed p q i j : Nat) : Int)) _ i (by omega)
theorem rowEd_start (p q : List Int) : countI (p.length + 1) = rowEd p q 0 := by
  unfold countI rowEd
  refine List.map_congr_left fun i _ => ?_
  rw [ed_left]
theorem rowEd_step (p q : List Int) (j : Nat) (hj : j < q.length) : ∀ i : Nat, i ≤ p.length → stepN p (rowEd p q j) (q.getD j 0) i = ((ed p q i (j + 1) : Nat) : Int) := by
  intro i
  induction i with
  | zero =>
    intro _
    have := rowEd_at p q j 0 (by omega)
    simp only [stepN, Int.natCast_zero] at this ⊢
    rw [this, ed_zero, ed_zero]
    omega
  | succ i ih =>
    intro hi
    have a := rowEd_at p q j i (by omega)
    have b := rowEd_at p q j (i + 1) hi
    rw [show ((i + 1 : Nat) : Int) = (i : Int) + 1 by omega] at b
    simp only [stepN]
    rw [a, b, ih (by omega), ed_succ, rd_nat]
    have u : unl1 (p.getD i 0) (q.getD j 0) = ((unl p q i j : Nat) : Int) := by unfold unl1 unl; split <;> rfl
    rw [u]
    omega
theorem sbGo_keep (e : Int) (l : List Int) : ∀ (i : Int) (s : Int × Int), 0 ≤ s.1 → s.2 ≤ i → (sbGo e l i s).1 = s.1 ∧ s.2 ≤ (sbGo e l i s).2 := by
  induction l with
  | nil => intro i s h1 h2; exact ⟨rfl, Int.le_refl _⟩
  | cons c t ih =>
    intro i s h1 h2
    simp only [sbGo]
    by_cases hc : c ≤ e
    · rw [if_pos hc]
      have r := ih (i + 1) (if s.1 < 0 then i else s.1, i) (by dsimp only; rw [if_neg (by omega)]; exact h1) (by dsimp only; omega)
      dsimp only at r
      rw [if_neg (show ¬ s.1 < 0 by omega)] at r ⊢
      exact ⟨r.1, by omega⟩
    · rw [if_neg hc]
      exact ih (i + 1) s h1 (by omega)
theorem sbGo_at (e y : Int) (hy : y ≤ e) (suf : List Int) (pre : List Int) : ∀ (i : Int) (s : Int × Int), 0 ≤ i → (s.1 = -1 ∨ (0 ≤ s.1 ∧ s.1 ≤ i)) → s.2 ≤ i →
    0 ≤ (sbGo e (pre ++ y :: suf) i s).1 ∧ (sbGo e (pre ++ y :: suf) i s).1 ≤ i + (pre.length : Int) ∧ i + (pre.length : Int) ≤ (sbGo e (pre ++ y :: suf) i s).2 := by
  induction pre with
  | nil =>
    intro i s hi h1 h2
    simp only [List.nil_append, sbGo, List.length_nil]
    rw [if_pos hy]
    have r := sbGo_keep e suf (i + 1) (if s.1 < 0 then i else s.1, i) (by dsimp only; split <;> omega) (by dsimp only; omega)
    dsimp only at r
    rw [r.1]
    refine ⟨?_, ?_, by omega⟩ <;> split <;> omega
  | cons c t ih =>
    intro i s hi h1 h2
    simp only [List.cons_append, sbGo, List.length_cons]
    by_cases hc : c ≤ e
    · rw [if_pos hc]
      have r := ih (i + 1) (if s.1 < 0 then i else s.1, i) (by omega) (by dsimp only; right; split <;> omega) (by dsimp only; omega)
      omega
    · rw [if_neg hc]
      have r := ih (i + 1) s (by omega) (by omega) (by omega)
      omega
theorem surely_at {l : List Int} {e : Int} {n : Nat} (hn : n < l.length) (h : rd l (n : Int) ≤ e) : 0 ≤ (surelyM l e).1 ∧ (surelyM l e).1 ≤ (n : Int) ∧ (n : Int) ≤ (surelyM l e).2 := by
  have hs : l = l.take n ++ rd l (n : Int) :: l.drop (n + 1) := by
    conv => lhs; rw [← List.take_append_drop n l]
    rw [rd_drop l n hn]
  unfold surelyM
  rw [hs]
  have r := sbGo_at e (rd l (n : Int)) h (l.drop (n + 1)) (l.take n) 0 (-1, -1) (by omega) (.inl rfl) (by omega)
  have ht : (l.take n).length = n := by rw [List.length_take]; omega
  rw [ht, Int.zero_add] at r
  rw [← hs] at r ⊢
  exact r

/-! ### never ahead of where the player surely is -/
theorem colM_mem {α : Type} (g : Int → Option α) (d : Nat) : ∀ (i : Nat) (x : α), x ∈ colM g d i → ∃ j : Nat, i ≤ j ∧ j < i + d ∧ g (j : Int) = some x := by
  induction d with
  | zero => intro i x h; cases h
  | succ d ih =>
    intro i x h
    simp only [colM] at h
    rcases List.mem_append.1 h with h | h
    · refine ⟨i, by omega, by omega, ?_⟩
      cases hg : g (i : Int) with
      | none => rw [hg] at h; cases h
      | some y => rw [hg] at h; simp at h; rw [h]
    · obtain ⟨j, h1, h2, h3⟩ := ih (i + 1) x h
      exact ⟨j, by omega, by omega, h3⟩
theorem dueM_mem {l : List S35} {v a b : Int} {x : S35} (h : x ∈ dueM l v a b) : x.f3 ≠ v ∧ x.f0 > a ∧ x.f0 ≤ b ∧ x ∈ l := by
  unfold dueM at h
  split at h
  · obtain ⟨j, _, h2, h3⟩ := colM_mem _ _ _ _ h
    unfold dueG at h3
    split at h3
    · rename_i hc
      obtain rfl := Option.some.inj h3
      refine ⟨hc.1, hc.2.1, hc.2.2, ?_⟩
      have hj : j < l.length := by omega
      have e : rd_T35 l (j : Int) = l[j] := by
        unfold rd_T35
        rw [Int.toNat_natCast, List.getD_eq_getElem?_getD, List.getElem?_eq_getElem hj, Option.getD_some]
      rw [e]
      exact List.getElem_mem hj
    · cases h3
  · cases h
theorem cue_mono {t c : List Int} (h : cueM t c = true) (j : Nat) : ∀ i : Nat, i ≤ j → j < c.length → 0 ≤ rd c (i : Int) ∧ rd c (i : Int) ≤ rd c (j : Int) := by
  obtain ⟨_, _, h2⟩ := cueM_facts h
  induction j with
  | zero =>
    intro i hi hj
    obtain rfl : i = 0 := by omega
    have a := h2 0 hj
    simp only [cueC, decide_eq_true_eq] at a
    exact ⟨a.1, Int.le_refl _⟩
  | succ j ih =>
    intro i hi hj
    have a := h2 (j + 1) hj
    simp only [cueC, decide_eq_true_eq] at a
    by_cases e : i = j + 1
    · subst e; exact ⟨a.1, Int.le_refl _⟩
    · obtain ⟨b1, b2⟩ := ih i (by omega) (by omega)
      have a3 := a.2.2 (by omega)
      rw [show (((j + 1 : Nat) : Int) - 1) = (j : Int) by omega] at a3
      omega
/-- No tick behind the m-th of the cue, for each m that the errors allow. -/
def notPast (t c q : List Int) (e s : Int) : Prop := ∀ m : Nat, m ≤ t.length → ((ed t q m q.length : Nat) : Int) ≤ e → s ≤ -1 ∨ (cueM t c = true ∧ 1 ≤ m ∧ 0 ≤ rd c ((m : Int) - 1) ∧ s ≤ rd c ((m : Int) - 1))
theorem sure_past (t c q : List Int) (e : Int) (j : Nat) (hj : j ≤ q.length) : notPast t c q e (sureM t c (rowEd t q j) (j : Int) e) := by
  intro m hm he
  unfold sureM
  by_cases h : cueM t c = true ∧ folM t (rowEd t q j) (j : Int) = true ∧ 1 ≤ (surelyM (rowEd t q j) e).1
  · rw [if_pos h]
    right
    obtain ⟨h1, h2, h3⟩ := h
    obtain ⟨_, hc, _⟩ := cueM_facts h1
    obtain ⟨m', g1, g2⟩ := ed_prefix t q (q.length - j) j m
    rw [show j + (q.length - j) = q.length by omega] at g2
    have hr := rowEd_length t q j
    obtain ⟨_, k2, _⟩ := surely_at (l := rowEd t q j) (e := e) (n := m') (by omega) (by rw [rowEd_at t q j m' (by omega)]; omega)
    have w1 := cue_mono h1 (m - 1) ((surelyM (rowEd t q j) e).1 - 1).toNat (by omega) (by omega)
    have w2 := cue_mono h1 (m - 1) (m - 1) (Nat.le_refl _) (by omega)
    rw [show ((((surelyM (rowEd t q j) e).1 - 1).toNat : Nat) : Int) = (surelyM (rowEd t q j) e).1 - 1 by omega, show (((m - 1 : Nat)) : Int) = (m : Int) - 1 by omega] at w1
    rw [show (((m - 1 : Nat)) : Int) = (m : Int) - 1 by omega] at w2
    exact ⟨h1, by omega, w2.1, w1.2⟩
  · rw [if_neg h]; left; omega
theorem past_max {t c q : List Int} {e s s' : Int} (h : notPast t c q e s) (h' : notPast t c q e s') : notPast t c q e (max s s') := by
  intro m hm he
  rcases h m hm he with a | ⟨a0, a1, a2, a3⟩
  · rcases h' m hm he with b | ⟨b0, b1, b2, b3⟩
    · left; omega
    · right; exact ⟨b0, b1, b2, by omega⟩
  · rcases h' m hm he with b | ⟨b0, b1, b2, b3⟩
    · right; exact ⟨a0, a1, a2, by omega⟩
    · right; exact ⟨a0, a1, a2, by omega⟩
theorem play_past (t c q : List Int) (e : Int) (hq : q.length ≤ 300) (suf : List Int) : ∀ (pre : List Int) (s : Int), q = pre ++ suf → rowOK t (rowEd t q pre.length) (pre.length : Int) → notPast t c q e s →
    notPast t c q e (playGo t c e suf s (rowEd t q pre.length, (pre.length : Int))) := by
  induction suf with
  | nil => intro pre s _ _ hs; exact hs
  | cons y ys ih =>
    intro pre s h ho hs
    have hlen : pre.length + (ys.length + 1) = q.length := by rw [h]; simp
    have hy : q.getD pre.length 0 = y := by rw [h]; exact getD_mid pre y ys 0
    have e2 := step_row ho (by omega) y
    have hm : (List.range (rowEd t q pre.length).length).map (stepN t (rowEd t q pre.length) y) = rowEd t q (pre.length + 1) := by
      rw [rowEd_length]
      refine List.map_congr_left fun i hi => ?_
      have := List.mem_range.1 hi
      rw [← hy]
      exact rowEd_step t q pre.length (by omega) i (by omega)
    have hn := rowOK_next ho y
    rw [hm] at hn e2
    have hx : (pre.length : Int) + 1 = (((pre ++ [y]).length : Nat) : Int) := by rw [length_snoc]; omega
    simp only [playGo, e2]
    rw [hx] at hn ⊢
    rw [show pre.length + 1 = (pre ++ [y]).length by simp] at hn ⊢
    exact ih (pre ++ [y]) _ (by rw [h]; simp) hn (past_max hs (sure_past t c q e (pre ++ [y]).length (by simp; omega)))
theorem playM_past {l : List S35} {v e : Int} {q : List Int} (hq : q.length ≤ 300) (h : (playM l v q e).2 = true) :
    (cueFM l v).2.2 = true ∧ (cueFM l v).1.length ≤ 40 ∧ ∃ s, (playM l v q e).1 = dueM l v (-1) s ∧ notPast (cueFM l v).1 (cueFM l v).2.1 q e s := by
  unfold playM at h ⊢
  by_cases c : (cueFM l v).2.2 = true ∧ (startM (cueFM l v).1).2.2 = true
  · rw [if_pos c]
    have ht : (cueFM l v).1.length ≤ 40 := by
      refine Classical.byContradiction fun n => ?_
      have := c.2
      unfold startM at this
      rw [if_neg n] at this
      simp at this
    refine ⟨c.1, ht, _, rfl, ?_⟩
    have hs : startM (cueFM l v).1 = (countI ((cueFM l v).1.length + 1), 0, true) := by unfold startM; rw [if_pos ht]
    have h0 := rowOK_start (cueFM l v).1 ht
    rw [hs]
    dsimp only
    rw [rowEd_start (cueFM l v).1 q] at h0 ⊢
    exact play_past _ _ q e hq q [] (-1) rfl h0 (fun m _ _ => .inl (Int.le_refl _))
  · rw [if_neg c] at h; simp at h
theorem playM_no {l : List S35} {v e : Int} {q : List Int} (h : ¬ (playM l v q e).2 = true) : (playM l v q e) = ([], false) := by
  unfold playM at h ⊢
  by_cases c : (cueFM l v).2.2 = true ∧ (startM (cueFM l v).1).2.2 = true
  · rw [if_pos c] at h; simp at h
  · rw [if_neg c]
theorem sbGo_first (e : Int) (l : List Int) : ∀ (i : Int) (s : Int × Int), 0 ≤ i → s.1 < 0 → (sbGo e l i s).1 = s.1 ∨ ∃ k : Nat, k < l.length ∧ (sbGo e l i s).1 = i + (k : Int) ∧ l.getD k 0 ≤ e := by
  induction l with
  | nil => intro i s _ _; exact .inl rfl
  | cons c t ih =>
    intro i s hi hs
    simp only [sbGo]
    by_cases hc : c ≤ e
    · rw [if_pos hc]
      right
      have r := sbGo_keep e t (i + 1) (if s.1 < 0 then i else s.1, i) (by dsimp only; split <;> omega) (by dsimp only; omega)
      dsimp only at r
      rw [if_pos hs] at r ⊢
      exact ⟨0, by simp, by rw [r.1]; omega, hc⟩
    · rw [if_neg hc]
      rcases ih (i + 1) s (by omega) hs with h | ⟨k, h1, h2, h3⟩
      · exact .inl h
      · refine .inr ⟨k + 1, by simp; omega, by rw [h2]; omega, h3⟩
theorem sure_more {t c l : List Int} {x e : Int} (h : sureM t c l x e ≠ -1) : sureM t c l x (e + 1) ≤ sureM t c l x e ∧ sureM t c l x e ∈ c := by
  unfold sureM at h ⊢
  by_cases k : cueM t c = true ∧ folM t l x = true ∧ 1 ≤ (surelyM l e).1
  · rw [if_pos k] at h ⊢
    obtain ⟨h1, h2, h3⟩ := k
    have hi := sure_idx (e := e) h1 h2
    have hm : rd c ((surelyM l e).1 - 1) ∈ c := by
      have hn : ((surelyM l e).1 - 1).toNat < c.length := by omega
      rw [show (surelyM l e).1 - 1 = ((((surelyM l e).1 - 1).toNat : Nat) : Int) by omega, rd_nat, List.getD_eq_getElem?_getD, List.getElem?_eq_getElem hn, Option.getD_some]
      exact List.getElem_mem hn
    refine ⟨?_, hm⟩
    have w0 := cue_mono h1 ((surelyM l e).1 - 1).toNat ((surelyM l e).1 - 1).toNat (Nat.le_refl _) (by omega)
    rw [show ((((surelyM l e).1 - 1).toNat : Nat) : Int) = (surelyM l e).1 - 1 by omega] at w0
    by_cases k2 : cueM t c = true ∧ folM t l x = true ∧ 1 ≤ (surelyM l (e + 1)).1
    · rw [if_pos k2]
      rcases sbGo_first e l 0 (-1, -1) (Int.le_refl _) (by show (-1 : Int) < 0; omega) with f | ⟨n, f1, f2, f3⟩
      · unfold surelyM at h3; rw [f] at h3; omega
      · have f2' : (surelyM l e).1 = (n : Int) := by unfold surelyM; rw [f2]; omega
        obtain ⟨g1, g2, _⟩ := surely_at (l := l) (e := e + 1) (n := n) f1 (by rw [rd_nat]; omega)
        have w := cue_mono h1 ((surelyM l e).1 - 1).toNat ((surelyM l (e + 1)).1 - 1).toNat (by omega) (by omega)
        rw [show ((((surelyM l e).1 - 1).toNat : Nat) : Int) = (surelyM l e).1 - 1 by omega, show ((((surelyM l (e + 1)).1 - 1).toNat : Nat) : Int) = (surelyM l (e + 1)).1 - 1 by omega] at w
        exact w.2
    · rw [if_neg k2]; omega
  · rw [if_neg k] at h; exact absurd rfl h

/-! ### the law's own parts -/
theorem contains_l0 (x : Int) (suf : List Int) : ∀ pre : List Int, (pre ++ suf).length ≤ 1048576 → x ∈ suf → Ev (fun k => laws_contains.l0 k (pre ++ suf) x (pre.length : Int)) true := by
  induction suf with
  | nil => intro pre h hx; cases hx
  | cons y t ih =>
    intro pre h hx
    refine ev_tail ?_
    simp only [laws_contains.l0, rd_mid]
    refine ev_pos (by simp; omega) (ev_pos (by omega) (ev_ite (fun _ => Ev.now _) (fun hne => ?_)))
    have e := ih (pre ++ [y]) (by simpa using h) (by
      rcases List.mem_cons.1 hx with h1 | h1
      · exact absurd h1.symm hne
      · exact h1)
    simp only [List.length_append, List.length_cons] at h
    rw [wrap_succ (by omega), snoc_cons pre y t, ← length_snoc pre y]
    exact e
theorem contains_ev (l : List Int) (h : l.length ≤ 1048576) {x : Int} (hx : x ∈ l) : Ev (fun k => laws_contains.f k l x) true := by
  simp only [laws_contains.f]
  exact contains_l0 x l [] (by simpa using h) hx
theorem has_l0 (x : S35) (suf : List S35) : ∀ pre : List S35, (pre ++ suf).length ≤ 1048576 → x ∈ suf → Ev (fun k => laws_hasEvent.l0 k (pre ++ suf) (pre.length : Int) x.f0 x.f1 x.f2 x.f3) true := by
  induction suf with
  | nil => intro pre h hx; cases hx
  | cons y t ih =>
    intro pre h hx
    have hr : rd_T35 (pre ++ y :: t) ((pre.length : Nat) : Int) = y := getD_mid pre y t _
    refine ev_tail ?_
    simp only [laws_hasEvent.l0, hr]
    refine ev_pos (by simp; omega) (ev_pos (by omega) (ev_ite (fun _ => Ev.now _) (fun hne => ?_)))
    have e := ih (pre ++ [y]) (by simpa using h) (by
      rcases List.mem_cons.1 hx with h1 | h1
      · subst h1; exact absurd (by simp) hne
      · exact h1)
    simp only [List.length_append, List.length_cons] at h
    rw [wrap_succ (by omega), snoc_cons pre y t, ← length_snoc pre y]
    exact e
theorem has_ev (l : List S35) (h : l.length ≤ 1048576) {x : S35} (hx : x ∈ l) : Ev (fun k => laws_hasEvent.f k l x.f0 x.f1 x.f2 x.f3) true := by
  simp only [laws_hasEvent.f]
  exact has_l0 x l [] (by simpa using h) hx
theorem ne_j6 (b : List Int) (hb : b.length ≤ 1048576) : Ev (fun k => laws_FnNeverAhead.j6 k b) true := by
  obtain ⟨t, c, l, x, e, ev, ht, hc, hl, e0, e1⟩ := drawSure_ok b hb
  refine ev_tail ?_
  simp only [laws_FnNeverAhead.j6]
  refine Ev.bind ev (Ev.bind (implSureTick_ev t c l x e (by omega) (by omega) (by omega)) (ev_ite (fun _ => Ev.now _) (fun hn => ?_)))
  obtain ⟨g1, g2⟩ := sure_more hn
  refine Ev.bind (contains_ev c (by omega) g2) (ev_pos (by trivial) (ev_ite (fun _ => Ev.now _) (fun _ => ?_)))
  dsimp only
  rw [wrap_id (n := e + 1) (by omega) (by omega)]
  exact Ev.bind (implSureTick_ev t c l x (e + 1) (by omega) (by omega) (by omega)) (ev_eq (Ev.now _) (decide_eq_true g1))
theorem ne_l2 (b : List Int) (q : List Int) (e : Int) (t c : List Int) (hc : c.length ≤ 40) (m : Int) (r : Bool) (evs : List S35)
    (er : Ev (fun k => laws_FnNeverAhead.l1 k b q e evs (wrap64 (m + 1)) t c) r) (hl : evs.length ≤ 1000) (suf : List S35) : ∀ pre, evs = pre ++ suf → (∀ x ∈ suf, aheadM t c x.f0 m = false) →
    Ev (fun k => laws_FnNeverAhead.l2 k b q e evs m (pre.length : Int) t c) r := by
  induction suf with
  | nil =>
    intro pre h _
    refine ev_tail ?_
    simp only [laws_FnNeverAhead.l2]
    exact ev_neg (by rw [h]; simp) er
  | cons x s ih =>
    intro pre h hx
    have e1 := ih (pre ++ [x]) (by rw [h]; simp) (fun y hy => hx y (by simp [hy]))
    have hr : rd_T35 evs ((pre.length : Nat) : Int) = x := by rw [h]; exact getD_mid pre x s _
    have hlen : pre.length + (s.length + 1) = evs.length := by rw [h]; simp
    refine ev_tail ?_
    simp only [laws_FnNeverAhead.l2, hr]
    refine ev_pos (by omega) (ev_pos (by omega) (Ev.bind (implIsAhead_ev t c x.f0 x.f1 x.f2 x.f3 m (by omega)) ?_))
    rw [hx x (by simp)]
    refine ev_neg (by simp) ?_
    rw [wrap_succ (by omega), ← length_snoc pre x]
    exact e1
theorem ne_l1 (b : List Int) (hb : b.length ≤ 1048576) (q : List Int) (hq : q.length ≤ 48) (e : Int) (t c : List Int) (ht : t.length ≤ 40) (hc : c.length ≤ 40) (evs : List S35) (hl : evs.length ≤ 1000) (s : Int)
    (hs : notPast t c q e s) (hev : ∀ x ∈ evs, x.f0 > -1 ∧ x.f0 ≤ s) (d : Nat) : ∀ m : Nat, m + d = t.length + 1 → Ev (fun k => laws_FnNeverAhead.l1 k b q e evs (m : Int) t c) true := by
  induction d with
  | zero =>
    intro m hm
    refine ev_tail ?_
    simp only [laws_FnNeverAhead.l1]
    exact ev_neg (by omega) (ne_j6 b hb)
  | succ d ih =>
    intro m hm
    have en := ih (m + 1) (by omega)
    have hw : wrap64 ((m : Int) + 1) = ((m + 1 : Nat) : Int) := wrap_succ (by omega)
    have hta : (t.take m).length = m := by rw [List.length_take]; omega
    have skip : ∀ z : Bool, z = true → Ev (fun k => laws_FnNeverAhead.j4 k b q e evs (m : Int) z t c) true := by
      intro z hz
      subst hz
      refine ev_tail ?_
      simp only [laws_FnNeverAhead.j4, hw]
      exact ev_pos (by trivial) en
    have ec := implAlignCost_ev (t.take m) q
    refine ev_tail ?_
    simp only [laws_FnNeverAhead.l1, Int.toNat_natCast]
    refine ev_pos (by omega) (ev_pos (by omega) (Ev.bind ec (ev_ite (fun _ => skip _ rfl) (fun h1 => Ev.bind ec ?_))))
    by_cases h2 : alignM (t.take m) q < 0
    · exact skip _ (decide_eq_true h2)
    · rw [decide_eq_false h2]
      refine ev_tail ?_
      simp only [laws_FnNeverAhead.j4]
      refine ev_neg (by simp) (ne_l2 b q e t c hc (m : Int) true evs (by rw [hw]; exact en) hl evs [] rfl (fun x hx => ?_))
      have hf : (t.take m).length ≤ 40 ∧ q.length ≤ 40 := by
        refine Classical.byContradiction fun n => ?_
        unfold alignM at h2
        rw [if_neg n] at h2
        omega
      have ha : alignM (t.take m) q = ((ed (t.take m) q (t.take m).length q.length : Nat) : Int) := by unfold alignM; rw [if_pos hf]
      rw [ha, hta, ed_take (t.take m) q t q m q.length (fun i hi => by rw [List.getD_eq_getElem?_getD, List.getD_eq_getElem?_getD, List.getElem?_take_of_lt hi]) (fun _ _ => rfl)] at h1
      obtain ⟨x0, x1⟩ := hev x hx
      rcases hs m (by omega) (by omega) with h | ⟨g0, g1, g2, g3⟩
      · omega
      · unfold aheadM
        rw [decide_eq_false (show ¬ (m : Int) < 1 by omega), decide_eq_false (show ¬ x.f0 > rd c ((m : Int) - 1) by omega)]
        simp
theorem ne_l0 (b : List Int) (sc : List S35) (hsc : sc.length ≤ 40) (v : Int) (q : List Int) (e : Int) (ok : Bool) (t c : List Int) (r : Bool) (evs : List S35) (hl : evs.length ≤ 1000)
    (er : Ev (fun k => laws_FnNeverAhead.j2 k b q e evs (if ok = true then decide (e ≥ 0) else false) t c) r) (suf : List S35) : ∀ pre, evs = pre ++ suf → (∀ x ∈ suf, x.f3 ≠ v ∧ x ∈ sc) →
    Ev (fun k => laws_FnNeverAhead.l0 k b sc v q e evs ok (pre.length : Int) t c) r := by
  induction suf with
  | nil =>
    intro pre h _
    refine ev_tail ?_
    simp only [laws_FnNeverAhead.l0]
    refine ev_neg (by rw [h]; simp) (ev_ite (fun ho => ?_) (fun ho => ?_))
    · rw [if_pos ho] at er; exact er
    · rw [if_neg ho] at er; exact er
  | cons x s ih =>
    intro pre h hx
    have e1 := ih (pre ++ [x]) (by rw [h]; simp) (fun y hy => hx y (by simp [hy]))
    have hr : rd_T35 evs ((pre.length : Nat) : Int) = x := by rw [h]; exact getD_mid pre x s _
    have hlen : pre.length + (s.length + 1) = evs.length := by rw [h]; simp
    obtain ⟨g1, g2⟩ := hx x (by simp)
    refine ev_tail ?_
    simp only [laws_FnNeverAhead.l0, hr]
    refine ev_pos (by omega) (ev_pos (by omega) (ev_neg g1 (Ev.bind (has_ev sc (by omega) g2) (ev_pos (by trivial) ?_))))
    rw [wrap_succ (by omega), ← length_snoc pre x]
    exact e1
theorem FnNeverAhead : ∀ (l0 : List (Int)), (l0.length ≤ maxLen) → (∀ x ∈ l0, (Lit.int .u8 x).wf = true) → ∃ k, laws_FnNeverAhead.f k l0 = some true := by
  intro b _ _
  refine Ev.rounds ?_
  simp only [laws_FnNeverAhead.f, big_ev, Option.bind_some]
  refine ev_ite (fun _ => Ev.now _) (fun h => ?_)
  simp only [decide_eq_true_eq] at h
  have hb : b.length ≤ 1048576 := by omega
  obtain ⟨sc, v, q, e, ev, hsc, hq⟩ := drawPlay_ok b hb
  have hcl := cueFM_length sc v
  refine Ev.bind ev (Ev.bind (implCueFrom_ev sc v (by omega)) (Ev.bind (implPlayAlong_ev sc v q e (by omega) (by omega)) (ev_ite (fun hok => ?_) (fun hok => ?_))))
  · obtain ⟨g1, g2, s, g3, g4⟩ := playM_past (by omega) hok
    have hdl : (playM sc v q e).1.length ≤ 1000 := by
      rw [g3]
      unfold dueM
      split
      · have := colM_len (dueG sc v (-1) s) sc.length 0; omega
      · simp
    refine ev_tail ?_
    simp only [laws_FnNeverAhead.j0]
    refine ev_neg (by (try dsimp only); rw [g1]; simp) ?_
    refine ne_l0 b sc hsc v q e _ _ _ true _ hdl ?_ _ [] rfl (fun x hx => ?_)
    · rw [if_pos hok]
      refine ev_tail ?_
      simp only [laws_FnNeverAhead.j2]
      refine ev_ite (fun _ => ?_) (fun _ => ne_j6 b hb)
      refine ne_l1 b hb q hq e _ _ (by omega) (by omega) _ hdl s g4 (fun x hx => ?_) ((cueFM sc v).1.length + 1) 0 (by omega)
      replace hx : x ∈ (playM sc v q e).fst := hx
      rw [g3] at hx
      obtain ⟨_, k2, k3, _⟩ := dueM_mem hx
      exact ⟨k2, k3⟩
    · replace hx : x ∈ (playM sc v q e).fst := hx
      rw [g3] at hx
      obtain ⟨k1, _, _, k4⟩ := dueM_mem hx
      exact ⟨k1, k4⟩
  · have hn := playM_no hok
    refine ev_tail ?_
    simp only [laws_FnNeverAhead.j0]
    refine ev_neg (by simp) ?_
    rw [hn]
    refine ne_l0 b sc hsc v q e _ _ _ true _ (by simp) ?_ _ [] rfl (fun x hx => by cases hx)
    rw [if_neg (by simp)]
    refine ev_tail ?_
    simp only [laws_FnNeverAhead.j2]
    exact ev_neg (by simp) (ne_j6 b hb)
end Go.Proofs.Ytcgkmcnfhobkiaa.Pure
