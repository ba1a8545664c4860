/-
BestCost of the program and of the reference: the same answer.
Conditions: none.
-/
import Derived.Test.YtoigficcabmoeaaPFnExactBestCostx2
import Derived.Test.YtoigficcabmoeaaBase
namespace Go.Proofs.Ytoigficcabmoeaa.Pure
open Go.RowKit Go.Proofs.Ytoigficcabmoeaa.PFnExactBestCost Go.Proofs.YtoigficcabmoeaaW.PrintWords Go.Proofs.YtoigficcabmoeaaW.PrintLast Go.Proofs.YtoigficcabmoeaaW.PrintMore Go.Proofs.Ytoigficcabmoeaa.Base
set_option linter.unusedVariables false
set_option linter.unusedSimpArgs false

theorem toIntS_l0 (suf : List Int) : ∀ pre : List Int, (pre ++ suf).length ≤ 35184372088832 → Ev (fun k => laws_toIntS.l0 k (pre ++ suf) (pre ++ List.replicate suf.length 0) (pre.length : Int)) (pre ++ suf) := by
  induction suf with
  | nil =>
    intro pre h
    refine ev_tail ?_
    simp only [laws_toIntS.l0]
    refine ev_neg (by simp) ?_
    simpa using Ev.now pre
  | cons x t ih =>
    intro pre h
    have e := ih (pre ++ [x]) (by simpa using h)
    simp only [List.length_append, List.length_cons] at h
    refine ev_tail ?_
    simp only [laws_toIntS.l0]
    refine ev_pos (by simp; omega) (ev_pos (by omega) (ev_pos (by simp; omega) ?_))
    rw [rd_mid, List.length_cons, List.replicate_succ, set_mid, wrap_succ (by omega), snoc_cons pre x t, snoc_cons pre x (List.replicate t.length 0), ← length_snoc pre x]
    exact e
theorem toIntS_ev (l : List Int) (h : l.length ≤ 35184372088832) : Ev (fun k => laws_toIntS.f k l) l := by
  simp only [laws_toIntS.f]
  refine ev_pos (by omega) (ev_pos (by omega) ?_)
  exact toIntS_l0 l [] (by simpa using h)

theorem eqIntS_l0 (suf : List Int) : ∀ pre : List Int, (pre ++ suf).length ≤ 35184372088832 → Ev (fun k => laws_eqIntS.l0 k (pre ++ suf) (pre ++ suf) (pre.length : Int)) true := by
  induction suf with
  | nil =>
    intro pre h
    refine ev_tail ?_
    simp only [laws_eqIntS.l0]
    exact ev_neg (by simp) (Ev.now true)
  | cons x t ih =>
    intro pre h
    have e := ih (pre ++ [x]) (by simpa using h)
    simp only [List.length_append, List.length_cons] at h
    refine ev_tail ?_
    simp only [laws_eqIntS.l0]
    refine ev_pos (by simp; omega) (ev_pos (by omega) (ev_pos (by simp; omega) (ev_pos (by trivial) ?_)))
    rw [wrap_succ (by omega), snoc_cons pre x t, ← length_snoc pre x]
    exact e
theorem eqIntS_ev (l : List Int) (h : l.length ≤ 35184372088832) : Ev (fun k => laws_eqIntS.f k l l) true := by
  simp only [laws_eqIntS.f]
  refine ev_pos (by trivial) ?_
  exact eqIntS_l0 l [] (by simpa using h)

theorem szIntS_some (l : List Int) (b : Int) (hb0 : 0 ≤ b) (hb : b ≤ 1048576) (h : l.length ≤ maxLen) : ∃ r, laws_szIntS.f l b = some r ∧ r ≤ b ∧ (¬ r < 0 → 0 ≤ r ∧ (l.length : Int) ≤ b) := by
  have hm : maxLen = 9223372036854775807 := rfl
  unfold laws_szIntS.f
  rw [wrap_id (by omega) (by omega)]
  by_cases h0 : b - (l.length : Int) < 0
  · exact ⟨-1, by rw [if_pos h0], by omega, fun h => absurd (by omega) h⟩
  · exact ⟨_, by rw [if_neg h0], by omega, fun _ => by omega⟩

theorem szFollower_some (l : List Int) (x b : Int) (hb0 : 0 ≤ b) (hb : b ≤ 1048576) (h : l.length ≤ maxLen) : ∃ r, laws_szFollower.f l x b = some r ∧ r ≤ b ∧ (¬ r < 0 → 0 ≤ r ∧ (l.length : Int) ≤ b) := by
  obtain ⟨r, hr, h1, h2⟩ := szIntS_some l b hb0 hb h
  unfold laws_szFollower.f
  rw [hr]
  simp only [Option.bind_some]
  by_cases h0 : r < 0
  · exact ⟨-1, by rw [if_pos h0], by omega, fun h => absurd (by omega) h⟩
  · exact ⟨r, by rw [if_neg h0], h1, h2⟩

theorem toFollower_ev (l : List Int) (x : Int) (h : l.length ≤ 35184372088832) : Ev (fun k => laws_toFollower.f k l x) (l, x) := by
  simp only [laws_toFollower.f]
  exact Ev.bind (toIntS_ev l h) (Ev.now _)
theorem eqFollower_ev (l : List Int) (x : Int) (h : l.length ≤ 35184372088832) : Ev (fun k => laws_eqFollower.f k l x l x) true := by
  simp only [laws_eqFollower.f]
  exact Ev.bind (eqIntS_ev l h) (ev_pos (by trivial) (ev_pos (by trivial) (Ev.now _)))

/-- Where x stands first in a list, counted from i; -1: nowhere. -/
def idxI : List Int → Int → Int → Int
  | [], _, _ => -1
  | y :: t, x, i => if x = y then i else idxI t x (i + 1)
theorem idxI_bd (l : List Int) (x : Int) : ∀ i, 0 ≤ i → -1 ≤ idxI l x i ∧ idxI l x i < i + l.length + 1 := by
  induction l with
  | nil => intro i h; simp [idxI]; omega
  | cons y t ih =>
    intro i h
    simp only [idxI]
    split
    · simp; omega
    · have := ih (i + 1) (by omega)
      simp only [List.length_cons]
      omega
/-- The least of a number and a list's numbers. -/
def minGo : List Int → Int → Int
  | [], m => m
  | y :: t, m => minGo t (mn m y)
theorem Min_l0 (suf : List Int) : ∀ (pre : List Int) (m : Int), (pre ++ suf).length ≤ 35184372088832 → Ev (fun k => slices_Min_int_int.l0 k (pre ++ suf) m (pre.length : Int)) (minGo suf m) := by
  induction suf with
  | nil =>
    intro pre m h
    refine ev_tail ?_
    simp only [slices_Min_int_int.l0]
    exact ev_neg (by simp) (Ev.now _)
  | cons y t ih =>
    intro pre m h
    have e := ih (pre ++ [y]) (mn m y) (by simpa using h)
    simp only [List.length_append, List.length_cons] at h
    refine ev_tail ?_
    simp only [slices_Min_int_int.l0, minGo]
    refine ev_pos (by simp; omega) (ev_pos (by omega) ?_)
    rw [rd_mid, wrap_succ (by omega), snoc_cons pre y t, ← length_snoc pre y]
    exact e
theorem Min_ev (y : Int) (t : List Int) (h : (y :: t).length ≤ 35184372088832) : Ev (fun k => slices_Min_int_int.f k (y :: t)) (minGo t y) := by
  simp only [slices_Min_int_int.f]
  refine ev_neg (by simp; omega) (ev_pos (by simp) ?_)
  exact Min_l0 t [y] y h
theorem minGo_le (l : List Int) : ∀ m, minGo l m ≤ m ∧ ∀ y ∈ l, minGo l m ≤ y := by
  induction l with
  | nil => intro m; simp [minGo]
  | cons y t ih =>
    intro m
    obtain ⟨h1, h2⟩ := ih (mn m y)
    rw [mn_eq] at h1
    simp only [minGo, mn_eq] at *
    refine ⟨by omega, fun z hz => ?_⟩
    rcases List.mem_cons.1 hz with rfl | hz
    · omega
    · exact h2 z hz
/-- The first place of the least number. -/
def posM : List Int → Int
  | [] => 0
  | y :: t => idxI (y :: t) (minGo t y) 0
def bestM : List Int → Int
  | [] => 0
  | y :: t => minGo t y
theorem idxI_at (l : List Int) (x : Int) : ∀ (p i : Nat), p < l.length → l.getD p 0 = x → (∀ j, j < p → l.getD j 0 ≠ x) → idxI l x (i : Int) = ((i + p : Nat) : Int) := by
  induction l with
  | nil => intro p i h; simp at h
  | cons y t ih =>
    intro p i h h1 h2
    cases p with
    | zero =>
      simp only [List.getD_cons_zero] at h1
      simp [idxI, h1]
    | succ p =>
      have h0 : y ≠ x := by simpa using h2 0 (by omega)
      simp only [idxI]
      rw [if_neg (fun h => h0 h.symm)]
      have := ih p (i + 1) (by simpa using h) (by simpa using h1) (fun j hj => by simpa using h2 (j + 1) (by omega))
      rw [show ((i : Int) + 1) = ((i + 1 : Nat) : Int) by omega, this]
      omega
theorem minGo_mem (l : List Int) : ∀ m, minGo l m = m ∨ minGo l m ∈ l := by
  induction l with
  | nil => intro m; simp [minGo]
  | cons y t ih =>
    intro m
    simp only [minGo]
    rcases ih (mn m y) with h | h
    · rw [h, mn_eq]
      rcases Int.le_total m y with hl | hl
      · left; omega
      · right; rw [show min m y = y by omega]; simp
    · right; simp [h]
/-- The place that the reference finds. -/
def IsPos (l : List Int) (p : Nat) : Prop := p < l.length ∧ (∀ j, j < l.length → l.getD p 0 ≤ l.getD j 0) ∧ ∀ j, j < p → l.getD p 0 < l.getD j 0
theorem posM_of (l : List Int) (p : Nat) (h : IsPos l p) : posM l = (p : Int) ∧ bestM l = l.getD p 0 := by
  obtain ⟨h0, h1, h2⟩ := h
  cases l with
  | nil => simp at h0
  | cons y t =>
    have hm : minGo t y = (y :: t).getD p 0 := by
      have hle := minGo_le t y
      apply Int.le_antisymm
      · have hmem : (y :: t).getD p 0 ∈ y :: t := by
          rw [List.getD_eq_getElem?_getD, List.getElem?_eq_getElem h0]; exact List.getElem_mem h0
        rcases List.mem_cons.1 hmem with h | h
        · rw [h]; exact hle.1
        · exact hle.2 _ h
      · rcases minGo_mem t y with h | h
        · rw [h]; exact h1 0 (by simp)
        · obtain ⟨j, hj, hje⟩ := List.getElem_of_mem h
          have := h1 (j + 1) (by simpa using hj)
          rw [List.getD_cons_succ, List.getD_eq_getElem?_getD (l := t), List.getElem?_eq_getElem hj, Option.getD_some, hje] at this
          exact this
    refine ⟨?_, hm⟩
    simp only [posM]
    have := idxI_at (y :: t) (minGo t y) p 0 h0 hm.symm (fun j hj => by have := h2 j hj; omega)
    simpa using this
theorem specPos_l0 (l : List Int) (x : Int) (hl : l.length ≤ 35184372088832) (d : Nat) : ∀ (i p : Nat), i + d = l.length → p < i → (∀ j, j < i → l.getD p 0 ≤ l.getD j 0) → (∀ j, j < p → l.getD p 0 < l.getD j 0) → ∃ q, IsPos l q ∧ Ev (fun k => spec_PositionOf.l0 k (p : Int) (i : Int) l x) (q : Int) := by
  induction d with
  | zero =>
    intro i p hi hp h1 h2
    refine ⟨p, ⟨by omega, fun j hj => h1 j (by omega), h2⟩, ev_tail ?_⟩
    simp only [spec_PositionOf.l0]
    exact ev_neg (by omega) (Ev.now _)
  | succ d ih =>
    intro i p hi hp h1 h2
    have w1 : wrap64 ((i : Int) + 1) = ((i + 1 : Nat) : Int) := wrap_succ (by omega)
    by_cases hlt : l.getD i 0 < l.getD p 0
    · obtain ⟨q, hq, e⟩ := ih (i + 1) i (by omega) (by omega) (fun j hj => by
        rcases Nat.lt_or_ge j i with h | h
        · have := h1 j h; omega
        · have : j = i := by omega
          subst this; omega) (fun j hj => by have := h1 j hj; omega)
      refine ⟨q, hq, ev_tail ?_⟩
      simp only [spec_PositionOf.l0, w1, rd_nat]
      exact ev_pos (by omega) (ev_pos (by omega) (ev_pos (by omega) (ev_pos (by omega) (ev_pos hlt e))))
    · obtain ⟨q, hq, e⟩ := ih (i + 1) p (by omega) (by omega) (fun j hj => by
        rcases Nat.lt_or_ge j i with h | h
        · exact h1 j h
        · have : j = i := by omega
          subst this; omega) h2
      refine ⟨q, hq, ev_tail ?_⟩
      simp only [spec_PositionOf.l0, w1, rd_nat]
      exact ev_pos (by omega) (ev_pos (by omega) (ev_pos (by omega) (ev_pos (by omega) (ev_neg hlt e))))
theorem specPos (l : List Int) (x : Int) (hl : l.length ≤ 35184372088832) (h0 : l ≠ []) : ∃ q, IsPos l q ∧ Ev (fun k => spec_PositionOf.f k l x) (q : Int) := by
  cases l with
  | nil => exact absurd rfl h0
  | cons y t =>
    simp only [spec_PositionOf.f]
    obtain ⟨q, hq, e⟩ := specPos_l0 (y :: t) x hl t.length 1 0 (by simp; omega) (by omega) (fun j hj => by
      have : j = 0 := by omega
      subst this
      exact Int.le_refl _) (fun j hj => by omega)
    exact ⟨q, hq, by simpa using e⟩
theorem specPositionOf_ev (l : List Int) (x : Int) (hl : l.length ≤ 35184372088832) : Ev (fun k => spec_PositionOf.f k l x) (posM l) := by
  by_cases h0 : l = []
  · subst h0
    simp only [spec_PositionOf.f, posM]
    refine ev_tail ?_
    simp only [spec_PositionOf.l0]
    exact ev_neg (by simp) (Ev.now _)
  · obtain ⟨q, hq, e⟩ := specPos l x hl h0
    rw [(posM_of l q hq).1]
    exact e

theorem specBestCost_ev (l : List Int) (x : Int) (hl : l.length ≤ 35184372088832) : Ev (fun k => spec_BestCost.f k l x) (bestM l) := by
  simp only [spec_BestCost.f]
  by_cases h0 : l = []
  · subst h0
    exact ev_pos (by simp) (Ev.now _)
  · obtain ⟨q, hq, e⟩ := specPos l x hl h0
    have hp := hq.1
    refine ev_neg (by simpa using h0) (Ev.bind e (ev_pos (by omega) (ev_pos (by omega) ?_)))
    rw [(posM_of l q hq).2, rd_nat]
    exact Ev.now _
theorem implBestCost_ev (l : List Int) (x : Int) (hl : l.length ≤ 35184372088832) : Ev (fun k => impl_BestCost.f k l x) (bestM l) := by
  simp only [impl_BestCost.f]
  cases l with
  | nil => exact ev_pos (by simp) (Ev.now _)
  | cons y t =>
    refine ev_neg (by simp; omega) ?_
    exact Ev.bind (Min_ev y t hl) (Ev.now _)

theorem FnExactBestCost : ∀ (l0_0 : List (Int)) (a0_1 : Int), (l0_0.length ≤ maxLen) → (∀ x ∈ l0_0, (Lit.int .i64 x).wf = true) → (Lit.int .i64 a0_1).wf = true → ∃ k, laws_FnExactBestCost.f k l0_0 a0_1 = some true := by
  intro l x hl _ _
  refine Ev.rounds ?_
  simp only [laws_FnExactBestCost.f]
  obtain ⟨r, hr, _, hb⟩ := szFollower_some l x 1048576 (by omega) (by omega) hl
  refine ev_val hr (ev_ite (fun _ => Ev.now _) (fun h => ?_))
  obtain ⟨_, h1⟩ := hb h
  refine Ev.bind (toFollower_ev l x (by omega)) (Ev.bind (specBestCost_ev l x (by omega)) ?_)
  refine Ev.bind (toFollower_ev l x (by omega)) (Ev.bind (implBestCost_ev l x (by omega)) (ev_pos (by trivial) ?_))
  exact Ev.bind (toFollower_ev l x (by omega)) (Ev.bind (eqFollower_ev l x (by omega)) (ev_pos (by trivial) (Ev.now _)))
end Go.Proofs.Ytoigficcabmoeaa.Pure
