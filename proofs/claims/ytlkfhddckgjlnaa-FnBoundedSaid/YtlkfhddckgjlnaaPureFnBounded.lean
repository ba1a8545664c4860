/-
With a window that is wide enough following is the same, and the work is bounded: the law answers true for whatever bytes it draws from.
Conditions: none.
-/
import Derived.Test.YtlkfhddckgjlnaaPFnBoundedx17
import Derived.Test.YtlkfhddckgjlnaaBase
namespace Go.Proofs.Ytlkfhddckgjlnaa.Pure
open Go.RowKit Go.Proofs.Ytlkfhddckgjlnaa.PFnBounded Go.Proofs.YtlkfhddckgjlnaaW.PrintWords Go.Proofs.YtlkfhddckgjlnaaW.PrintLast Go.Proofs.YtlkfhddckgjlnaaW.PrintMore Go.Proofs.Ytlkfhddckgjlnaa.Base
set_option linter.unusedVariables false
set_option linter.unusedSimpArgs false

theorem l1In_eq (a b c : Int) : spec_l1In.f a b c = some (decide (b ≤ a ∧ a ≤ c)) := by
  unfold spec_l1In.f
  by_cases h1 : b ≤ a <;> by_cases h2 : a ≤ c <;> simp [h1, h2]
theorem InRange_eq (a b c : Int) : impl_InRange.f a b c = some (decide (b ≤ a ∧ a ≤ c)) := by
  unfold impl_InRange.f
  by_cases h1 : b ≤ a <;> by_cases h2 : a ≤ c <;> simp [h1, h2]

/-- 0, 1, .. -/
def countI (n : Nat) : List Int := (List.range n).map fun (j : Nat) => (j : Int)
theorem countI_succ (n : Nat) : countI (n + 1) = countI n ++ [(n : Int)] := by simp [countI, List.range_succ]
theorem countI_length (n : Nat) : (countI n).length = n := by simp [countI]
def startM (t : List Int) : List Int × Int × Bool := if t.length ≤ 40 then (countI (t.length + 1), 0, true) else ([], 0, false)
theorem specStart_l0 (t : List Int) (h : t.length ≤ 40) (d : Nat) : ∀ i, i + d = t.length + 1 → Ev (fun k => spec_StartFollower.l0 k t (i : Int) (countI i) 0) (countI (t.length + 1), 0, true) := by
  induction d with
  | zero =>
    intro i hi
    refine ev_tail ?_
    simp only [spec_StartFollower.l0]
    obtain rfl : i = t.length + 1 := by omega
    exact ev_neg (by omega) (Ev.now _)
  | succ d ih =>
    intro i hi
    have e := ih (i + 1) (by omega)
    refine ev_tail ?_
    simp only [spec_StartFollower.l0]
    refine ev_pos (by omega) (ev_pos (by rw [countI_length]; omega) ?_)
    rw [wrap_succ (by omega), ← countI_succ]
    exact e
theorem implStart_l0 (n : Nat) (h : n ≤ 41) (d : Nat) : ∀ i, i + d = n → Ev (fun k => impl_StartFollower.l0 k (n : Int) (i : Int) (countI i) 0) (countI n, 0, true) := by
  induction d with
  | zero =>
    intro i hi
    refine ev_tail ?_
    simp only [impl_StartFollower.l0]
    obtain rfl : i = n := by omega
    exact ev_neg (by omega) (Ev.now _)
  | succ d ih =>
    intro i hi
    have e := ih (i + 1) (by omega)
    refine ev_tail ?_
    simp only [impl_StartFollower.l0]
    refine ev_pos (by omega) (ev_pos (by rw [countI_length]; omega) ?_)
    rw [wrap_succ (by omega), ← countI_succ]
    exact e
theorem specStartFollower_ev (t : List Int) : Ev (fun k => spec_StartFollower.f k t) (startM t) := by
  simp only [spec_StartFollower.f, startM]
  by_cases h : t.length ≤ 40
  · rw [if_pos h]
    have e := specStart_l0 t h (t.length + 1) 0 (by omega)
    exact ev_neg (by omega) (by simpa [countI] using e)
  · rw [if_neg h]
    exact ev_pos (by omega) (Ev.now _)
theorem implStartFollower_ev (t : List Int) : Ev (fun k => impl_StartFollower.f k t) (startM t) := by
  simp only [impl_StartFollower.f, startM]
  by_cases h : t.length ≤ 40
  · rw [if_pos h]
    refine ev_neg (by omega) ?_
    rw [wrap_succ (by omega)]
    have e := implStart_l0 (t.length + 1) (by omega) (t.length + 1) 0 (by omega)
    simpa [countI] using e
  · rw [if_neg h]
    exact ev_pos (by omega) (Ev.now _)
theorem startM_length (t : List Int) : (startM t).1.length ≤ 41 := by
  unfold startM
  split
  · simp [countI_length]; omega
  · simp

def folC (l : List Int) (i : Int) : Bool := decide (0 ≤ rd l i ∧ rd l i ≤ 1000 ∧ (0 < i → -1 ≤ wrap64 (rd l i - rd l (i - 1)) ∧ wrap64 (rd l i - rd l (i - 1)) ≤ 1))
def folM (t l : List Int) (x : Int) : Bool := allF (folC l) (decide ((t.length : Int) ≤ 40 ∧ (l.length : Int) = (t.length : Int) + 1 ∧ 0 ≤ x ∧ x ≤ 1000)) l.length 0
theorem specIsFollower_ev (t l : List Int) (x : Int) (ht : t.length ≤ 1048576) (h : l.length ≤ 1048577) : Ev (fun k => spec_IsFollower.f k t l x) (folM t l x) := by
  simp only [spec_IsFollower.f]
  refine ev_all (L := fun k i => spec_IsFollower.l0 k t i l x) (n := l.length) (fun i hi => ?_) ?_ l.length 0 (by omega)
  · have w1 : wrap64 ((i : Int) + 1) = (i : Int) + 1 := wrap_id (by omega) (by omega)
    have w2 : wrap64 ((i : Int) - 1) = (i : Int) - 1 := wrap_id (by omega) (by omega)
    constructor
    · intro hc r e
      simp only [folC, decide_eq_true_eq] at hc
      obtain ⟨h1, h2, h5⟩ := hc
      refine ev_tail ?_
      simp only [spec_IsFollower.l0, l1In_eq, Option.bind_some, w1, w2]
      refine ev_pos (by omega) (ev_pos (by omega) (ev_pos (by simpa using ⟨h1, h2⟩) ?_))
      refine ev_ite (fun h0 => ?_) (fun _ => e)
      exact ev_pos (by omega) (ev_pos (by omega) (ev_pos (by simpa using h5 h0) e))
    · intro hc
      simp only [folC, decide_eq_false_iff_not] at hc
      refine ev_tail ?_
      simp only [spec_IsFollower.l0, l1In_eq, Option.bind_some, w1, w2]
      refine ev_pos (by omega) (ev_pos (by omega) (ev_ite (fun h1 => ?_) (fun _ => Ev.now _)))
      simp only [decide_eq_true_eq] at h1
      refine ev_ite (fun h0 => ?_) (fun h0 => absurd ⟨h1.1, h1.2, fun h => absurd h h0⟩ hc)
      refine ev_pos (by omega) (ev_pos (by omega) (ev_ite (fun h3 => ?_) (fun _ => Ev.now _)))
      simp only [decide_eq_true_eq] at h3
      exact absurd ⟨h1.1, h1.2, fun _ => h3⟩ hc
  · refine ev_tail ?_
    have w3 : wrap64 ((t.length : Int) + 1) = (t.length : Int) + 1 := wrap_id (by omega) (by omega)
    simp only [spec_IsFollower.l0, l1In_eq, Option.bind_some, w3]
    refine ev_neg (by omega) (ev_ite (fun h1 => ev_ite (fun h2 => ?_) (fun h2 => ?_)) (fun h1 => ?_))
    · simpa [h1, h2] using Ev.now _
    · simpa [h1, h2] using Ev.now _
    · simpa [h1] using Ev.now _
theorem implIsFollower_ev (t l : List Int) (x : Int) (ht : t.length ≤ 1048576) (h : l.length ≤ 1048577) : Ev (fun k => impl_IsFollower.f k t l x) (folM t l x) := by
  simp only [impl_IsFollower.f]
  refine ev_all (L := fun k i => impl_IsFollower.l0 k t l (l.length : Int) i l x) (n := l.length) (fun i hi => ?_) ?_ l.length 0 (by omega)
  · have w1 : wrap64 ((i : Int) + 1) = (i : Int) + 1 := wrap_id (by omega) (by omega)
    have w2 : wrap64 ((i : Int) - 1) = (i : Int) - 1 := wrap_id (by omega) (by omega)
    constructor
    · intro hc r e
      simp only [folC, decide_eq_true_eq] at hc
      obtain ⟨h1, h2, h5⟩ := hc
      refine ev_tail ?_
      simp only [impl_IsFollower.l0, InRange_eq, Option.bind_some, w1, w2]
      refine ev_pos (by omega) (ev_pos (by omega) (ev_pos (by omega) (ev_pos (by simpa using ⟨h1, h2⟩) ?_)))
      refine ev_ite (fun h0 => ?_) (fun _ => e)
      exact ev_pos (by omega) (ev_pos (by omega) (ev_pos (by simpa using h5 h0) e))
    · intro hc
      simp only [folC, decide_eq_false_iff_not] at hc
      refine ev_tail ?_
      simp only [impl_IsFollower.l0, InRange_eq, Option.bind_some, w1, w2]
      refine ev_pos (by omega) (ev_pos (by omega) (ev_pos (by omega) (ev_ite (fun h1 => ?_) (fun _ => Ev.now _))))
      simp only [decide_eq_true_eq] at h1
      refine ev_ite (fun h0 => ?_) (fun h0 => absurd ⟨h1.1, h1.2, fun h => absurd h h0⟩ hc)
      refine ev_pos (by omega) (ev_pos (by omega) (ev_ite (fun h3 => ?_) (fun _ => Ev.now _)))
      simp only [decide_eq_true_eq] at h3
      exact absurd ⟨h1.1, h1.2, fun _ => h3⟩ hc
  · refine ev_tail ?_
    have w3 : wrap64 ((t.length : Int) + 1) = (t.length : Int) + 1 := wrap_id (by omega) (by omega)
    simp only [impl_IsFollower.l0, InRange_eq, Option.bind_some, w3]
    refine ev_neg (by omega) (ev_ite (fun h1 => ev_ite (fun h2 => ?_) (fun h2 => ?_)) (fun h1 => ?_))
    · simpa [h1, h2] using Ev.now _
    · simpa [h1, h2] using Ev.now _
    · simpa [h1] using Ev.now _

/-- Where x stands first in a list, counted from i; -1: nowhere. -/
def idxI : List Int → Int → Int → Int
  | [], _, _ => -1
  | y :: t, x, i => if x = y then i else idxI t x (i + 1)
theorem Index_l0 (x : Int) (suf : List Int) : ∀ pre : List Int, (pre ++ suf).length ≤ 35184372088832 → Ev (fun k => slices_Index_int_int.l0 k (pre ++ suf) x ((pre ++ suf).length : Int) (pre.length : Int)) (idxI suf x (pre.length : Int)) := by
  induction suf with
  | nil =>
    intro pre h
    refine ev_tail ?_
    simp only [slices_Index_int_int.l0]
    exact ev_neg (by simp) (Ev.now _)
  | cons y t ih =>
    intro pre h
    have e := ih (pre ++ [y]) (by simpa using h)
    simp only [List.length_append, List.length_cons] at h
    refine ev_tail ?_
    simp only [slices_Index_int_int.l0, idxI]
    refine ev_pos (by simp; omega) (ev_pos (by omega) (ev_pos (by simp; omega) ?_))
    rw [rd_mid]
    by_cases hy : x = y
    · rw [if_pos hy]
      exact ev_pos hy (Ev.now _)
    · rw [if_neg hy]
      refine ev_neg hy ?_
      rw [wrap_succ (by omega), snoc_cons pre y t, ← length_snoc pre y]
      simpa using e
theorem Index_ev (l : List Int) (x : Int) (h : l.length ≤ 35184372088832) : Ev (fun k => slices_Index_int_int.f k l x) (idxI l x 0) := by
  simp only [slices_Index_int_int.f]
  exact Index_l0 x l [] (by simpa using h)

/-- The least of a number and a list's numbers. -/
def minGo : List Int → Int → Int
  | [], m => m
  | y :: t, m => minGo t (mn m y)
theorem Min_l0 (suf : List Int) : ∀ (pre : List Int) (m : Int), (pre ++ suf).length ≤ 35184372088832 → Ev (fun k => slices_Min_int_int.l0 k (pre ++ suf) m (pre.length : Int)) (minGo suf m) := by
  induction suf with
  | nil =>
    intro pre m h
    refine ev_tail ?_
    simp only [slices_Min_int_int.l0]
    exact ev_neg (by simp) (Ev.now _)
  | cons y t ih =>
    intro pre m h
    have e := ih (pre ++ [y]) (mn m y) (by simpa using h)
    simp only [List.length_append, List.length_cons] at h
    refine ev_tail ?_
    simp only [slices_Min_int_int.l0, minGo]
    refine ev_pos (by simp; omega) (ev_pos (by omega) ?_)
    rw [rd_mid, wrap_succ (by omega), snoc_cons pre y t, ← length_snoc pre y]
    exact e
theorem Min_ev (y : Int) (t : List Int) (h : (y :: t).length ≤ 35184372088832) : Ev (fun k => slices_Min_int_int.f k (y :: t)) (minGo t y) := by
  simp only [slices_Min_int_int.f]
  refine ev_neg (by simp; omega) (ev_pos (by simp) ?_)
  exact Min_l0 t [y] y h
theorem minGo_le (l : List Int) : ∀ m, minGo l m ≤ m ∧ ∀ y ∈ l, minGo l m ≤ y := by
  induction l with
  | nil => intro m; simp [minGo]
  | cons y t ih =>
    intro m
    obtain ⟨h1, h2⟩ := ih (mn m y)
    rw [mn_eq] at h1
    simp only [minGo, mn_eq] at *
    refine ⟨by omega, fun z hz => ?_⟩
    rcases List.mem_cons.1 hz with rfl | hz
    · omega
    · exact h2 z hz
/-- The first place of the least number. -/
def posM : List Int → Int
  | [] => 0
  | y :: t => idxI (y :: t) (minGo t y) 0
def bestM : List Int → Int
  | [] => 0
  | y :: t => minGo t y
theorem idxI_at (l : List Int) (x : Int) : ∀ (p i : Nat), p < l.length → l.getD p 0 = x → (∀ j, j < p → l.getD j 0 ≠ x) → idxI l x (i : Int) = ((i + p : Nat) : Int) := by
  induction l with
  | nil => intro p i h; simp at h
  | cons y t ih =>
    intro p i h h1 h2
    cases p with
    | zero =>
      simp only [List.getD_cons_zero] at h1
      simp [idxI, h1]
    | succ p =>
      have h0 : y ≠ x := by simpa using h2 0 (by omega)
      simp only [idxI]
      rw [if_neg (fun h => h0 h.symm)]
      have := ih p (i + 1) (by simpa using h) (by simpa using h1) (fun j hj => by simpa using h2 (j + 1) (by omega))
      rw [show ((i : Int) + 1) = ((i + 1 : Nat) : Int) by omega, this]
      omega
theorem minGo_mem (l : List Int) : ∀ m, minGo l m = m ∨ minGo l m ∈ l := by
  induction l with
  | nil => intro m; simp [minGo]
  | cons y t ih =>
    intro m
    simp only [minGo]
    rcases ih (mn m y) with h | h
    · rw [h, mn_eq]
      rcases Int.le_total m y with hl | hl
      · left; omega
      · right; rw [show min m y = y by omega]; simp
    · right; simp [h]
/-- The place that the reference finds. -/
def IsPos (l : List Int) (p : Nat) : Prop := p < l.length ∧ (∀ j, j < l.length → l.getD p 0 ≤ l.getD j 0) ∧ ∀ j, j < p → l.getD p 0 < l.getD j 0
theorem posM_of (l : List Int) (p : Nat) (h : IsPos l p) : posM l = (p : Int) ∧ bestM l = l.getD p 0 := by
  obtain ⟨h0, h1, h2⟩ := h
  cases l with
  | nil => simp at h0
  | cons y t =>
    have hm : minGo t y = (y :: t).getD p 0 := by
      have hle := minGo_le t y
      apply Int.le_antisymm
      · have hmem : (y :: t).getD p 0 ∈ y :: t := by
          rw [List.getD_eq_getElem?_getD, List.getElem?_eq_getElem h0]; exact List.getElem_mem h0
        rcases List.mem_cons.1 hmem with h | h
        · rw [h]; exact hle.1
        · exact hle.2 _ h
      · rcases minGo_mem t y with h | h
        · rw [h]; exact h1 0 (by simp)
        · obtain ⟨j, hj, hje⟩ := List.getElem_of_mem h
          have := h1 (j + 1) (by simpa using hj)
          rw [List.getD_cons_succ, List.getD_eq_getElem?_getD (l := t), List.getElem?_eq_getElem hj, Option.getD_some, hje] at this
          exact this
    refine ⟨?_, hm⟩
    simp only [posM]
    have := idxI_at (y :: t) (minGo t y) p 0 h0 hm.symm (fun j hj => by have := h2 j hj; omega)
    simpa using this
theorem implPositionOf_ev (l : List Int) (x : Int) (hl : l.length ≤ 35184372088832) : Ev (fun k => impl_PositionOf.f k l x) (posM l) := by
  simp only [impl_PositionOf.f]
  cases l with
  | nil => exact ev_pos (by simp) (Ev.now _)
  | cons y t =>
    refine ev_neg (by simp; omega) ?_
    exact Ev.bind (Min_ev y t hl) (Ev.bind (Index_ev _ _ hl) (Ev.now _))

def okM (t l : List Int) (x w : Int) : Bool := l.all inFar && decide (t.length ≤ 40 ∧ l.length = t.length + 1 ∧ 0 ≤ x ∧ x ≤ 500 ∧ 1 ≤ w ∧ w ≤ 40)
theorem okM_facts {t l : List Int} {x w : Int} (h : okM t l x w = true) : t.length ≤ 40 ∧ l.length = t.length + 1 ∧ (0 ≤ x ∧ x ≤ 500) ∧ (1 ≤ w ∧ w ≤ 40) ∧ ∀ c ∈ l, 0 ≤ c ∧ c ≤ 500 := by
  unfold okM at h
  rw [Bool.and_eq_true, List.all_eq_true] at h
  obtain ⟨h1, h2⟩ := h
  simp only [decide_eq_true_eq] at h2
  obtain ⟨a, b, c, d, e, f⟩ := h2
  exact ⟨a, b, ⟨c, d⟩, ⟨e, f⟩, fun z hz => by have := h1 z hz; simpa [inFar] using this⟩
theorem isPos_ex (l : List Int) (n : Nat) : 0 < n → n ≤ l.length → ∃ p, p < n ∧ (∀ j, j < n → l.getD p 0 ≤ l.getD j 0) ∧ ∀ j, j < p → l.getD p 0 < l.getD j 0 := by
  induction n with
  | zero => intro h; omega
  | succ n ih =>
    intro _ hn
    by_cases h0 : n = 0
    · subst h0
      exact ⟨0, by omega, fun j hj => by obtain rfl : j = 0 := (by omega); exact Int.le_refl _, fun j hj => by omega⟩
    · obtain ⟨p, h1, h2, h3⟩ := ih (by omega) (by omega)
      by_cases h4 : l.getD n 0 < l.getD p 0
      · refine ⟨n, by omega, fun j hj => ?_, fun j hj => ?_⟩
        · by_cases h5 : j = n
          · subst h5; exact Int.le_refl _
          · have := h2 j (by omega); omega
        · have := h2 j hj; omega
      · refine ⟨p, by omega, fun j hj => ?_, h3⟩
        by_cases h5 : j = n
        · subst h5; omega
        · exact h2 j (by omega)
theorem posM_bound {l : List Int} (hl : l.length ≤ 35184372088832) (h0 : l ≠ []) : 0 ≤ posM l ∧ posM l < l.length := by
  obtain ⟨q, h⟩ := isPos_ex l l.length (by cases l with | nil => exact absurd rfl h0 | cons y t => simp) (Nat.le_refl _)
  rw [(posM_of l q h).1]
  have := h.1
  omega
def winM (t l : List Int) (x w : Int) : Int × Int × Bool := if okM t l x w = true then (max (posM l - w) 0, min (posM l + w) (t.length : Int), true) else (0, 0, false)
theorem anyFar_eq (l : List Int) : slices_ContainsFunc_int_int.f l = some (!(l.all inFar)) := by
  unfold slices_ContainsFunc_int_int.f
  rw [List.not_all_eq_any_not]
theorem implWindow_ev (t l : List Int) (x w : Int) (ht : t.length ≤ 1048576) (hl : l.length ≤ 1048577) : Ev (fun k => impl_window.f k t l x w) (winM t l x w) := by
  simp only [impl_window.f, InRange_eq, Option.bind_some]
  refine ev_val (anyFar_eq l) ?_
  have w3 : Aside0 (wrap64 ((t.length : Int) + 1) = (t.length : Int) + 1) := ⟨wrap_id (by omega) (by omega)⟩
  rw [w3.out]
  have no : okM t l x w ≠ true → winM t l x w = (0, 0, false) := fun h => if_neg h
  refine ev_ite (fun h1 => ?_) (fun h1 => ?_)
  · rw [no (fun h => ?_)]
    · exact Ev.now _
    · simp only [okM, Bool.and_eq_true] at h
      rw [h.1] at h1; cases h1
  have a1 : l.all inFar = true := by simpa using h1
  refine ev_ite (fun h2 => ?_) (fun h2 => ?_)
  · rw [no (fun h => by have := (okM_facts h).1; omega)]; exact Ev.now _
  refine ev_ite (fun h3 => ?_) (fun h3 => ?_)
  rotate_left
  · rw [no (fun h => by have := (okM_facts h).2.1; omega)]; exact Ev.now _
  refine ev_ite (fun h4 => ?_) (fun h4 => ?_)
  rotate_left
  · rw [no (fun h => h4 (decide_eq_true (okM_facts h).2.2.1))]; exact Ev.now _
  refine ev_ite (fun h5 => ?_) (fun h5 => ?_)
  rotate_left
  · rw [no (fun h => h5 (decide_eq_true (okM_facts h).2.2.2.1))]; exact Ev.now _
  simp only [decide_eq_true_eq] at h4 h5
  have hb := posM_bound (l := l) (by omega) (by intro h; subst h; simp at h3; omega)
  have hok : okM t l x w = true := by
    unfold okM
    rw [a1, Bool.true_and]
    exact decide_eq_true ⟨by omega, by omega, h4.1, h4.2, h5.1, h5.2⟩
  refine Ev.bind (implPositionOf_ev l x (by omega)) ?_
  rw [winM, if_pos hok]
  refine ev_eq (Ev.now _) ?_
  rw [wrap_id (by omega) (by omega), wrap_id (by omega) (by omega), mx_eq, mn_eq]

theorem specMin_eq (a b : Int) : spec_Min.f a b = some (min a b) := by
  unfold spec_Min.f
  by_cases h : b < a
  · rw [if_pos h]; congr 1; omega
  · rw [if_neg h]; congr 1; omega
def workM (t l : List Int) (x w : Int) : Int := if okM t l x w = true then min (posM l + w) (t.length : Int) - max (posM l - w) 0 + 1 else 0
theorem implWorkOf_ev (t l : List Int) (x w : Int) (ht : t.length ≤ 1048576) (hl : l.length ≤ 1048577) : Ev (fun k => impl_WorkOf.f k t l x w) (workM t l x w) := by
  simp only [impl_WorkOf.f]
  refine Ev.bind (implWindow_ev t l x w ht hl) ?_
  by_cases h : okM t l x w = true
  · obtain ⟨h1, h2, h3, h4, h5⟩ := okM_facts h
    have hb := posM_bound (l := l) (by omega) (by intro h; subst h; simp at h2)
    rw [winM, if_pos h, workM, if_pos h]
    refine ev_pos rfl (ev_eq (Ev.now _) ?_)
    rw [wrap_id (n := min (posM l + w) (t.length : Int) - max (posM l - w) 0) (by omega) (by omega), wrap_id (by omega) (by omega)]
  · rw [winM, if_neg h, workM, if_neg h]
    exact ev_neg (by simp) (Ev.now _)

/-- 0 for two like numbers, else 1. -/
def unl1 (x p : Int) : Int := if x = p then 0 else 1
theorem unl1_le (x p : Int) : 0 ≤ unl1 x p ∧ unl1 x p ≤ 1 := by unfold unl1; split <;> omega
theorem unlike_eq (x p : Int) : impl_unlike.f x p = some (unl1 x p) := by
  unfold impl_unlike.f unl1
  by_cases h : x = p <;> simp [h]
theorem l17Copy_eq (l : List Int) (x : Int) (h : l.length < 17592186044416) : spec_l17Copy.f l x = some (l, x) := by
  unfold spec_l17Copy.f
  simp [h]
theorem clone_eq (l : List Int) (h : l.length < 17592186044416) : impl_clone_int.f l = some l := by
  unfold impl_clone_int.f
  simp [h]

theorem rd_at (pre : List Int) (x : Int) (suf : List Int) {i : Int} (h : i = (pre.length : Int)) : rd (pre ++ x :: suf) i = x := by
  subst h; exact rd_mid pre x suf
theorem rd_at1 (pre : List Int) (d x : Int) (suf : List Int) {i : Int} (h : i = ((pre.length + 1 : Nat) : Int)) : rd (pre ++ d :: x :: suf) i = x := by
  rw [snoc_cons]; exact rd_at _ _ _ (by simp; omega)
theorem set_at1 (pre : List Int) (d x y : Int) (suf : List Int) {i : Int} (h : i = ((pre.length + 1 : Nat) : Int)) : (pre ++ d :: x :: suf).set i.toNat y = pre ++ d :: y :: suf := by
  subst h
  rw [snoc_cons]
  have e := set_mid (pre ++ [d]) x y suf
  rw [length_snoc] at e
  rw [e]; simp
def stepV (p x d o c : Int) : Int := min (min (c + 1) (o + 1)) (d + unl1 x p)
/-- The costs behind the first one, once a pitch is heard. -/
def folRow (p : Int) : List Int → Int → Int → List Int → List Int
  | x :: t, d, o, c :: cs => stepV p x d o c :: folRow p t c (stepV p x d o c) cs
  | _, _, _, _ => []
theorem folRow_length (p : Int) (t : List Int) : ∀ (d o : Int) (cs : List Int), cs.length = t.length → (folRow p t d o cs).length = cs.length := by
  induction t with
  | nil => intro d o cs h; cases cs with
    | nil => rfl
    | cons c cs => simp at h
  | cons x t ih =>
    intro d o cs h
    cases cs with
    | nil => simp at h
    | cons c cs => simp only [folRow, List.length_cons]; rw [ih _ _ _ (by simpa using h)]
def stepRow (t l : List Int) (x p : Int) : List Int × Int := match l with
  | [] => ([], x + 1)
  | c :: cs => ((c + 1) :: folRow p t c (c + 1) cs, x + 1)
def stepM (t l : List Int) (x p : Int) : List Int × Int := if folM t l x = true ∧ x ≤ 500 then stepRow t l x p else (l, x)
theorem folM_facts {t l : List Int} {x : Int} (h : folM t l x = true) : t.length ≤ 40 ∧ l.length = t.length + 1 ∧ 0 ≤ x ∧ x ≤ 1000 ∧ ∀ c ∈ l, 0 ≤ c ∧ c ≤ 1000 := by
  unfold folM at h
  rw [allF_iff] at h
  obtain ⟨h1, h2⟩ := h
  simp only [decide_eq_true_eq] at h1
  refine ⟨by omega, by omega, h1.2.2.1, h1.2.2.2, fun c hc => ?_⟩
  obtain ⟨j, hj, rfl⟩ := List.getElem_of_mem hc
  have h3 := h2 j (by omega) (by omega)
  simp only [folC, decide_eq_true_eq] at h3
  have e : rd l (j : Int) = l[j] := by rw [rd_nat, List.getD_eq_getElem?_getD, List.getElem?_eq_getElem hj, Option.getD_some]
  rw [e] at h3
  exact ⟨h3.1, h3.2.1⟩
theorem stepV_bound {p x d o c : Int} (hd : 0 ≤ d ∧ d ≤ 1001) (ho : 0 ≤ o ∧ o ≤ 1001) (hc : 0 ≤ c ∧ c ≤ 1000) : 0 ≤ stepV p x d o c ∧ stepV p x d o c ≤ 1001 := by
  have := unl1_le x p
  unfold stepV; omega
theorem implStep_l0 (p x h : Int) (ts : List Int) : ∀ (tp lp op cs : List Int) (d o : Int), tp.length = lp.length → op.length = lp.length → cs.length = ts.length → (tp ++ ts).length ≤ 40 → (0 ≤ d ∧ d ≤ 1000) → (0 ≤ o ∧ o ≤ 1001) → (∀ c ∈ cs, 0 ≤ c ∧ c ≤ 1000) →
    Ev (fun k => impl_StepFollower.l0 k p (tp ++ ts) ((tp ++ ts).length : Int) (tp.length : Int) (lp ++ d :: cs) x (op ++ o :: cs) h) (op ++ o :: folRow p ts d o cs, h) := by
  induction ts with
  | nil =>
    intro tp lp op cs d o h1 h2 h3 h4 _ _ _
    obtain rfl : cs = [] := List.length_eq_zero_iff.1 (by simpa using h3)
    refine ev_tail ?_
    simp only [impl_StepFollower.l0]
    exact ev_neg (by simp) (Ev.now _)
  | cons y t ih =>
    intro tp lp op cs d o h1 h2 h3 h4 hd ho hc
    cases cs with
    | nil => simp at h3
    | cons c cs =>
      have hcc := hc c (by simp)
      have hv := stepV_bound (p := p) (x := y) ⟨hd.1, by omega⟩ ho hcc
      have e := ih (tp ++ [y]) (lp ++ [d]) (op ++ [o]) cs c (stepV p y d o c) (by simp [h1]) (by simp [h2]) (by simpa using h3) (by simpa using h4) hcc hv (fun z hz => hc z (by simp [hz]))
      simp only [List.length_append, List.length_cons] at h4
      refine ev_tail ?_
      simp only [impl_StepFollower.l0]
      have w1 : Aside0 (wrap64 ((tp.length : Int) + 1) = ((tp.length + 1 : Nat) : Int)) := ⟨wrap_succ (by omega)⟩
      rw [w1.out]
      refine ev_pos (by simp; omega) (ev_pos (by omega) (ev_pos (by simp; omega) (ev_pos (by omega) (ev_pos (by simp; omega) (ev_pos (by simp; omega) (ev_pos (by simp; omega) (ev_val (unlike_eq _ _) (ev_pos (by simp; omega) ?_))))))))
      have r1 := rd_mid tp y t
      have r2 := rd_at1 lp d c cs (i := ((tp.length + 1 : Nat) : Int)) (by omega)
      have r3 := rd_at op o (c :: cs) (i := (tp.length : Int)) (by omega)
      have r4 := rd_at lp d (c :: cs) (i := (tp.length : Int)) (by omega)
      have u := unl1_le y p
      rw [r1, r2, r3, r4, set_at1 op o c _ cs (by omega)]
      have ev : mn (mn (wrap64 (c + 1)) (wrap64 (o + 1))) (wrap64 (d + unl1 y p)) = stepV p y d o c := by
        rw [wrap_id (by omega) (by omega), wrap_id (by omega) (by omega), wrap_id (by omega) (by omega), mn_eq, mn_eq]
        rfl
      rw [ev]
      simp only [folRow]
      have e2 := e
      simp only [List.append_assoc, List.singleton_append, length_snoc] at e2
      exact e2
theorem specStep_l0 (p x h : Int) (ts : List Int) : ∀ (tp lp op cs : List Int) (d o : Int), tp.length = lp.length → op.length = lp.length → cs.length = ts.length → (tp ++ ts).length ≤ 40 → (0 ≤ d ∧ d ≤ 1000) → (0 ≤ o ∧ o ≤ 1001) → (∀ c ∈ cs, 0 ≤ c ∧ c ≤ 1000) →
    Ev (fun k => spec_StepFollower.l0 k (tp ++ ts) p ((tp.length + 1 : Nat) : Int) (lp ++ d :: cs) x (op ++ o :: cs) h) (op ++ o :: folRow p ts d o cs, h) := by
  induction ts with
  | nil =>
    intro tp lp op cs d o h1 h2 h3 h4 _ _ _
    obtain rfl : cs = [] := List.length_eq_zero_iff.1 (by simpa using h3)
    refine ev_tail ?_
    simp only [spec_StepFollower.l0]
    exact ev_neg (by simp; omega) (Ev.now _)
  | cons y t ih =>
    intro tp lp op cs d o h1 h2 h3 h4 hd ho hc
    cases cs with
    | nil => simp at h3
    | cons c cs =>
      have hcc := hc c (by simp)
      have hv := stepV_bound (p := p) (x := y) ⟨hd.1, by omega⟩ ho hcc
      have e := ih (tp ++ [y]) (lp ++ [d]) (op ++ [o]) cs c (stepV p y d o c) (by simp [h1]) (by simp [h2]) (by simpa using h3) (by simpa using h4) hcc hv (fun z hz => hc z (by simp [hz]))
      simp only [List.length_append, List.length_cons] at h4
      refine ev_tail ?_
      simp only [spec_StepFollower.l0, specMin_eq, Option.bind_some]
      have w1 : Aside0 (wrap64 (((tp.length + 1 : Nat) : Int) - 1) = (tp.length : Int)) := ⟨by rw [wrap_pred (by omega) (by omega)]; simp⟩
      have w2 : Aside0 (wrap64 (((tp.length + 1 : Nat) : Int) + 1) = ((tp.length + 1 + 1 : Nat) : Int)) := ⟨wrap_succ (by omega)⟩
      rw [w1.out, w2.out]
      have r1 := rd_mid tp y t
      have r2 := rd_at1 lp d c cs (i := ((tp.length + 1 : Nat) : Int)) (by omega)
      have r3 := rd_at op o (c :: cs) (i := (tp.length : Int)) (by omega)
      have r4 := rd_at lp d (c :: cs) (i := (tp.length : Int)) (by omega)
      have hset : ∀ v, (op ++ o :: c :: cs).set (((tp.length + 1 : Nat) : Int)).toNat v = op ++ o :: v :: cs := fun v => set_at1 op o c v cs (by omega)
      refine ev_pos (by simp; omega) (ev_pos (by omega) (ev_pos (by simp; omega) (ev_pos (by simp; omega) ?_)))
      rw [r1, r2, r3, r4]
      simp only [hset]
      have fin : ∀ g : Nat → Option (List Int × Int), (∀ k, g k = spec_StepFollower.l0 k (tp ++ y :: t) p ((tp.length + 1 + 1 : Nat) : Int) (lp ++ d :: c :: cs) x (op ++ o :: stepV p y d o c :: cs) h) → Ev g (op ++ o :: folRow p (y :: t) d o (c :: cs), h) := by
        intro g hg
        have e' : Ev g ((op ++ [o]) ++ stepV p y d o c :: folRow p t c (stepV p y d o c) cs, h) := by
          have hg' : g = fun k => spec_StepFollower.l0 k ((tp ++ [y]) ++ t) p (((tp ++ [y]).length + 1 : Nat) : Int) ((lp ++ [d]) ++ c :: cs) x ((op ++ [o]) ++ stepV p y d o c :: cs) h := by
            funext k; rw [hg k]; simp
          rw [hg']; exact e
        refine ev_eq e' ?_
        simp [folRow]
      by_cases hy : y = p
      · refine ev_pos hy (ev_pos (by omega) (ev_pos (by simp; omega) (ev_pos (by simp; omega) ?_)))
        refine fin _ (fun k => ?_)
        have ev : min d (wrap64 (min c o + 1)) = stepV p y d o c := by
          rw [wrap_id (by omega) (by omega)]; unfold stepV unl1; rw [if_pos hy]; omega
        rw [ev]
      · refine ev_neg hy (ev_pos (by omega) (ev_pos (by simp; omega) (ev_pos (by simp; omega) ?_)))
        refine fin _ (fun k => ?_)
        have ev : min (wrap64 (d + 1)) (wrap64 (min c o + 1)) = stepV p y d o c := by
          rw [wrap_id (by omega) (by omega), wrap_id (by omega) (by omega)]; unfold stepV unl1; rw [if_neg hy]; omega
        rw [ev]
theorem stepRow_length {t l : List Int} {x p : Int} (h : l.length = t.length + 1) : (stepRow t l x p).1.length = l.length := by
  cases l with
  | nil => simp at h
  | cons c cs => simp only [stepRow, List.length_cons]; rw [folRow_length p t _ _ cs (by simpa using h)]
theorem stepM_length (t l : List Int) (x p : Int) : (stepM t l x p).1.length = l.length := by
  unfold stepM
  split
  · rename_i h; exact stepRow_length (folM_facts h.1).2.1
  · rfl
theorem specStep_j0 (t l : List Int) (x p : Int) (hf : folM t l x = true) (b : Bool) (hb : b = decide (x > 500)) : Ev (fun k => spec_StepFollower.j0 k t p b l x l x) (stepM t l x p) := by
  obtain ⟨h1, h2, h3, h4, h5⟩ := folM_facts hf
  refine ev_tail ?_
  simp only [spec_StepFollower.j0]
  by_cases h : x > 500
  · rw [stepM, if_neg (by omega)]
    exact ev_pos (by rw [hb]; simpa using h) (Ev.now _)
  · rw [stepM, if_pos ⟨hf, by omega⟩]
    refine ev_neg (by rw [hb]; simpa using h) ?_
    cases l with
    | nil => simp at h2
    | cons c cs =>
      have hc := h5 c (by simp)
      refine ev_pos (by simp only [List.length_cons]; omega) (ev_pos (by simp only [List.length_cons]; omega) ?_)
      have w1 : wrap64 (rd (c :: cs) 0 + 1) = c + 1 := by
        have : rd (c :: cs) 0 = c := rd_mid [] c cs
        rw [this, wrap_id (by omega) (by omega)]
      have w2 : wrap64 (x + 1) = x + 1 := wrap_id (by omega) (by omega)
      rw [w1, w2]
      exact specStep_l0 p x (x + 1) t [] [] [] cs c (c + 1) rfl rfl (by simpa using h2) (by simpa using h1) hc (by omega) (fun z hz => h5 z (by simp [hz]))
theorem implStep_j0 (t l : List Int) (x p : Int) (hf : folM t l x = true) (b : Bool) (hb : b = decide (x > 500)) : Ev (fun k => impl_StepFollower.j0 k t p b l x l x) (stepM t l x p) := by
  obtain ⟨h1, h2, h3, h4, h5⟩ := folM_facts hf
  refine ev_tail ?_
  simp only [impl_StepFollower.j0]
  by_cases h : x > 500
  · rw [stepM, if_neg (by omega)]
    exact ev_pos (by rw [hb]; simpa using h) (Ev.now _)
  · rw [stepM, if_pos ⟨hf, by omega⟩]
    refine ev_neg (by rw [hb]; simpa using h) ?_
    cases l with
    | nil => simp at h2
    | cons c cs =>
      have hc := h5 c (by simp)
      refine ev_pos (by simp only [List.length_cons]; omega) ?_
      have w1 : wrap64 (rd (c :: cs) 0 + 1) = c + 1 := by
        have : rd (c :: cs) 0 = c := rd_mid [] c cs
        rw [this, wrap_id (by omega) (by omega)]
      have w2 : wrap64 (x + 1) = x + 1 := wrap_id (by omega) (by omega)
      rw [w1, w2]
      exact implStep_l0 p x (x + 1) t [] [] [] cs c (c + 1) rfl rfl (by simpa using h2) (by simpa using h1) hc (by omega) (fun z hz => h5 z (by simp [hz]))
theorem specStepFollower_ev (t l : List Int) (x p : Int) (ht : t.length ≤ 1048576) (hl : l.length ≤ 1048577) : Ev (fun k => spec_StepFollower.f k t l x p) (stepM t l x p) := by
  simp only [spec_StepFollower.f, l17Copy_eq l x (by omega), Option.bind_some]
  refine Ev.bind (specIsFollower_ev t l x ht hl) ?_
  refine ev_ite (fun h => specStep_j0 t l x p h _ rfl) (fun h => ?_)
  refine ev_tail ?_
  simp only [spec_StepFollower.j0, if_true]
  rw [stepM, if_neg (fun z => h z.1)]
  exact Ev.now _
theorem implStepFollower_ev (t l : List Int) (x p : Int) (ht : t.length ≤ 1048576) (hl : l.length ≤ 1048577) : Ev (fun k => impl_StepFollower.f k t l x p) (stepM t l x p) := by
  simp only [impl_StepFollower.f, clone_eq l (by omega), Option.bind_some]
  refine Ev.bind (implIsFollower_ev t l x ht hl) ?_
  refine ev_ite (fun h => implStep_j0 t l x p h _ rfl) (fun h => ?_)
  refine ev_tail ?_
  simp only [impl_StepFollower.j0, if_true]
  rw [stepM, if_neg (fun z => h z.1)]
  exact Ev.now _

def hearM (t l : List Int) (x : Int) (ps : List Int) : List Int × Int := ps.foldl (fun s p => stepM t s.1 s.2 p) (l, x)
theorem hearM_length (t : List Int) (ps : List Int) : ∀ (l : List Int) (x : Int), (hearM t l x ps).1.length = l.length := by
  induction ps with
  | nil => intro l x; rfl
  | cons p ps ih =>
    intro l x
    have e := ih (stepM t l x p).1 (stepM t l x p).2
    rw [stepM_length] at e
    exact e
theorem specHear_l0 (t : List Int) (ht : t.length ≤ 1048576) (suf : List Int) : ∀ (pre l : List Int) (x : Int), (pre ++ suf).length ≤ 1048576 → l.length ≤ 1048577 → Ev (fun k => spec_HearAll.l0 k t (pre ++ suf) (pre.length : Int) l x) (hearM t l x suf) := by
  induction suf with
  | nil =>
    intro pre l x h hl
    refine ev_tail ?_
    simp only [spec_HearAll.l0]
    exact ev_neg (by simp) (Ev.now _)
  | cons p ps ih =>
    intro pre l x h hl
    have hs := stepM_length t l x p
    have e := ih (pre ++ [p]) (stepM t l x p).1 (stepM t l x p).2 (by simpa using h) (by omega)
    simp only [List.length_append, List.length_cons] at h
    refine ev_tail ?_
    simp only [spec_HearAll.l0]
    refine ev_pos (by simp; omega) (ev_pos (by omega) ?_)
    rw [rd_mid]
    refine Ev.bind (specStepFollower_ev t l x p ht hl) ?_
    rw [wrap_succ (by omega), snoc_cons pre p ps, ← length_snoc pre p]
    exact e
theorem implHear_l0 (t : List Int) (ht : t.length ≤ 1048576) (suf : List Int) : ∀ (pre l : List Int) (x : Int), (pre ++ suf).length ≤ 1048576 → l.length ≤ 1048577 → Ev (fun k => impl_HearAll.l0 k t (pre ++ suf) ((pre ++ suf).length : Int) (pre.length : Int) l x) (hearM t l x suf) := by
  induction suf with
  | nil =>
    intro pre l x h hl
    refine ev_tail ?_
    simp only [impl_HearAll.l0]
    exact ev_neg (by simp) (Ev.now _)
  | cons p ps ih =>
    intro pre l x h hl
    have hs := stepM_length t l x p
    have e := ih (pre ++ [p]) (stepM t l x p).1 (stepM t l x p).2 (by simpa using h) (by omega)
    simp only [List.length_append, List.length_cons] at h
    refine ev_tail ?_
    simp only [impl_HearAll.l0]
    refine ev_pos (by simp; omega) (ev_pos (by omega) (ev_pos (by simp; omega) ?_))
    rw [rd_mid]
    refine Ev.bind (implStepFollower_ev t l x p ht hl) ?_
    rw [wrap_succ (by omega), snoc_cons pre p ps, ← length_snoc pre p]
    exact e
theorem specHearAll_ev (t l : List Int) (x : Int) (ps : List Int) (ht : t.length ≤ 1048576) (hl : l.length ≤ 1048577) (hp : ps.length ≤ 1048576) : Ev (fun k => spec_HearAll.f k t l x ps) (hearM t l x ps) := by
  simp only [spec_HearAll.f, l17Copy_eq l x (by omega), Option.bind_some]
  exact specHear_l0 t ht ps [] l x (by simpa using hp) hl
theorem implHearAll_ev (t l : List Int) (x : Int) (ps : List Int) (ht : t.length ≤ 1048576) (hl : l.length ≤ 1048577) (hp : ps.length ≤ 1048576) : Ev (fun k => impl_HearAll.f k t l x ps) (hearM t l x ps) := by
  simp only [impl_HearAll.f, clone_eq l (by omega), Option.bind_some]
  exact implHear_l0 t ht ps [] l x (by simpa using hp) hl

/-- The cost at a place, if only the places from a on to b are reckoned. -/
def nearN (t l : List Int) (p a b : Int) : Nat → Int
  | 0 => if a ≤ 0 ∧ 0 ≤ b then min (rd l 0 + 1) 500 else 500
  | i + 1 => if a ≤ (i : Int) + 1 ∧ (i : Int) + 1 ≤ b then min (min (min (rd l ((i : Int) + 1) + 1) (nearN t l p a b i + 1)) (rd l (i : Int) + unl1 (rd t (i : Int)) p)) 500 else 500
def nearRow (t l : List Int) (p a b : Int) : List Int := (List.range l.length).map (nearN t l p a b)
def nearM (t l : List Int) (x p w : Int) : List Int × Int := if okM t l x w = true then (nearRow t l p (posM l - w) (posM l + w), x + 1) else (l, x)
theorem nearM_length (t l : List Int) (x p w : Int) : (nearM t l x p w).1.length = l.length := by
  unfold nearM
  split
  · simp [nearRow]
  · rfl
theorem rd_set_same {out : List Int} {i : Nat} (h : i < out.length) (v : Int) : rd (out.set (i : Int).toNat v) (i : Int) = v := by
  simp [rd, List.getD, h]
theorem rd_set_other {out : List Int} {i j : Nat} (h : j ≠ i) (v : Int) : rd (out.set (i : Int).toNat v) (j : Int) = rd out (j : Int) := by
  simp [rd, List.getD, List.getElem?_set, show ¬ i = j by omega]
theorem rd_ge {l : List Int} (hl : ∀ c ∈ l, 0 ≤ c ∧ c ≤ 500) (i : Nat) : 0 ≤ rd l (i : Int) ∧ rd l (i : Int) ≤ 500 := by
  rw [rd_nat, List.getD_eq_getElem?_getD]
  by_cases h : i < l.length
  · rw [List.getElem?_eq_getElem h, Option.getD_some]; exact hl _ (List.getElem_mem h)
  · rw [List.getElem?_eq_none (by omega), Option.getD_none]; omega
theorem nearN_bound {t l : List Int} (hl : ∀ c ∈ l, 0 ≤ c ∧ c ≤ 500) (p a b : Int) (i : Nat) : 0 ≤ nearN t l p a b i ∧ nearN t l p a b i ≤ 500 := by
  induction i with
  | zero =>
    have := rd_ge hl 0
    simp only [Int.natCast_zero] at this
    simp only [nearN]
    split <;> omega
  | succ i ih =>
    have h1 := rd_ge hl (i + 1)
    have h2 := rd_ge hl i
    have h3 := unl1_le (rd t (i : Int)) p
    have e : (((i + 1 : Nat) : Int)) = (i : Int) + 1 := by omega
    rw [e] at h1
    simp only [nearN]
    split <;> omega
theorem row_eq {out : List Int} {f : Nat → Int} {n : Nat} (hn : out.length = n) (h : ∀ j, j < n → rd out (j : Int) = f j) : out = (List.range n).map f := by
  apply List.ext_getElem
  · simp [hn]
  · intro j h1 h2
    have := h j (by omega)
    rw [rd_nat, List.getD_eq_getElem?_getD, List.getElem?_eq_getElem h1, Option.getD_some] at this
    simpa using this
theorem nearSet {t l out : List Int} {p a b : Int} {i : Nat} (hi : i < out.length) (h : ∀ j, j < i → rd out (j : Int) = nearN t l p a b j) : ∀ j, j < i + 1 → rd (out.set (i : Int).toNat (nearN t l p a b i)) (j : Int) = nearN t l p a b j := by
  intro j hj
  by_cases e : j = i
  · subst e; exact rd_set_same hi _
  · rw [rd_set_other e]; exact h j (by omega)
theorem nearN_out {t l : List Int} {p a b : Int} {i : Nat} (h : ¬ (a ≤ (i : Int) ∧ (i : Int) ≤ b)) : nearN t l p a b i = 500 := by
  cases i with
  | zero => simp only [nearN]; rw [if_neg (by omega)]
  | succ m => simp only [nearN]; rw [if_neg (by omega)]
theorem implNear_l0 (t l : List Int) (p w q x h u : Int) (ht : l.length = t.length + 1) (ht4 : t.length ≤ 40) (hq : 0 ≤ q ∧ q ≤ 40) (hw : 1 ≤ w ∧ w ≤ 40) (hl : ∀ c ∈ l, 0 ≤ c ∧ c ≤ 500) (hto : u = min (q + w) (t.length : Int)) (d : Nat) : ∀ (i : Nat) (out : List Int), (i : Int) + d = u + 1 → q - w ≤ (i : Int) → out.length = l.length → (∀ j, j < i → rd out (j : Int) = nearN t l p (q - w) (q + w) j) → (∀ j, i ≤ j → j < l.length → rd out (j : Int) = 500) →
    Ev (fun k => impl_StepNear.l0 k t p u (i : Int) l x out h) (nearRow t l p (q - w) (q + w), h) := by
  induction d with
  | zero =>
    intro i out hi hi2 ho hj hk
    refine ev_tail ?_
    simp only [impl_StepNear.l0]
    refine ev_neg (by omega) (ev_eq (Ev.now _) ?_)
    rw [nearRow, row_eq ho (fun j hj2 => ?_)]
    by_cases hji : j < i
    · exact hj j hji
    · rw [hk j (by omega) hj2, nearN_out (by omega)]
  | succ d ih =>
    intro i out hi hi2 ho hj hk
    have e := ih (i + 1) (out.set (i : Int).toNat (nearN t l p (q - w) (q + w) i)) (by omega) (by omega) (by simpa using ho) (nearSet (by omega) hj) (fun j h1 h2 => by rw [rd_set_other (by omega)]; exact hk j (by omega) h2)
    have w1 : Aside0 (wrap64 ((i : Int) + 1) = ((i + 1 : Nat) : Int)) := ⟨wrap_succ (by omega)⟩
    have w2 : Aside0 (wrap64 ((i : Int) - 1) = (i : Int) - 1) := ⟨wrap_id (by omega) (by omega)⟩
    have b1 := rd_ge hl i
    refine ev_tail ?_
    simp only [impl_StepNear.l0, unlike_eq, Option.bind_some, w1.out, w2.out, mn_eq]
    refine ev_pos (by omega) (ev_pos (by omega) (ev_pos (by omega) (ev_ite (fun h0 => ?_) (fun h0 => ?_))))
    · obtain ⟨m, rfl⟩ : ∃ m, i = m + 1 := ⟨i - 1, by omega⟩
      have em : ((m + 1 : Nat) : Int) - 1 = (m : Int) := by omega
      have b2 := rd_ge hl m
      have b3 := nearN_bound hl p (q - w) (q + w) m (t := t)
      have hm := hj m (by omega)
      have hv : nearN t l p (q - w) (q + w) (m + 1) = min (min (min (rd l ((m : Int) + 1) + 1) (nearN t l p (q - w) (q + w) m + 1)) (rd l (m : Int) + unl1 (rd t (m : Int)) p)) 500 := by
        simp only [nearN]; rw [if_pos (by omega)]
      have ec : (((m + 1 : Nat) : Int)) = (m : Int) + 1 := by omega
      have un := unl1_le (rd t (m : Int)) p
      rw [hv] at e
      rw [em, hm]
      refine ev_pos (by omega) (ev_pos (by omega) (ev_pos (by omega) (ev_pos (by omega) (ev_pos (by omega) ?_))))
      rw [wrap_id (n := rd l ((m + 1 : Nat) : Int) + 1) (by omega) (by omega), wrap_id (n := nearN t l p (q - w) (q + w) m + 1) (by omega) (by omega), wrap_id (n := rd l (m : Int) + unl1 (rd t (m : Int)) p) (by omega) (by omega)]
      rw [show rd l ((m + 1 : Nat) : Int) = rd l ((m : Int) + 1) by rw [ec]]
      exact e
    · obtain rfl : i = 0 := by omega
      have hv : nearN t l p (q - w) (q + w) 0 = min (rd l 0 + 1) 500 := by
        simp only [nearN]; rw [if_pos (by omega)]
      rw [hv] at e
      have e0 : ((0 : Nat) : Int) = 0 := rfl
      rw [e0] at b1
      refine ev_pos (by omega) ?_
      rw [show wrap64 (rd l ((0 : Nat) : Int) + 1) = rd l 0 + 1 by rw [e0, wrap_id (by omega) (by omega)]]
      exact e
theorem implStepNear_ev (t l : List Int) (x p w : Int) (ht : t.length ≤ 1048576) (hl : l.length ≤ 1048577) : Ev (fun k => impl_StepNear.f k t l x p w) (nearM t l x p w) := by
  simp only [impl_StepNear.f]
  refine Ev.bind (implWindow_ev t l x w ht hl) ?_
  by_cases hok : okM t l x w = true
  · obtain ⟨h1, h2, h3, h4, h5⟩ := okM_facts hok
    have hb := posM_bound (l := l) (by omega) (by intro h; subst h; simp at h2)
    rw [winM, if_pos hok, nearM, if_pos hok]
    refine ev_pos (by trivial) ?_
    have hrep : slices_Repeat_int_int.f [500] (l.length : Int) = some (List.replicate l.length 500) := by
      unfold slices_Repeat_int_int.f
      rw [if_pos ⟨rfl, by omega, by omega⟩, Int.toNat_natCast]
      rfl
    refine ev_val hrep ?_
    rw [wrap_id (n := x + 1) (by omega) (by omega)]
    obtain ⟨f, hf⟩ := Int.eq_ofNat_of_zero_le (show 0 ≤ max (posM l - w) 0 by omega)
    obtain ⟨d, hd⟩ := Int.eq_ofNat_of_zero_le (show 0 ≤ min (posM l + w) (t.length : Int) + 1 - (f : Int) by omega)
    have hr : ∀ j : Nat, j < l.length → rd (List.replicate l.length (500 : Int)) (j : Int) = 500 := fun j hj => by
      simp [rd, List.getD, List.getElem?_replicate, hj]
    have main := implNear_l0 t l p w (posM l) x (x + 1) (min (posM l + w) (t.length : Int)) h2 h1 (by omega) h4 h5 rfl d f (List.replicate l.length 500) (by omega) (by omega) (by simp) (fun j hj => by rw [hr j (by omega), nearN_out (by omega)]) (fun j _ hj => hr j hj)
    rw [← hf] at main
    exact main
  · rw [winM, if_neg hok, nearM, if_neg hok]
    refine ev_neg (by simp) ?_
    exact ev_val (clone_eq l (by omega)) (Ev.now _)

def nearAllM (t l : List Int) (x : Int) (ps : List Int) (w : Int) : List Int × Int := ps.foldl (fun s p => nearM t s.1 s.2 p w) (l, x)
theorem nearAllM_length (t : List Int) (w : Int) (ps : List Int) : ∀ (l : List Int) (x : Int), (nearAllM t l x ps w).1.length = l.length := by
  induction ps with
  | nil => intro l x; rfl
  | cons p ps ih =>
    intro l x
    have e := ih (nearM t l x p w).1 (nearM t l x p w).2
    rw [nearM_length] at e
    exact e
theorem implNearAll_l0 (t : List Int) (w : Int) (ht : t.length ≤ 1048576) (suf : List Int) : ∀ (pre l : List Int) (x : Int), (pre ++ suf).length ≤ 1048576 → l.length ≤ 1048577 → Ev (fun k => impl_HearNear.l0 k t w (pre ++ suf) ((pre ++ suf).length : Int) (pre.length : Int) l x) (nearAllM t l x suf w) := by
  induction suf with
  | nil =>
    intro pre l x h hl
    refine ev_tail ?_
    simp only [impl_HearNear.l0]
    exact ev_neg (by simp) (Ev.now _)
  | cons p ps ih =>
    intro pre l x h hl
    have hs := nearM_length t l x p w
    have e := ih (pre ++ [p]) (nearM t l x p w).1 (nearM t l x p w).2 (by simpa using h) (by omega)
    simp only [List.length_append, List.length_cons] at h
    refine ev_tail ?_
    simp only [impl_HearNear.l0]
    refine ev_pos (by simp; omega) (ev_pos (by omega) (ev_pos (by simp; omega) ?_))
    rw [rd_mid]
    refine Ev.bind (implStepNear_ev t l x p w ht hl) ?_
    rw [wrap_succ (by omega), snoc_cons pre p ps, ← length_snoc pre p]
    exact e
theorem implHearNear_ev (t l : List Int) (x : Int) (ps : List Int) (w : Int) (ht : t.length ≤ 1048576) (hl : l.length ≤ 1048577) (hp : ps.length ≤ 1048576) : Ev (fun k => impl_HearNear.f k t l x ps w) (nearAllM t l x ps w) := by
  simp only [impl_HearNear.f, clone_eq l (by omega), Option.bind_some]
  exact implNearAll_l0 t w ht ps [] l x (by simpa using hp) hl

/-! ### slips -/
def slP (n : Int) (x : S120) : Prop := 1 ≤ x.f0 ∧ x.f0 ≤ 3 ∧ 0 ≤ x.f1 ∧ x.f1 ≤ (if x.f0 = 3 then n else n - 1) ∧ 0 ≤ x.f2 ∧ x.f2 ≤ 127 ∧ (x.f0 = 2 → x.f2 = 0)
instance (n : Int) (x : S120) : Decidable (slP n x) := by unfold slP; exact inferInstance
def slC (l : List S120) (n : Int) (i : Int) : Bool := decide (slP n (rd_T120 l i) ∧ (0 < i → (rd_T120 l i).f1 < (rd_T120 l (i - 1)).f1))
def slipsM (l : List S120) (n : Int) : Bool := decide (0 ≤ n ∧ n ≤ 1000) && allF (slC l n) (decide ((l.length : Int) ≤ 8)) l.length 0
theorem specSl_j1 (l : List S120) (n m : Int) (i : Nat) (hi : i < l.length) (hl : l.length ≤ 1048576) (hm : m = if (rd_T120 l (i : Int)).f0 = 3 then n else n - 1) :
    (slC l n (i : Int) = true → ∀ r, Ev (fun k => spec_AreSlips.l0 k l n ((i : Int) + 1)) r → Ev (fun k => spec_AreSlips.j1 k l n (i : Int) m (rd_T120 l (i : Int)).f0 (rd_T120 l (i : Int)).f1 (rd_T120 l (i : Int)).f2) r) ∧
    (slC l n (i : Int) = false → Ev (fun k => spec_AreSlips.j1 k l n (i : Int) m (rd_T120 l (i : Int)).f0 (rd_T120 l (i : Int)).f1 (rd_T120 l (i : Int)).f2) false) := by
  have w1 : wrap64 ((i : Int) + 1) = (i : Int) + 1 := wrap_id (by omega) (by omega)
  have w2 : wrap64 ((i : Int) - 1) = (i : Int) - 1 := wrap_id (by omega) (by omega)
  constructor
  · intro hc r e
    simp only [slC, slP, decide_eq_true_eq, ← hm] at hc
    obtain ⟨⟨h1, h2, h3, h4, h5, h6, h7⟩, h8⟩ := hc
    refine ev_tail ?_
    simp only [spec_AreSlips.j1, l1In_eq, Option.bind_some, w1, w2]
    refine ev_pos (decide_eq_true ⟨h1, h2⟩) (ev_pos (decide_eq_true ⟨h3, h4⟩) (ev_pos (decide_eq_true ⟨h5, h6⟩) ?_))
    refine ev_ite (fun hk => ev_pos (h7 hk) ?_) (fun _ => ?_)
    all_goals exact ev_ite (fun h0 => ev_pos (by omega) (ev_pos (by omega) (ev_neg (by have := h8 h0; omega) e))) (fun _ => e)
  · intro hc
    simp only [slC, slP, decide_eq_false_iff_not, ← hm] at hc
    refine ev_tail ?_
    simp only [spec_AreSlips.j1, l1In_eq, Option.bind_some, w1, w2]
    refine ev_ite (fun a1 => ev_ite (fun a2 => ev_ite (fun a3 => ?_) (fun _ => Ev.now _)) (fun _ => Ev.now _)) (fun _ => Ev.now _)
    simp only [decide_eq_true_eq] at a1 a2 a3
    refine ev_ite (fun hk => ev_ite (fun h => ?_) (fun _ => Ev.now _)) (fun hk => ?_)
    · exact ev_ite (fun h0 => ev_pos (by omega) (ev_pos (by omega) (ev_ite (fun _ => Ev.now _) (fun h8 => absurd ⟨⟨a1.1, a1.2, a2.1, a2.2, a3.1, a3.2, fun _ => h⟩, fun _ => by omega⟩ hc)))) (fun h0 => absurd ⟨⟨a1.1, a1.2, a2.1, a2.2, a3.1, a3.2, fun _ => h⟩, fun z => absurd z h0⟩ hc)
    · exact ev_ite (fun h0 => ev_pos (by omega) (ev_pos (by omega) (ev_ite (fun _ => Ev.now _) (fun h8 => absurd ⟨⟨a1.1, a1.2, a2.1, a2.2, a3.1, a3.2, fun z => absurd z hk⟩, fun _ => by omega⟩ hc)))) (fun h0 => absurd ⟨⟨a1.1, a1.2, a2.1, a2.2, a3.1, a3.2, fun z => absurd z hk⟩, fun z => absurd z h0⟩ hc)
theorem specAreSlips_ev (l : List S120) (n : Int) (hl : l.length ≤ 1048576) : Ev (fun k => spec_AreSlips.f k l n) (slipsM l n) := by
  simp only [spec_AreSlips.f, l1In_eq, Option.bind_some, slipsM]
  refine ev_ite (fun hn => ?_) (fun hn => ev_eq (Ev.now _) (by simp only [Bool.not_eq_true] at hn; rw [hn, Bool.false_and]))
  rw [hn, Bool.true_and]
  simp only [decide_eq_true_eq] at hn
  refine ev_all (L := fun k i => spec_AreSlips.l0 k l n i) (n := l.length) (fun i hi => ?_) ?_ l.length 0 (by omega)
  · have w2 : wrap64 (n - 1) = n - 1 := wrap_id (by omega) (by omega)
    constructor
    · intro hc r e
      refine ev_tail ?_
      simp only [spec_AreSlips.l0, w2]
      exact ev_pos (by omega) (ev_pos (by omega) (ev_ite (fun h => (specSl_j1 l n n i hi hl (by rw [if_pos h])).1 hc r e) (fun h => (specSl_j1 l n (n - 1) i hi hl (by rw [if_neg h])).1 hc r e)))
    · intro hc
      refine ev_tail ?_
      simp only [spec_AreSlips.l0, w2]
      exact ev_pos (by omega) (ev_pos (by omega) (ev_ite (fun h => (specSl_j1 l n n i hi hl (by rw [if_pos h])).2 hc) (fun h => (specSl_j1 l n (n - 1) i hi hl (by rw [if_neg h])).2 hc)))
  · refine ev_tail ?_
    simp only [spec_AreSlips.l0]
    exact ev_neg (by omega) (Ev.now _)

/-! ### errors -/
theorem slips_facts {l : List S120} {n : Int} (h : slipsM l n = true) : 0 ≤ n ∧ n ≤ 1000 ∧ l.length ≤ 8 ∧ (∀ x ∈ l, slP n x) ∧ l.Pairwise (fun a b => b.f1 < a.f1) := by
  simp only [slipsM, Bool.and_eq_true, decide_eq_true_eq] at h
  obtain ⟨⟨h1, h2⟩, h3⟩ := h
  obtain ⟨h4, h5⟩ := (allF_iff _ _ _ _).1 h3
  simp only [decide_eq_true_eq] at h4
  have at_ : ∀ (j : Nat) (hj : j < l.length), rd_T120 l (j : Int) = l[j] := fun j hj => by simp [rd_T120, List.getD, hj]
  have hx : ∀ (j : Nat) (hj : j < l.length), slP n l[j] := fun j hj => by
    have := h5 j (Nat.zero_le _) (by omega)
    simp only [slC, decide_eq_true_eq] at this
    rw [← at_ j hj]; exact this.1
  have adj : ∀ (j : Nat) (hj : j + 1 < l.length), l[j + 1].f1 < l[j].f1 := fun j hj => by
    have := h5 (j + 1) (Nat.zero_le _) (by omega)
    simp only [slC, decide_eq_true_eq] at this
    have h6 := this.2 (by omega)
    rw [at_ (j + 1) hj, show ((j + 1 : Nat) : Int) - 1 = (j : Int) by omega, at_ j (by omega)] at h6
    exact h6
  have far : ∀ (d i : Nat) (hd : i + d + 1 < l.length), l[i + d + 1].f1 < l[i].f1 := by
    intro d
    induction d with
    | zero => intro i hd; exact adj i hd
    | succ d ih =>
      intro i hd
      have a1 := ih i (by omega)
      have a2 := adj (i + d + 1) (by omega)
      have : l[i + (d + 1) + 1].f1 < l[i + d + 1].f1 := a2
      omega
  refine ⟨h1, h2, by omega, fun x hm => ?_, List.pairwise_iff_getElem.2 (fun i j hi hj hij => ?_)⟩
  · obtain ⟨j, hj, rfl⟩ := List.getElem_of_mem hm
    exact hx j hj
  · obtain ⟨d, rfl⟩ : ∃ d, j = i + d + 1 := ⟨j - i - 1, by omega⟩
    exact far d i hj
def errStep (o : List Int) (x : S120) : List Int := if x.f0 = 1 then o.set x.f1.toNat x.f2 else if x.f0 = 2 then o.take x.f1.toNat ++ o.drop (x.f1.toNat + 1) else o.take x.f1.toNat ++ [x.f2] ++ o.drop x.f1.toNat
def errM (p : List Int) (l : List S120) : List Int × Bool := if slipsM l (p.length : Int) = true then (l.foldl errStep p, true) else (p, false)
/-- The place of a slip in what is there. -/
def slOk (x : S120) (n : Nat) : Prop := (1 ≤ x.f0 ∧ x.f0 ≤ 3 ∧ 0 ≤ x.f1) ∧ (x.f1 < (n : Int) ∨ x.f0 = 3 ∧ x.f1 ≤ (n : Int))
theorem errStep_len {o : List Int} {x : S120} (h : slOk x o.length) : x.f1 ≤ ((errStep o x).length : Int) ∧ (errStep o x).length ≤ o.length + 1 := by
  obtain ⟨⟨h1, h2, h3⟩, h4⟩ := h
  unfold errStep
  by_cases k1 : x.f0 = 1
  · rw [if_pos k1, List.length_set]; omega
  · rw [if_neg k1]
    by_cases k2 : x.f0 = 2
    · rw [if_pos k2]; simp only [List.length_append, List.length_take, List.length_drop]; omega
    · rw [if_neg k2]; simp only [List.length_append, List.length_take, List.length_drop, List.length_cons, List.length_nil]; omega
theorem slOk_next {o : List Int} {x : S120} {t : List S120} (hx : slOk x o.length) (hm : ∀ y ∈ x :: t, 1 ≤ y.f0 ∧ y.f0 ≤ 3 ∧ 0 ≤ y.f1) (hp : (x :: t).Pairwise (fun a b => b.f1 < a.f1)) : ∀ y, t.head? = some y → slOk y (errStep o x).length := by
  intro y hy
  have hyt : y ∈ t := List.mem_of_mem_head? hy
  have h1 := (List.pairwise_cons.1 hp).1 y hyt
  have h2 := (errStep_len hx).1
  exact ⟨hm y (List.mem_cons_of_mem _ hyt), .inl (by omega)⟩
theorem err_length (l : List S120) : ∀ o : List Int, (∀ y ∈ l, 1 ≤ y.f0 ∧ y.f0 ≤ 3 ∧ 0 ≤ y.f1) → l.Pairwise (fun a b => b.f1 < a.f1) → (∀ y, l.head? = some y → slOk y o.length) → (l.foldl errStep o).length ≤ o.length + l.length := by
  induction l with
  | nil => intro o _ _ _; simp
  | cons x t ih =>
    intro o hm hp hx
    have hx := hx x rfl
    have h1 := ih (errStep o x) (fun y hy => hm y (List.mem_cons_of_mem _ hy)) (List.pairwise_cons.1 hp).2 (slOk_next hx hm hp)
    have h2 := (errStep_len hx).2
    simp only [List.foldl_cons, List.length_cons]
    omega
theorem slips_head {l : List S120} {n : Nat} (h : slipsM l (n : Int) = true) : (∀ y ∈ l, 1 ≤ y.f0 ∧ y.f0 ≤ 3 ∧ 0 ≤ y.f1) ∧ l.Pairwise (fun a b => b.f1 < a.f1) ∧ (∀ y, l.head? = some y → slOk y n) := by
  obtain ⟨_, _, _, h1, h2⟩ := slips_facts h
  refine ⟨fun y hy => ⟨(h1 y hy).1, (h1 y hy).2.1, (h1 y hy).2.2.1⟩, h2, fun y hy => ?_⟩
  obtain ⟨a1, a2, a3, a4, _⟩ := h1 y (List.mem_of_mem_head? hy)
  refine ⟨⟨a1, a2, a3⟩, ?_⟩
  by_cases h3 : y.f0 = 3
  · rw [if_pos h3] at a4; exact .inr ⟨h3, a4⟩
  · rw [if_neg h3] at a4; exact .inl (by omega)
theorem errM_length (p : List Int) (l : List S120) : (errM p l).1.length ≤ p.length + 8 := by
  unfold errM
  split
  · rename_i h
    obtain ⟨h1, h2, h3⟩ := slips_head h
    have := err_length l p h1 h2 h3
    have := (slips_facts h).2.2.1
    show (l.foldl errStep p).length ≤ _
    omega
  · show p.length ≤ _; omega
theorem specErr_l0 (suf : List S120) : ∀ (pre : List S120) (o : List Int), (pre ++ suf).length ≤ 1048576 → o.length + suf.length ≤ 2097152 → (∀ y ∈ suf, 1 ≤ y.f0 ∧ y.f0 ≤ 3 ∧ 0 ≤ y.f1) → suf.Pairwise (fun a b => b.f1 < a.f1) → (∀ y, suf.head? = some y → slOk y o.length) →
    Ev (fun k => spec_ErrBy.l0 k (pre ++ suf) o (pre.length : Int)) (suf.foldl errStep o, true) := by
  induction suf with
  | nil =>
    intro pre o h _ _ _ _
    refine ev_tail ?_
    simp only [spec_ErrBy.l0]
    exact ev_neg (by simp) (Ev.now _)
  | cons x t ih =>
    intro pre o h ho hm hp hx
    have hx := hx x rfl
    have hlen := (errStep_len hx).2
    have e := ih (pre ++ [x]) (errStep o x) (by simpa using h) (by simp only [List.length_cons] at ho; omega) (fun y hy => hm y (List.mem_cons_of_mem _ hy)) (List.pairwise_cons.1 hp).2 (slOk_next hx hm hp)
    simp only [List.length_append, List.length_cons] at h ho
    obtain ⟨⟨h1, h2, h3⟩, h4⟩ := hx
    refine ev_tail ?_
    simp only [spec_ErrBy.l0]
    refine ev_pos (by simp; omega) (ev_pos (by omega) ?_)
    rw [show rd_T120 (pre ++ x :: t) ((pre.length : Nat) : Int) = x from getD_mid pre x t _, wrap_succ (by omega), snoc_cons pre x t, ← length_snoc pre x]
    have w : (wrap64 (x.f1 + 1)).toNat = x.f1.toNat + 1 := by rw [wrap_id (by omega) (by omega)]; omega
    refine ev_ite (fun k1 => ?_) (fun k1 => ev_ite (fun k2 => ?_) (fun k2 => ?_))
    · refine ev_pos h3 (ev_pos (by omega) ?_)
      rw [show errStep o x = o.set x.f1.toNat x.f2 by unfold errStep; rw [if_pos k1]] at e
      exact ev_eq e (by rw [List.foldl_cons, show errStep o x = o.set x.f1.toNat x.f2 by unfold errStep; rw [if_pos k1]])
    · have q : spec_cut.f o x.f1 = some (errStep o x) := by
        unfold spec_cut.f errStep
        rw [if_pos ⟨h3, by omega, by omega⟩, if_neg k1, if_pos k2, w]; simp
      exact ev_val q (ev_eq e rfl)
    · have q : spec_put.f o x.f1 x.f2 = some (errStep o x) := by
        unfold spec_put.f errStep
        rw [if_pos ⟨h3, by omega, by omega⟩, if_neg k1, if_neg k2]; simp
      exact ev_val q (ev_eq e rfl)
theorem specErrBy_ev (p : List Int) (l : List S120) (hp : p.length ≤ 1048576) (hl : l.length ≤ 1048576) : Ev (fun k => spec_ErrBy.f k p l) (errM p l) := by
  simp only [spec_ErrBy.f, Option.bind_some, List.length_nil, List.nil_append, errM]
  refine ev_pos (by omega) (Ev.bind (specAreSlips_ev l _ hl) (ev_ite (fun h => ?_) (fun h => ?_)))
  · rw [if_pos h]
    obtain ⟨h1, h2, h3⟩ := slips_head h
    exact specErr_l0 l [] p (by simpa using hl) (by omega) h1 h2 h3
  · rw [if_neg h]; exact Ev.now _

/-! ### draws -/
/-- Where a reader of draws stands: inside its bytes. -/
def Rd (b : List Int) (i : Int) : Prop := 0 ≤ i ∧ i ≤ (b.length : Int) ∧ b.length ≤ 1048576
theorem and255 (x : Int) : 0 ≤ Go.bits .and .i64 x 255 ∧ Go.bits .and .i64 x 255 ≤ 255 := by
  have h : (BitVec.ofInt IntKind.i64.bits x &&& BitVec.ofInt IntKind.i64.bits 255).toNat ≤ 255 := by
    rw [BitVec.toNat_and]; exact Nat.le_trans Nat.and_le_right (by decide)
  show 0 ≤ IntKind.i64.wrap ((BitVec.ofInt IntKind.i64.bits x &&& BitVec.ofInt IntKind.i64.bits 255).toNat : Int) ∧ IntKind.i64.wrap ((BitVec.ofInt IntKind.i64.bits x &&& BitVec.ofInt IntKind.i64.bits 255).toNat : Int) ≤ 255
  generalize (BitVec.ofInt IntKind.i64.bits x &&& BitVec.ofInt IntKind.i64.bits 255).toNat = n at h ⊢
  simp only [i64_w]
  rw [wrap_id (by omega) (by omega)]
  omega
theorem new_l0 (b : List Int) (hb : b.length ≤ 1048576) (d : Nat) : ∀ (i : Nat) (h : Int), i + d = b.length → ∃ h', Ev (fun k => spec_l1New.l0 k b h (i : Int)) (b, 0, h') := by
  induction d with
  | zero =>
    intro i h hi
    refine ⟨h, ev_tail ?_⟩
    simp only [spec_l1New.l0]
    exact ev_neg (by omega) (Ev.now _)
  | succ d ih =>
    intro i h hi
    by_cases h4 : (i : Int) < 4000
    · obtain ⟨h', e⟩ := ih (i + 1) (Go.bits .and .i64 (wrap64 ((wrap64 ((wrap64 (h * 137)) + (wrap64 (rd b (i : Int))))) + 11)) 1073741823) (by omega)
      refine ⟨h', ev_tail ?_⟩
      simp only [spec_l1New.l0]
      refine ev_pos (by omega) (ev_pos h4 (ev_pos (by omega) ?_))
      rw [wrap_succ (by omega)]
      exact e
    · refine ⟨h, ev_tail ?_⟩
      simp only [spec_l1New.l0]
      exact ev_pos (by omega) (ev_neg h4 (Ev.now _))
theorem new_ok (b : List Int) (hb : b.length ≤ 1048576) : ∃ h', Ev (fun k => spec_l1New.f k b) (b, 0, h') := by
  obtain ⟨h', e⟩ := new_l0 b hb b.length 0 (wrap64 (193017 + (b.length : Int))) (by omega)
  exact ⟨h', by simp only [spec_l1New.f]; exact e⟩
theorem Rd.zero {b : List Int} (hb : b.length ≤ 1048576) : Rd b 0 := ⟨by omega, by omega, hb⟩
theorem byte_ok {b : List Int} {i : Int} (h : Rd b i) (s : Int) : ∃ x i' s', spec_l1Byte.f b i s = some (x, i', s') ∧ (0 ≤ x ∧ x ≤ 255) ∧ Rd b i' := by
  obtain ⟨h1, h2, h3⟩ := h
  unfold spec_l1Byte.f
  by_cases c : i < (b.length : Int)
  · rw [if_pos c, if_pos h1]
    exact ⟨_, _, _, rfl, and255 _, by rw [wrap_id (by omega) (by omega)]; exact ⟨by omega, by omega, h3⟩⟩
  · rw [if_neg c]
    exact ⟨_, _, _, rfl, and255 _, h1, h2, h3⟩
theorem below_ok {b : List Int} {i : Int} (h : Rd b i) (s n : Int) : ∃ x i' s', spec_l1Below.f b i s n = some (x, i', s') ∧ (0 ≤ x ∧ (0 < n → x < n) ∧ (n ≤ 0 → x = 0)) ∧ Rd b i' := by
  unfold spec_l1Below.f
  by_cases c0 : n ≤ 0
  · rw [if_pos c0]
    exact ⟨_, _, _, rfl, ⟨by omega, fun z => by omega, fun _ => rfl⟩, h⟩
  · rw [if_neg c0]
    by_cases c1 : n ≤ 256
    · rw [if_pos c1]
      obtain ⟨x, i', s', e, hx, h'⟩ := byte_ok h s
      rw [e]
      simp only [Option.bind_some]
      rw [if_neg (by omega)]
      exact ⟨_, _, _, rfl, ⟨Int.tmod_nonneg _ hx.1, fun _ => Int.tmod_lt_of_pos _ (by omega), fun z => absurd z c0⟩, h'⟩
    · rw [if_neg c1]
      obtain ⟨x, i1, s1, e1, hx, h1⟩ := byte_ok h s
      obtain ⟨y, i2, s2, e2, hy, h2⟩ := byte_ok h1 s1
      obtain ⟨z, i3, s3, e3, hz, h3⟩ := byte_ok h2 s2
      rw [e1]
      simp only [Option.bind_some, e2, e3]
      rw [if_neg (by omega)]
      refine ⟨_, _, _, rfl, ⟨Int.tmod_nonneg _ ?_, fun _ => Int.tmod_lt_of_pos _ (by omega), fun z => absurd z c0⟩, h3⟩
      rw [wrap_id (n := x * 65536) (by omega) (by omega), wrap_id (n := y * 256) (by omega) (by omega), wrap_id (n := x * 65536 + y * 256) (by omega) (by omega), wrap_id (by omega) (by omega)]
      omega

theorem int_ok {b : List Int} {i : Int} (h : Rd b i) (s : Int) (l : List Int) (hl : 0 < l.length) : ∃ v i' s', spec_l1Int.f b i s l = some (v, i', s') ∧ v ∈ l ∧ Rd b i' := by
  obtain ⟨x, i', s', e, ⟨h0, h1, _⟩, h'⟩ := below_ok h s (l.length : Int)
  have h1 := h1 (by omega)
  unfold spec_l1Int.f
  rw [e]
  simp only [Option.bind_some]
  rw [if_pos h0, if_pos h1]
  refine ⟨_, _, _, rfl, ?_, h'⟩
  have hx : x.toNat < l.length := by omega
  have : rd l x = l[x.toNat] := by simp [rd, List.getD, hx]
  rw [this]
  exact List.getElem_mem hx

theorem once_ok {b : List Int} {i : Int} (h : Rd b i) (s n : Int) : ∃ c i' s', spec_l1Once.f b i s n = some (c, i', s') ∧ Rd b i' := by
  obtain ⟨x, i', s', e, _, h'⟩ := below_ok h s n
  unfold spec_l1Once.f
  rw [e]
  exact ⟨_, _, _, rfl, h'⟩

theorem big_ev (l : List Int) : laws_big.f l = some (decide ((l.length : Int) > 1048576)) := rfl

theorem l15Pitches_l0 (d : Nat) : ∀ (out : List Int) {b : List Int} {i : Int} (h : Rd b i) (s : Int), out.length + d ≤ 40 →
    ∃ l i' s', Ev (fun k => spec_l15Pitches.l0 k out (d : Int) b i s) (l, i', s') ∧ l.length = out.length + d ∧ Rd b i' := by
  induction d with
  | zero =>
    intro out b i h s ho
    refine ⟨out, i, s, ev_tail ?_, rfl, h⟩
    simp only [spec_l15Pitches.l0]
    exact ev_neg (by omega) (Ev.now _)
  | succ d ih =>
    intro out b i h s ho
    obtain ⟨x, i1, s1, e1, _, h1⟩ := below_ok h s 6
    obtain ⟨l, i2, s2, e2, hl, h2⟩ := ih (out ++ [wrap64 (60 + x)]) h1 s1 (by simp; omega)
    refine ⟨l, i2, s2, ev_tail ?_, by simp at hl; omega, h2⟩
    simp only [spec_l15Pitches.l0, e1, Option.bind_some]
    refine ev_pos (by omega) (ev_pos (by omega) ?_)
    rw [show wrap64 (((d + 1 : Nat) : Int) - 1) = (d : Int) by rw [wrap_id (by omega) (by omega)]; omega]
    exact e2
theorem l15Pitches_ok {b : List Int} {i : Int} (h : Rd b i) (s n : Int) (h0 : 0 < n) (hn : n ≤ 40) : ∃ l i' s', Ev (fun k => spec_l15Pitches.f k b i s n) (l, i', s') ∧ (l.length : Int) < n ∧ Rd b i' := by
  obtain ⟨x, i1, s1, e1, ⟨x0, x1, _⟩, h1⟩ := below_ok h s n
  have x1 := x1 h0
  obtain ⟨l, i2, s2, e2, hl, h2⟩ := l15Pitches_l0 x.toNat [] h1 s1 (by simp; omega)
  rw [show ((x.toNat : Nat) : Int) = x by omega] at e2
  refine ⟨l, i2, s2, ?_, by simp at hl; omega, h2⟩
  simp only [spec_l15Pitches.f, e1, Option.bind_some]
  exact e2
theorem l15Draw_j1 (n : Int) (out : List S120) (x : Int) (c : Bool) {b : List Int} {i : Int} (h : Rd b i) (s : Int) (ho : out.length ≤ 2000) {P : List S120 → Int → Int → Prop}
    (e : ∀ (o : List S120) {j : Int} (hj : Rd b j) (t : Int), o.length ≤ out.length + 1 → ∃ l i' s', Ev (fun k => spec_l15Draw.l0 k n o (wrap64 (x - 1)) b j t) (l, i', s') ∧ P l i' s') :
    ∃ l i' s', Ev (fun k => spec_l15Draw.j1 k n out x c b i s) (l, i', s') ∧ P l i' s' := by
  cases c with
  | true =>
    obtain ⟨l, i', s', e1, hp⟩ := e out h s (by omega)
    refine ⟨l, i', s', ev_tail ?_, hp⟩
    simp only [spec_l15Draw.j1]
    exact ev_pos (by trivial) e1
  | false =>
    obtain ⟨r, i1, s1, e1, _, h1⟩ := below_ok h s 3
    obtain ⟨p, i2, s2, e2, _, h2⟩ := below_ok h1 s1 6
    by_cases hx : x = n
    · obtain ⟨l, i', s', e3, hp⟩ := e (out ++ [⟨3, x, wrap64 (60 + p)⟩]) h2 s2 (by simp)
      refine ⟨l, i', s', ev_tail ?_, hp⟩
      simp only [spec_l15Draw.j1, e1, e2, Option.bind_some]
      exact ev_neg (by simp) (ev_pos hx (ev_neg (by omega) (ev_pos (by omega) e3)))
    · by_cases h2' : wrap64 (1 + r) = 2
      · obtain ⟨l, i', s', e3, hp⟩ := e (out ++ [⟨wrap64 (1 + r), x, 0⟩]) h2 s2 (by simp)
        refine ⟨l, i', s', ev_tail ?_, hp⟩
        simp only [spec_l15Draw.j1, e1, e2, Option.bind_some]
        exact ev_neg (by simp) (ev_neg hx (ev_pos h2' (ev_pos (by omega) e3)))
      · obtain ⟨l, i', s', e3, hp⟩ := e (out ++ [⟨wrap64 (1 + r), x, wrap64 (60 + p)⟩]) h2 s2 (by simp)
        refine ⟨l, i', s', ev_tail ?_, hp⟩
        simp only [spec_l15Draw.j1, e1, e2, Option.bind_some]
        exact ev_neg (by simp) (ev_neg hx (ev_neg h2' (ev_pos (by omega) e3)))
theorem l15Draw_l0 (n : Int) (d : Nat) : ∀ (out : List S120) {b : List Int} {i : Int} (h : Rd b i) (s : Int), out.length + d ≤ 1000 →
    ∃ l i' s', Ev (fun k => spec_l15Draw.l0 k n out ((d : Int) - 1) b i s) (l, i', s') ∧ l.length ≤ 1000 ∧ Rd b i' := by
  induction d with
  | zero =>
    intro out b i h s ho
    refine ⟨out, i, s, ev_tail ?_, by omega, h⟩
    simp only [spec_l15Draw.l0]
    exact ev_neg (by omega) (Ev.now _)
  | succ d ih =>
    intro out b i h s ho
    have e : ∀ (o : List S120) {j : Int} (hj : Rd b j) (t : Int), o.length ≤ out.length + 1 → ∃ l i' s', Ev (fun k => spec_l15Draw.l0 k n o (wrap64 ((((d + 1 : Nat) : Int) - 1) - 1)) b j t) (l, i', s') ∧ (l.length ≤ 1000 ∧ Rd b i') := by
      intro o j hj t hl
      rw [show wrap64 ((((d + 1 : Nat) : Int) - 1) - 1) = (d : Int) - 1 by rw [wrap_id (by omega) (by omega)]; omega]
      exact ih o hj t (by omega)
    obtain ⟨c, i1, s1, e1, h1⟩ := once_ok h s 4
    cases c with
    | true =>
      obtain ⟨l, i2, s2, e2, hl⟩ := l15Draw_j1 n out (((d + 1 : Nat) : Int) - 1) (decide ((out.length : Int) ≥ 8)) h1 s1 (by omega) (P := fun l i' _ => l.length ≤ 1000 ∧ Rd b i') e
      refine ⟨l, i2, s2, ev_tail ?_, hl⟩
      simp only [spec_l15Draw.l0, e1, Option.bind_some]
      exact ev_pos (by omega) (ev_pos (by trivial) e2)
    | false =>
      obtain ⟨l, i2, s2, e2, hl⟩ := l15Draw_j1 n out (((d + 1 : Nat) : Int) - 1) true h1 s1 (by omega) (P := fun l i' _ => l.length ≤ 1000 ∧ Rd b i') e
      refine ⟨l, i2, s2, ev_tail ?_, hl⟩
      simp only [spec_l15Draw.l0, e1, Option.bind_some]
      exact ev_pos (by omega) (ev_neg (by simp) e2)
theorem l15Draw_ok {b : List Int} {i : Int} (h : Rd b i) (s n : Int) (h0 : 0 ≤ n) (hn : n ≤ 40) : ∃ l i' s', Ev (fun k => spec_l15Draw.f k b i s n) (l, i', s') ∧ l.length ≤ 1000 ∧ Rd b i' := by
  simp only [spec_l15Draw.f]
  have e := l15Draw_l0 n (n.toNat + 1) [] h s (by simp; omega)
  rw [show (((n.toNat + 1 : Nat) : Int) - 1) = n by omega] at e
  exact e

theorem l17Case_ok {b : List Int} {i : Int} (h : Rd b i) (s : Int) : ∃ t p i' s', Ev (fun k => spec_l17Case.f k b i s) (t, p, i', s') ∧ t.length ≤ 13 ∧ p.length ≤ 21 ∧ Rd b i' := by
  obtain ⟨t, i1, s1, e1, ht, h1⟩ := l15Pitches_ok h s 14 (by omega) (by omega)
  obtain ⟨n, i2, s2, e2, ⟨n0, n1, _⟩, h2⟩ := below_ok h1 s1 ((t.length : Int) + 1)
  have n1 := n1 (by omega)
  obtain ⟨sl, i3, s3, e3, hs, h3⟩ := l15Draw_ok h2 s2 n n0 (by omega)
  have e4 := specErrBy_ev (t.take n.toNat) sl (by rw [List.length_take]; omega) (by omega)
  have hlen := errM_length (t.take n.toNat) sl
  rw [List.length_take] at hlen
  refine ⟨t, (errM (t.take n.toNat) sl).1, i3, s3, ?_, by omega, by omega, h3⟩
  simp only [spec_l17Case.f]
  refine Ev.bind e1 ?_
  dsimp only
  rw [wrap_id (n := (t.length : Int) + 1) (by omega) (by omega)]
  simp only [e2, Option.bind_some]
  refine ev_pos n0 (ev_pos (by omega) (Ev.bind e3 (Ev.bind e4 (ev_pos (by simp; omega) ?_))))
  exact Ev.now _
theorem l18Width_ok {b : List Int} {i : Int} (h : Rd b i) (s : Int) : ∃ w i' s', spec_l18Width.f b i s = some (w, i', s') ∧ Rd b i' := by
  obtain ⟨v, i1, s1, e1, _, h1⟩ := int_ok h s [1, 2, 3, 5, 40, 41, 0, -1] (by decide)
  unfold spec_l18Width.f
  rw [e1]
  exact ⟨_, _, _, rfl, h1⟩
theorem l4Raw_ok {b : List Int} {i : Int} (h : Rd b i) (s : Int) : ∃ w i' s', spec_l4Raw.f b i s = some (w, i', s') ∧ Rd b i' := by
  obtain ⟨v, i1, s1, e1, _, h1⟩ := int_ok h s [-1, 0, 1, 1000000000, -1000000000, 1000000001, 1000000, 1000001, 9223372036854775807, -9223372036854775808] (by decide)
  unfold spec_l4Raw.f
  rw [e1]
  exact ⟨_, _, _, rfl, h1⟩
/-- What a follower's draw gives: a tune and any row and number. -/
theorem l17Any_ok {b : List Int} {i : Int} (h : Rd b i) (s : Int) : ∃ t l x i' s', Ev (fun k => spec_l17Any.f k b i s) (t, l, x, i', s') ∧ t.length ≤ 13 ∧ l.length ≤ 41 ∧ Rd b i' := by
  obtain ⟨t, p, i1, s1, e1, ht, hp, h1⟩ := l17Case_ok h s
  have hs := startM_length t
  have hlen := hearM_length t p (startM t).1 (startM t).2.1
  have e3 := specHearAll_ev t (startM t).1 (startM t).2.1 p (by omega) (by omega) (by omega)
  generalize hq : hearM t (startM t).1 (startM t).2.1 p = q at hlen e3
  have hst : (startM t).1.length = t.length + 1 := by unfold startM; rw [if_pos (by omega), countI_length]
  obtain ⟨r, i2, s2, e2, _, h2⟩ := below_ok h1 s1 9
  by_cases c0 : r = 0
  · obtain ⟨j, i3, s3, e4, ⟨j0, j1, _⟩, h3⟩ := below_ok h2 s2 (q.1.length : Int)
    have j1 := j1 (by omega)
    obtain ⟨v, i4, s4, e5, h4⟩ := l4Raw_ok h3 s3
    refine ⟨t, q.1.set j.toNat v, q.2, i4, s4, ?_, ht, by rw [List.length_set]; omega, h4⟩
    simp only [spec_l17Any.f]
    refine Ev.bind e1 (Ev.bind (specStartFollower_ev t) (Ev.bind e3 ?_))
    simp only [e2, Option.bind_some]
    refine ev_pos c0 ?_
    simp only [e4, e5, Option.bind_some]
    exact ev_pos j0 (ev_pos j1 (Ev.now _))
  by_cases c1 : r = 1
  · obtain ⟨v, i4, s4, e5, _, h4⟩ := int_ok h2 s2 [-1, 500, 501, 1000, 1001] (by decide)
    refine ⟨t, q.1, v, i4, s4, ?_, ht, by omega, h4⟩
    simp only [spec_l17Any.f]
    refine Ev.bind e1 (Ev.bind (specStartFollower_ev t) (Ev.bind e3 ?_))
    simp only [e2, Option.bind_some]
    refine ev_neg c0 (ev_pos c1 ?_)
    simp only [e5, Option.bind_some]
    exact Ev.now _
  by_cases c2 : r = 2
  · refine ⟨t, q.1.drop (1 : Int).toNat, q.2, i2, s2, ?_, ht, by rw [List.length_drop]; omega, h2⟩
    simp only [spec_l17Any.f]
    refine Ev.bind e1 (Ev.bind (specStartFollower_ev t) (Ev.bind e3 ?_))
    simp only [e2, Option.bind_some]
    exact ev_neg c0 (ev_neg c1 (ev_pos c2 (ev_pos (by omega) (Ev.now _))))
  · refine ⟨t, q.1, q.2, i2, s2, ?_, ht, by omega, h2⟩
    simp only [spec_l17Any.f]
    refine Ev.bind e1 (Ev.bind (specStartFollower_ev t) (Ev.bind e3 ?_))
    simp only [e2, Option.bind_some]
    exact ev_neg c0 (ev_neg c1 (ev_neg c2 (Ev.now _)))
theorem drawStep_ok (b : List Int) (hb : b.length ≤ 1048576) : ∃ t l x p, Ev (fun k => spec_DrawStepFollower.f k b) (t, l, x, p) ∧ t.length ≤ 13 ∧ l.length ≤ 41 := by
  obtain ⟨s0, e0⟩ := new_ok b hb
  obtain ⟨t, l, x, i1, s1, e1, ht, hl, h1⟩ := l17Any_ok (Rd.zero hb) s0
  obtain ⟨p, i2, s2, e2, _, h2⟩ := below_ok (Rd.zero hb) s0 7
  refine ⟨t, l, x, wrap64 (60 + p), ?_, ht, hl⟩
  have e3 : Ev (fun k => spec_DrawIsFollower.f k b) (t, l, x) := by
    simp only [spec_DrawIsFollower.f]
    exact Ev.bind e0 (Ev.bind e1 (Ev.now _))
  simp only [spec_DrawStepFollower.f]
  refine Ev.bind e3 (Ev.bind e0 ?_)
  simp only [e2, Option.bind_some]
  exact Ev.now _

/-! ### a window over all: the same row -/
/-- The cost at a place once a pitch is heard, by the place. -/
def stepN (t l : List Int) (p : Int) : Nat → Int
  | 0 => rd l 0 + 1
  | i + 1 => min (min (rd l ((i : Int) + 1) + 1) (stepN t l p i + 1)) (rd l (i : Int) + unl1 (rd t (i : Int)) p)
theorem rd_drop (l : List Int) (i : Nat) (h : i < l.length) : l.drop i = rd l (i : Int) :: l.drop (i + 1) := by
  rw [List.drop_eq_getElem_cons h, rd_nat, List.getD_eq_getElem?_getD, List.getElem?_eq_getElem h, Option.getD_some]
theorem folRow_N (t l : List Int) (p : Int) (hl : l.length = t.length + 1) (d : Nat) : ∀ i : Nat, i + d = t.length →
    folRow p (t.drop i) (rd l (i : Int)) (stepN t l p i) (l.drop (i + 1)) = (List.range d).map fun j => stepN t l p (i + 1 + j) := by
  induction d with
  | zero =>
    intro i h
    rw [List.drop_of_length_le (by omega)]
    simp [folRow]
  | succ d ih =>
    intro i h
    have e := ih (i + 1) (by omega)
    rw [rd_drop t i (by omega), rd_drop l (i + 1) (by omega)]
    have hv : stepV p (rd t (i : Int)) (rd l (i : Int)) (stepN t l p i) (rd l ((i + 1 : Nat) : Int)) = stepN t l p (i + 1) := by
      simp only [stepV, stepN]
      rw [show ((i + 1 : Nat) : Int) = (i : Int) + 1 by omega]
    simp only [folRow]
    rw [hv, e, List.range_succ_eq_map, List.map_cons, List.map_map]
    refine congrArg (List.cons _) ?_
    refine List.map_congr_left fun j _ => ?_
    simp only [Function.comp_apply]
    congr 1
    omega
theorem stepRow_N (t l : List Int) (x p : Int) (hl : l.length = t.length + 1) : stepRow t l x p = ((List.range l.length).map (stepN t l p), x + 1) := by
  have e := folRow_N t l p hl t.length 0 (by omega)
  cases l with
  | nil => simp at hl
  | cons c cs =>
    simp only [stepRow]
    have h0 : stepN t (c :: cs) p 0 = c + 1 := rfl
    rw [h0] at e
    simp only [List.drop_zero, Nat.zero_add, List.drop_succ_cons] at e
    rw [show rd (c :: cs) ((0 : Nat) : Int) = c from rfl] at e
    rw [e, hl, List.range_succ_eq_map, List.map_cons, List.map_map, h0]
    refine congrArg (fun z => ((c + 1) :: z, x + 1)) ?_
    refine List.map_congr_left fun j _ => ?_
    simp only [Function.comp_apply]
    congr 1
    omega
/-- A row that a tune's follower has after x pitches: small, and steps of one. -/
def rowOK (t l : List Int) (x : Int) : Prop := l.length = t.length + 1 ∧ t.length ≤ 40 ∧ 0 ≤ x ∧ (∀ i : Nat, i ≤ t.length → 0 ≤ rd l (i : Int) ∧ rd l (i : Int) ≤ (i : Int) + x) ∧ ∀ i : Nat, i < t.length → rd l (i : Int) - 1 ≤ rd l ((i : Int) + 1) ∧ rd l ((i : Int) + 1) ≤ rd l (i : Int) + 1
theorem rd_map_range (f : Nat → Int) (n i : Nat) (h : i < n) : rd ((List.range n).map f) (i : Int) = f i := by
  rw [rd_nat, List.getD_eq_getElem?_getD, List.getElem?_map, List.getElem?_range h]
  rfl
theorem rowOK_start (t : List Int) (h : t.length ≤ 40) : rowOK t (countI (t.length + 1)) 0 := by
  have hr : ∀ i : Nat, i ≤ t.length → rd (countI (t.length + 1)) (i : Int) = (i : Int) := fun i hi => rd_map_range _ _ i (by omega)
  refine ⟨countI_length _, h, Int.le_refl _, fun i hi => ?_, fun i hi => ?_⟩
  · rw [hr i hi]; omega
  · rw [hr i (by omega), show ((i : Int) + 1) = ((i + 1 : Nat) : Int) by omega, hr (i + 1) (by omega)]; omega
theorem stepN_ok {t l : List Int} {x : Int} (h : rowOK t l x) (p : Int) : ∀ i : Nat, i ≤ t.length → 0 ≤ stepN t l p i ∧ stepN t l p i ≤ (i : Int) + (x + 1) ∧ stepN t l p i ≤ rd l (i : Int) + 1 := by
  obtain ⟨h1, h2, h3, h4, h5⟩ := h
  intro i
  induction i with
  | zero =>
    intro hi
    have := h4 0 (by omega)
    simp only [stepN, Int.natCast_zero] at this ⊢
    omega
  | succ i ih =>
    intro hi
    have a := ih (by omega)
    have b := h4 i (by omega)
    have c := h4 (i + 1) hi
    have u := unl1_le (rd t (i : Int)) p
    simp only [stepN]
    rw [show ((i + 1 : Nat) : Int) = (i : Int) + 1 by omega] at c ⊢
    omega
theorem stepN_near {t l : List Int} {x : Int} (h : rowOK t l x) (p : Int) (i : Nat) (hi : i < t.length) : stepN t l p i - 1 ≤ stepN t l p (i + 1) ∧ stepN t l p (i + 1) ≤ stepN t l p i + 1 := by
  have a := stepN_ok h p i (by omega)
  obtain ⟨h1, h2, h3, h4, h5⟩ := h
  have b := h5 i hi
  have u := unl1_le (rd t (i : Int)) p
  simp only [stepN]
  omega
theorem rowOK_next {t l : List Int} {x : Int} (h : rowOK t l x) (p : Int) : rowOK t ((List.range l.length).map (stepN t l p)) (x + 1) := by
  have h' := h
  obtain ⟨h1, h2, h3, h4, h5⟩ := h
  refine ⟨by simp [h1], h2, by omega, fun i hi => ?_, fun i hi => ?_⟩
  · rw [rd_map_range _ _ i (by omega)]
    have := stepN_ok h' p i hi
    omega
  · rw [show ((i : Int) + 1) = ((i + 1 : Nat) : Int) by omega, rd_map_range _ _ i (by omega), rd_map_range _ _ (i + 1) (by omega)]
    exact stepN_near h' p i hi
theorem rowOK_fol {t l : List Int} {x : Int} (h : rowOK t l x) (hx : x ≤ 500) : folM t l x = true := by
  obtain ⟨h1, h2, h3, h4, h5⟩ := h
  unfold folM
  rw [allF_iff]
  refine ⟨decide_eq_true (by omega), fun j _ hj => ?_⟩
  have a := h4 j (by omega)
  unfold folC
  refine decide_eq_true ⟨by omega, by omega, fun hp => ?_⟩
  have b := h5 (j - 1) (by omega)
  have c := h4 (j - 1) (by omega)
  rw [show ((j - 1 : Nat) : Int) = (j : Int) - 1 by omega] at b c
  rw [show ((j : Int) - 1 + 1) = (j : Int) by omega] at b
  rw [wrap_id (by omega) (by omega)]
  omega
theorem rowOK_ok {t l : List Int} {x : Int} (h : rowOK t l x) (hx : x ≤ 400) (w : Int) (hw : 1 ≤ w ∧ w ≤ 40) : okM t l x w = true := by
  obtain ⟨h1, h2, h3, h4, h5⟩ := h
  unfold okM
  rw [Bool.and_eq_true, List.all_eq_true]
  refine ⟨fun c hc => ?_, decide_eq_true (by omega)⟩
  obtain ⟨j, hj, rfl⟩ := List.getElem_of_mem hc
  have a := h4 j (by omega)
  have e : rd l (j : Int) = l[j] := by rw [rd_nat, List.getD_eq_getElem?_getD, List.getElem?_eq_getElem hj, Option.getD_some]
  rw [e] at a
  simp only [inFar]
  simpa using ⟨a.1, by omega⟩
theorem nearN_all {t l : List Int} {x : Int} (h : rowOK t l x) (hx : x ≤ 400) (p a b : Int) (ha : a ≤ 0) (hb : (t.length : Int) ≤ b) : ∀ i : Nat, i ≤ t.length → nearN t l p a b i = stepN t l p i := by
  intro i
  have k := stepN_ok h p
  have h2 := h.2.1
  induction i with
  | zero =>
    intro hi
    have := k 0 hi
    simp only [nearN, stepN, Int.natCast_zero] at this ⊢
    rw [if_pos (by omega)]
    omega
  | succ i ih =>
    intro hi
    have e := ih (by omega)
    have := k (i + 1) hi
    simp only [stepN] at this
    simp only [nearN, stepN]
    rw [if_pos (by omega), e]
    omega
theorem near_step {t l : List Int} {x : Int} (h : rowOK t l x) (hx : x ≤ 400) (p : Int) : nearM t l x p 40 = stepM t l x p ∧ stepM t l x p = ((List.range l.length).map (stepN t l p), x + 1) := by
  have h1 := h.1
  have h2 := h.2.1
  have hp := posM_bound (l := l) (by omega) (by intro e; subst e; simp at h1)
  have hs : stepM t l x p = ((List.range l.length).map (stepN t l p), x + 1) := by
    unfold stepM
    rw [if_pos ⟨rowOK_fol h (by omega), by omega⟩, stepRow_N t l x p h1]
  refine ⟨?_, hs⟩
  rw [hs]
  unfold nearM
  rw [if_pos (rowOK_ok h hx 40 (by omega))]
  unfold nearRow
  refine congrArg (fun z => (z, x + 1)) (List.map_congr_left fun i hi => ?_)
  have := List.mem_range.1 hi
  exact nearN_all h hx p _ _ (by omega) (by omega) i (by omega)
theorem nearAll_hear {t : List Int} (ps : List Int) : ∀ {l : List Int} {x : Int}, rowOK t l x → x + (ps.length : Int) ≤ 400 → nearAllM t l x ps 40 = hearM t l x ps := by
  induction ps with
  | nil => intro l x _ _; rfl
  | cons p ps ih =>
    intro l x h hx
    simp only [List.length_cons] at hx
    obtain ⟨e1, e2⟩ := near_step h (by omega) p
    have e := ih (rowOK_next h p) (by omega)
    unfold nearAllM hearM at e ⊢
    rw [List.foldl_cons, List.foldl_cons]
    simp only [e1, e2]
    exact e

def sameM (t ps : List Int) (w : Int) : Bool := posM (nearAllM t (startM t).1 (startM t).2.1 ps w).1 == posM (hearM t (startM t).1 (startM t).2.1 ps).1
theorem implSamePlace_ev (t ps : List Int) (w : Int) (ht : t.length ≤ 1048576) (hp : ps.length ≤ 1048576) : Ev (fun k => impl_SamePlace.f k t ps w) (sameM t ps w) := by
  simp only [impl_SamePlace.f]
  have hs := startM_length t
  have h1 := nearAllM_length t w ps (startM t).1 (startM t).2.1
  have h2 := hearM_length t ps (startM t).1 (startM t).2.1
  refine Ev.bind (implStartFollower_ev t) (Ev.bind (implHearNear_ev t _ _ ps w ht (by omega) hp) (Ev.bind (implPositionOf_ev _ _ (by omega)) (Ev.bind (implHearAll_ev t _ _ ps ht (by omega) hp) (Ev.bind (implPositionOf_ev _ _ (by omega)) (Ev.now _)))))
theorem sameM_true {t ps : List Int} (ht : t.length ≤ 40) (hp : ps.length ≤ 100) : sameM t ps 40 = true := by
  have hs : startM t = (countI (t.length + 1), 0, true) := by unfold startM; rw [if_pos ht]
  unfold sameM
  rw [hs]
  dsimp only
  rw [nearAll_hear ps (rowOK_start t ht) (by omega)]
  simp
theorem drawSame_ok (b : List Int) (hb : b.length ≤ 1048576) : ∃ t p w, Ev (fun k => spec_DrawSamePlace.f k b) (t, p, w) ∧ t.length ≤ 13 ∧ p.length ≤ 21 := by
  obtain ⟨s0, e0⟩ := new_ok b hb
  obtain ⟨t, p, i1, s1, e1, ht, hp, h1⟩ := l17Case_ok (Rd.zero hb) s0
  obtain ⟨w, i2, s2, e2, h2⟩ := l18Width_ok h1 s1
  refine ⟨t, p, w, ?_, ht, hp⟩
  simp only [spec_DrawSamePlace.f]
  refine Ev.bind e0 (Ev.bind e1 ?_)
  simp only [e2, Option.bind_some]
  exact Ev.now _
theorem drawNear_ok (b : List Int) (hb : b.length ≤ 1048576) : ∃ t l x p w, Ev (fun k => spec_DrawStepNear.f k b) (t, l, x, p, w) ∧ t.length ≤ 13 ∧ l.length ≤ 41 := by
  obtain ⟨s0, e0⟩ := new_ok b hb
  obtain ⟨t, l, x, p, e1, ht, hl⟩ := drawStep_ok b hb
  obtain ⟨w, i2, s2, e2, h2⟩ := l18Width_ok (Rd.zero hb) s0
  refine ⟨t, l, x, p, w, ?_, ht, hl⟩
  simp only [spec_DrawStepNear.f]
  refine Ev.bind e1 (Ev.bind e0 ?_)
  simp only [e2, Option.bind_some]
  exact Ev.now _
/-- The law's count: no more costs below 500 than places in the window. -/
theorem bo_l0 (t l : List Int) (x p w : Int) (hok : okM t l x w = true) (d : Nat) : ∀ (i : Nat) (c : Int), i + d = l.length → 0 ≤ c → c ≤ max 0 (min (i : Int) (min (posM l + w) (t.length : Int) + 1) - max (posM l - w) 0) →
    Ev (fun k => laws_FnBounded.l0 k w (workM t l x w) c (i : Int) l x (nearRow t l p (posM l - w) (posM l + w)) (x + 1)) true := by
  obtain ⟨h1, h2, h3, h4, h5⟩ := okM_facts hok
  have hpos := posM_bound (l := l) (by omega) (by intro e; subst e; simp at h2)
  have hw : workM t l x w = min (posM l + w) (t.length : Int) - max (posM l - w) 0 + 1 := by unfold workM; rw [if_pos hok]
  have hlen : (nearRow t l p (posM l - w) (posM l + w)).length = l.length := by simp [nearRow]
  rw [hw]
  induction d with
  | zero =>
    intro i c hi h0 hc
    refine ev_tail ?_
    simp only [laws_FnBounded.l0, hlen]
    rw [wrap_id (n := x + 1) (by omega) (by omega), wrap_id (n := 2 * w) (by omega) (by omega), wrap_id (n := 2 * w + 1) (by omega) (by omega)]
    exact ev_neg (by omega) (ev_pos (by omega) (ev_pos (by omega) (ev_eq (Ev.now _) (by simp))))
  | succ d ih =>
    intro i c hi h0 hc
    have hb := nearN_bound (t := t) h5 p (posM l - w) (posM l + w) i
    have hr : rd (nearRow t l p (posM l - w) (posM l + w)) (i : Int) = nearN t l p (posM l - w) (posM l + w) i := by
      unfold nearRow
      rw [rd_nat, List.getD_eq_getElem?_getD, List.getElem?_map, List.getElem?_range (by omega)]
      rfl
    have hout := @nearN_out t l p (posM l - w) (posM l + w) i
    refine ev_tail ?_
    simp only [laws_FnBounded.l0, hlen, hr]
    refine ev_pos (by omega) (ev_pos (by omega) (ev_neg (by omega) (ev_tail ?_)))
    simp only [laws_FnBounded.j2, hlen, hr]
    refine ev_neg (by rw [decide_eq_false (by omega)]; simp) (ev_pos (by omega) (ev_pos (by omega) ?_))
    rw [wrap_succ (by omega)]
    refine ev_ite (fun hlt => ?_) (fun hge => ?_)
    · have hin : posM l - w ≤ (i : Int) ∧ (i : Int) ≤ posM l + w := by
        refine Classical.byContradiction fun hno => ?_
        rw [hout hno] at hlt
        omega
      rw [wrap_id (n := c + 1) (by omega) (by omega)]
      exact ih (i + 1) (c + 1) (by omega) (by omega) (by omega)
    · exact ih (i + 1) c (by omega) h0 (by omega)
theorem bo_j0 (b : List Int) (hb : b.length ≤ 1048576) (c : Bool) (hc : c = false) : Ev (fun k => laws_FnBounded.j0 k b c) true := by
  subst hc
  obtain ⟨t, l, x, p, w, e, ht, hl⟩ := drawNear_ok b hb
  refine ev_tail ?_
  simp only [laws_FnBounded.j0]
  refine ev_neg (by simp) (Ev.bind e (Ev.bind (implWorkOf_ev t l x w (by omega) (by omega)) (Ev.bind (implStepNear_ev t l x p w (by omega) (by omega)) ?_)))
  by_cases hok : okM t l x w = true
  · obtain ⟨h1, h2, h3, h4, h5⟩ := okM_facts hok
    have hpos := posM_bound (l := l) (by omega) (by intro e; subst e; simp at h2)
    have hw : workM t l x w = min (posM l + w) (t.length : Int) - max (posM l - w) 0 + 1 := by unfold workM; rw [if_pos hok]
    have hn : nearM t l x p w = (nearRow t l p (posM l - w) (posM l + w), x + 1) := by unfold nearM; rw [if_pos hok]
    rw [hn]
    exact ev_neg (by rw [hw]; omega) (bo_l0 t l x p w hok l.length 0 0 (by omega) (by omega) (by omega))
  · have hw : workM t l x w = 0 := by unfold workM; rw [if_neg hok]
    have hn : nearM t l x p w = (l, x) := by unfold nearM; rw [if_neg hok]
    rw [hn, hw]
    exact ev_pos rfl (ev_pos rfl (ev_eq (Ev.now _) (by simp)))
theorem FnBounded : ∀ (l0 : List (Int)), (l0.length ≤ maxLen) → (∀ x ∈ l0, (Lit.int .u8 x).wf = true) → ∃ k, laws_FnBounded.f k l0 = some true := by
  intro b _ _
  refine Ev.rounds ?_
  simp only [laws_FnBounded.f, big_ev, Option.bind_some]
  refine ev_ite (fun _ => Ev.now _) (fun h => ?_)
  simp only [decide_eq_true_eq] at h
  have hb : b.length ≤ 1048576 := by omega
  obtain ⟨t, p, w, e, ht, hp⟩ := drawSame_ok b hb
  refine Ev.bind e (ev_ite (fun _ => ?_) (fun _ => bo_j0 b hb _ rfl))
  exact Ev.bind (implSamePlace_ev t p 40 (by omega) (by omega)) (bo_j0 b hb _ (by rw [sameM_true (by omega) (by omega)]; rfl))
end Go.Proofs.Ytlkfhddckgjlnaa.Pure
