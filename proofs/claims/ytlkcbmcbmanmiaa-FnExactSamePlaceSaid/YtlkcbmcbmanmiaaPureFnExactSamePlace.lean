/-
SamePlace of the program and of the reference: the same answer.
Conditions: none.
-/
import Derived.Test.YtlkcbmcbmanmiaaPFnExactSamePlacex11
import Derived.Test.YtlkcbmcbmanmiaaBase
namespace Go.Proofs.Ytlkcbmcbmanmiaa.Pure
open Go.RowKit Go.Proofs.Ytlkcbmcbmanmiaa.PFnExactSamePlace Go.Proofs.YtlkcbmcbmanmiaaW.PrintWords Go.Proofs.YtlkcbmcbmanmiaaW.PrintLast Go.Proofs.YtlkcbmcbmanmiaaW.PrintMore Go.Proofs.Ytlkcbmcbmanmiaa.Base
set_option linter.unusedVariables false
set_option linter.unusedSimpArgs false

theorem l1In_eq (a b c : Int) : spec_l1In.f a b c = some (decide (b ≤ a ∧ a ≤ c)) := by
  unfold spec_l1In.f
  by_cases h1 : b ≤ a <;> by_cases h2 : a ≤ c <;> simp [h1, h2]
theorem InRange_eq (a b c : Int) : impl_InRange.f a b c = some (decide (b ≤ a ∧ a ≤ c)) := by
  unfold impl_InRange.f
  by_cases h1 : b ≤ a <;> by_cases h2 : a ≤ c <;> simp [h1, h2]

theorem toIntS_l0 (suf : List Int) : ∀ pre : List Int, (pre ++ suf).length ≤ 35184372088832 → Ev (fun k => laws_toIntS.l0 k (pre ++ suf) (pre ++ List.replicate suf.length 0) (pre.length : Int)) (pre ++ suf) := by
  induction suf with
  | nil =>
    intro pre h
    refine ev_tail ?_
    simp only [laws_toIntS.l0]
    refine ev_neg (by simp) ?_
    simpa using Ev.now pre
  | cons x t ih =>
    intro pre h
    have e := ih (pre ++ [x]) (by simpa using h)
    simp only [List.length_append, List.length_cons] at h
    refine ev_tail ?_
    simp only [laws_toIntS.l0]
    refine ev_pos (by simp; omega) (ev_pos (by omega) (ev_pos (by simp; omega) ?_))
    rw [rd_mid, List.length_cons, List.replicate_succ, set_mid, wrap_succ (by omega), snoc_cons pre x t, snoc_cons pre x (List.replicate t.length 0), ← length_snoc pre x]
    exact e
theorem toIntS_ev (l : List Int) (h : l.length ≤ 35184372088832) : Ev (fun k => laws_toIntS.f k l) l := by
  simp only [laws_toIntS.f]
  refine ev_pos (by omega) (ev_pos (by omega) ?_)
  exact toIntS_l0 l [] (by simpa using h)

theorem eqIntS_l0 (suf : List Int) : ∀ pre : List Int, (pre ++ suf).length ≤ 35184372088832 → Ev (fun k => laws_eqIntS.l0 k (pre ++ suf) (pre ++ suf) (pre.length : Int)) true := by
  induction suf with
  | nil =>
    intro pre h
    refine ev_tail ?_
    simp only [laws_eqIntS.l0]
    exact ev_neg (by simp) (Ev.now true)
  | cons x t ih =>
    intro pre h
    have e := ih (pre ++ [x]) (by simpa using h)
    simp only [List.length_append, List.length_cons] at h
    refine ev_tail ?_
    simp only [laws_eqIntS.l0]
    refine ev_pos (by simp; omega) (ev_pos (by omega) (ev_pos (by simp; omega) (ev_pos (by trivial) ?_)))
    rw [wrap_succ (by omega), snoc_cons pre x t, ← length_snoc pre x]
    exact e
theorem eqIntS_ev (l : List Int) (h : l.length ≤ 35184372088832) : Ev (fun k => laws_eqIntS.f k l l) true := by
  simp only [laws_eqIntS.f]
  refine ev_pos (by trivial) ?_
  exact eqIntS_l0 l [] (by simpa using h)

/-- 0, 1, .. -/
def countI (n : Nat) : List Int := (List.range n).map fun (j : Nat) => (j : Int)
theorem countI_succ (n : Nat) : countI (n + 1) = countI n ++ [(n : Int)] := by simp [countI, List.range_succ]
theorem countI_length (n : Nat) : (countI n).length = n := by simp [countI]
def startM (t : List Int) : List Int × Int × Bool := if t.length ≤ 40 then (countI (t.length + 1), 0, true) else ([], 0, false)
theorem specStart_l0 (t : List Int) (h : t.length ≤ 40) (d : Nat) : ∀ i, i + d = t.length + 1 → Ev (fun k => spec_StartFollower.l0 k t (i : Int) (countI i) 0) (countI (t.length + 1), 0, true) := by
  induction d with
  | zero =>
    intro i hi
    refine ev_tail ?_
    simp only [spec_StartFollower.l0]
    obtain rfl : i = t.length + 1 := by omega
    exact ev_neg (by omega) (Ev.now _)
  | succ d ih =>
    intro i hi
    have e := ih (i + 1) (by omega)
    refine ev_tail ?_
    simp only [spec_StartFollower.l0]
    refine ev_pos (by omega) (ev_pos (by rw [countI_length]; omega) ?_)
    rw [wrap_succ (by omega), ← countI_succ]
    exact e
theorem implStart_l0 (n : Nat) (h : n ≤ 41) (d : Nat) : ∀ i, i + d = n → Ev (fun k => impl_StartFollower.l0 k (n : Int) (i : Int) (countI i) 0) (countI n, 0, true) := by
  induction d with
  | zero =>
    intro i hi
    refine ev_tail ?_
    simp only [impl_StartFollower.l0]
    obtain rfl : i = n := by omega
    exact ev_neg (by omega) (Ev.now _)
  | succ d ih =>
    intro i hi
    have e := ih (i + 1) (by omega)
    refine ev_tail ?_
    simp only [impl_StartFollower.l0]
    refine ev_pos (by omega) (ev_pos (by rw [countI_length]; omega) ?_)
    rw [wrap_succ (by omega), ← countI_succ]
    exact e
theorem specStartFollower_ev (t : List Int) : Ev (fun k => spec_StartFollower.f k t) (startM t) := by
  simp only [spec_StartFollower.f, startM]
  by_cases h : t.length ≤ 40
  · rw [if_pos h]
    have e := specStart_l0 t h (t.length + 1) 0 (by omega)
    exact ev_neg (by omega) (by simpa [countI] using e)
  · rw [if_neg h]
    exact ev_pos (by omega) (Ev.now _)
theorem implStartFollower_ev (t : List Int) : Ev (fun k => impl_StartFollower.f k t) (startM t) := by
  simp only [impl_StartFollower.f, startM]
  by_cases h : t.length ≤ 40
  · rw [if_pos h]
    refine ev_neg (by omega) ?_
    rw [wrap_succ (by omega)]
    have e := implStart_l0 (t.length + 1) (by omega) (t.length + 1) 0 (by omega)
    simpa [countI] using e
  · rw [if_neg h]
    exact ev_pos (by omega) (Ev.now _)
theorem startM_length (t : List Int) : (startM t).1.length ≤ 41 := by
  unfold startM
  split
  · simp [countI_length]; omega
  · simp

def folC (l : List Int) (i : Int) : Bool := decide (0 ≤ rd l i ∧ rd l i ≤ 1000 ∧ (0 < i → -1 ≤ wrap64 (rd l i - rd l (i - 1)) ∧ wrap64 (rd l i - rd l (i - 1)) ≤ 1))
def folM (t l : List Int) (x : Int) : Bool := allF (folC l) (decide ((t.length : Int) ≤ 40 ∧ (l.length : Int) = (t.length : Int) + 1 ∧ 0 ≤ x ∧ x ≤ 1000)) l.length 0
theorem specIsFollower_ev (t l : List Int) (x : Int) (ht : t.length ≤ 1048576) (h : l.length ≤ 1048577) : Ev (fun k => spec_IsFollower.f k t l x) (folM t l x) := by
  simp only [spec_IsFollower.f]
  refine ev_all (L := fun k i => spec_IsFollower.l0 k t i l x) (n := l.length) (fun i hi => ?_) ?_ l.length 0 (by omega)
  · have w1 : wrap64 ((i : Int) + 1) = (i : Int) + 1 := wrap_id (by omega) (by omega)
    have w2 : wrap64 ((i : Int) - 1) = (i : Int) - 1 := wrap_id (by omega) (by omega)
    constructor
    · intro hc r e
      simp only [folC, decide_eq_true_eq] at hc
      obtain ⟨h1, h2, h5⟩ := hc
      refine ev_tail ?_
      simp only [spec_IsFollower.l0, l1In_eq, Option.bind_some, w1, w2]
      refine ev_pos (by omega) (ev_pos (by omega) (ev_pos (by simpa using ⟨h1, h2⟩) ?_))
      refine ev_ite (fun h0 => ?_) (fun _ => e)
      exact ev_pos (by omega) (ev_pos (by omega) (ev_pos (by simpa using h5 h0) e))
    · intro hc
      simp only [folC, decide_eq_false_iff_not] at hc
      refine ev_tail ?_
      simp only [spec_IsFollower.l0, l1In_eq, Option.bind_some, w1, w2]
      refine ev_pos (by omega) (ev_pos (by omega) (ev_ite (fun h1 => ?_) (fun _ => Ev.now _)))
      simp only [decide_eq_true_eq] at h1
      refine ev_ite (fun h0 => ?_) (fun h0 => absurd ⟨h1.1, h1.2, fun h => absurd h h0⟩ hc)
      refine ev_pos (by omega) (ev_pos (by omega) (ev_ite (fun h3 => ?_) (fun _ => Ev.now _)))
      simp only [decide_eq_true_eq] at h3
      exact absurd ⟨h1.1, h1.2, fun _ => h3⟩ hc
  · refine ev_tail ?_
    have w3 : wrap64 ((t.length : Int) + 1) = (t.length : Int) + 1 := wrap_id (by omega) (by omega)
    simp only [spec_IsFollower.l0, l1In_eq, Option.bind_some, w3]
    refine ev_neg (by omega) (ev_ite (fun h1 => ev_ite (fun h2 => ?_) (fun h2 => ?_)) (fun h1 => ?_))
    · simpa [h1, h2] using Ev.now _
    · simpa [h1, h2] using Ev.now _
    · simpa [h1] using Ev.now _
theorem implIsFollower_ev (t l : List Int) (x : Int) (ht : t.length ≤ 1048576) (h : l.length ≤ 1048577) : Ev (fun k => impl_IsFollower.f k t l x) (folM t l x) := by
  simp only [impl_IsFollower.f]
  refine ev_all (L := fun k i => impl_IsFollower.l0 k t l (l.length : Int) i l x) (n := l.length) (fun i hi => ?_) ?_ l.length 0 (by omega)
  · have w1 : wrap64 ((i : Int) + 1) = (i : Int) + 1 := wrap_id (by omega) (by omega)
    have w2 : wrap64 ((i : Int) - 1) = (i : Int) - 1 := wrap_id (by omega) (by omega)
    constructor
    · intro hc r e
      simp only [folC, decide_eq_true_eq] at hc
      obtain ⟨h1, h2, h5⟩ := hc
      refine ev_tail ?_
      simp only [impl_IsFollower.l0, InRange_eq, Option.bind_some, w1, w2]
      refine ev_pos (by omega) (ev_pos (by omega) (ev_pos (by omega) (ev_pos (by simpa using ⟨h1, h2⟩) ?_)))
      refine ev_ite (fun h0 => ?_) (fun _ => e)
      exact ev_pos (by omega) (ev_pos (by omega) (ev_pos (by simpa using h5 h0) e))
    · intro hc
      simp only [folC, decide_eq_false_iff_not] at hc
      refine ev_tail ?_
      simp only [impl_IsFollower.l0, InRange_eq, Option.bind_some, w1, w2]
      refine ev_pos (by omega) (ev_pos (by omega) (ev_pos (by omega) (ev_ite (fun h1 => ?_) (fun _ => Ev.now _))))
      simp only [decide_eq_true_eq] at h1
      refine ev_ite (fun h0 => ?_) (fun h0 => absurd ⟨h1.1, h1.2, fun h => absurd h h0⟩ hc)
      refine ev_pos (by omega) (ev_pos (by omega) (ev_ite (fun h3 => ?_) (fun _ => Ev.now _)))
      simp only [decide_eq_true_eq] at h3
      exact absurd ⟨h1.1, h1.2, fun _ => h3⟩ hc
  · refine ev_tail ?_
    have w3 : wrap64 ((t.length : Int) + 1) = (t.length : Int) + 1 := wrap_id (by omega) (by omega)
    simp only [impl_IsFollower.l0, InRange_eq, Option.bind_some, w3]
    refine ev_neg (by omega) (ev_ite (fun h1 => ev_ite (fun h2 => ?_) (fun h2 => ?_)) (fun h1 => ?_))
    · simpa [h1, h2] using Ev.now _
    · simpa [h1, h2] using Ev.now _
    · simpa [h1] using Ev.now _

/-- Where x stands first in a list, counted from i; -1: nowhere. -/
def idxI : List Int → Int → Int → Int
  | [], _, _ => -1
  | y :: t, x, i => if x = y then i else idxI t x (i + 1)
theorem idxI_bd (l : List Int) (x : Int) : ∀ i, 0 ≤ i → -1 ≤ idxI l x i ∧ idxI l x i < i + l.length + 1 := by
  induction l with
  | nil => intro i h; simp [idxI]; omega
  | cons y t ih =>
    intro i h
    simp only [idxI]
    split
    · simp; omega
    · have := ih (i + 1) (by omega)
      simp only [List.length_cons]
      omega
theorem Index_l0 (x : Int) (suf : List Int) : ∀ pre : List Int, (pre ++ suf).length ≤ 35184372088832 → Ev (fun k => slices_Index_int_int.l0 k (pre ++ suf) x ((pre ++ suf).length : Int) (pre.length : Int)) (idxI suf x (pre.length : Int)) := by
  induction suf with
  | nil =>
    intro pre h
    refine ev_tail ?_
    simp only [slices_Index_int_int.l0]
    exact ev_neg (by simp) (Ev.now _)
  | cons y t ih =>
    intro pre h
    have e := ih (pre ++ [y]) (by simpa using h)
    simp only [List.length_append, List.length_cons] at h
    refine ev_tail ?_
    simp only [slices_Index_int_int.l0, idxI]
    refine ev_pos (by simp; omega) (ev_pos (by omega) (ev_pos (by simp; omega) ?_))
    rw [rd_mid]
    by_cases hy : x = y
    · rw [if_pos hy]
      exact ev_pos hy (Ev.now _)
    · rw [if_neg hy]
      refine ev_neg hy ?_
      rw [wrap_succ (by omega), snoc_cons pre y t, ← length_snoc pre y]
      simpa using e
theorem Index_ev (l : List Int) (x : Int) (h : l.length ≤ 35184372088832) : Ev (fun k => slices_Index_int_int.f k l x) (idxI l x 0) := by
  simp only [slices_Index_int_int.f]
  exact Index_l0 x l [] (by simpa using h)

/-- The least of a number and a list's numbers. -/
def minGo : List Int → Int → Int
  | [], m => m
  | y :: t, m => minGo t (mn m y)
theorem Min_l0 (suf : List Int) : ∀ (pre : List Int) (m : Int), (pre ++ suf).length ≤ 35184372088832 → Ev (fun k => slices_Min_int_int.l0 k (pre ++ suf) m (pre.length : Int)) (minGo suf m) := by
  induction suf with
  | nil =>
    intro pre m h
    refine ev_tail ?_
    simp only [slices_Min_int_int.l0]
    exact ev_neg (by simp) (Ev.now _)
  | cons y t ih =>
    intro pre m h
    have e := ih (pre ++ [y]) (mn m y) (by simpa using h)
    simp only [List.length_append, List.length_cons] at h
    refine ev_tail ?_
    simp only [slices_Min_int_int.l0, minGo]
    refine ev_pos (by simp; omega) (ev_pos (by omega) ?_)
    rw [rd_mid, wrap_succ (by omega), snoc_cons pre y t, ← length_snoc pre y]
    exact e
theorem Min_ev (y : Int) (t : List Int) (h : (y :: t).length ≤ 35184372088832) : Ev (fun k => slices_Min_int_int.f k (y :: t)) (minGo t y) := by
  simp only [slices_Min_int_int.f]
  refine ev_neg (by simp; omega) (ev_pos (by simp) ?_)
  exact Min_l0 t [y] y h
theorem minGo_le (l : List Int) : ∀ m, minGo l m ≤ m ∧ ∀ y ∈ l, minGo l m ≤ y := by
  induction l with
  | nil => intro m; simp [minGo]
  | cons y t ih =>
    intro m
    obtain ⟨h1, h2⟩ := ih (mn m y)
    rw [mn_eq] at h1
    simp only [minGo, mn_eq] at *
    refine ⟨by omega, fun z hz => ?_⟩
    rcases List.mem_cons.1 hz with rfl | hz
    · omega
    · exact h2 z hz
/-- The first place of the least number. -/
def posM : List Int → Int
  | [] => 0
  | y :: t => idxI (y :: t) (minGo t y) 0
def bestM : List Int → Int
  | [] => 0
  | y :: t => minGo t y
theorem idxI_at (l : List Int) (x : Int) : ∀ (p i : Nat), p < l.length → l.getD p 0 = x → (∀ j, j < p → l.getD j 0 ≠ x) → idxI l x (i : Int) = ((i + p : Nat) : Int) := by
  induction l with
  | nil => intro p i h; simp at h
  | cons y t ih =>
    intro p i h h1 h2
    cases p with
    | zero =>
      simp only [List.getD_cons_zero] at h1
      simp [idxI, h1]
    | succ p =>
      have h0 : y ≠ x := by simpa using h2 0 (by omega)
      simp only [idxI]
      rw [if_neg (fun h => h0 h.symm)]
      have := ih p (i + 1) (by simpa using h) (by simpa using h1) (fun j hj => by simpa using h2 (j + 1) (by omega))
      rw [show ((i : Int) + 1) = ((i + 1 : Nat) : Int) by omega, this]
      omega
theorem minGo_mem (l : List Int) : ∀ m, minGo l m = m ∨ minGo l m ∈ l := by
  induction l with
  | nil => intro m; simp [minGo]
  | cons y t ih =>
    intro m
    simp only [minGo]
    rcases ih (mn m y) with h | h
    · rw [h, mn_eq]
      rcases Int.le_total m y with hl | hl
      · left; omega
      · right; rw [show min m y = y by omega]; simp
    · right; simp [h]
/-- The place that the reference finds. -/
def IsPos (l : List Int) (p : Nat) : Prop := p < l.length ∧ (∀ j, j < l.length → l.getD p 0 ≤ l.getD j 0) ∧ ∀ j, j < p → l.getD p 0 < l.getD j 0
theorem posM_of (l : List Int) (p : Nat) (h : IsPos l p) : posM l = (p : Int) ∧ bestM l = l.getD p 0 := by
  obtain ⟨h0, h1, h2⟩ := h
  cases l with
  | nil => simp at h0
  | cons y t =>
    have hm : minGo t y = (y :: t).getD p 0 := by
      have hle := minGo_le t y
      apply Int.le_antisymm
      · have hmem : (y :: t).getD p 0 ∈ y :: t := by
          rw [List.getD_eq_getElem?_getD, List.getElem?_eq_getElem h0]; exact List.getElem_mem h0
        rcases List.mem_cons.1 hmem with h | h
        · rw [h]; exact hle.1
        · exact hle.2 _ h
      · rcases minGo_mem t y with h | h
        · rw [h]; exact h1 0 (by simp)
        · obtain ⟨j, hj, hje⟩ := List.getElem_of_mem h
          have := h1 (j + 1) (by simpa using hj)
          rw [List.getD_cons_succ, List.getD_eq_getElem?_getD (l := t), List.getElem?_eq_getElem hj, Option.getD_some, hje] at this
          exact this
    refine ⟨?_, hm⟩
    simp only [posM]
    have := idxI_at (y :: t) (minGo t y) p 0 h0 hm.symm (fun j hj => by have := h2 j hj; omega)
    simpa using this
theorem specPos_l0 (l : List Int) (x : Int) (hl : l.length ≤ 35184372088832) (d : Nat) : ∀ (i p : Nat), i + d = l.length → p < i → (∀ j, j < i → l.getD p 0 ≤ l.getD j 0) → (∀ j, j < p → l.getD p 0 < l.getD j 0) → ∃ q, IsPos l q ∧ Ev (fun k => spec_PositionOf.l0 k (p : Int) (i : Int) l x) (q : Int) := by
  induction d with
  | zero =>
    intro i p hi hp h1 h2
    refine ⟨p, ⟨by omega, fun j hj => h1 j (by omega), h2⟩, ev_tail ?_⟩
    simp only [spec_PositionOf.l0]
    exact ev_neg (by omega) (Ev.now _)
  | succ d ih =>
    intro i p hi hp h1 h2
    have w1 : wrap64 ((i : Int) + 1) = ((i + 1 : Nat) : Int) := wrap_succ (by omega)
    by_cases hlt : l.getD i 0 < l.getD p 0
    · obtain ⟨q, hq, e⟩ := ih (i + 1) i (by omega) (by omega) (fun j hj => by
        rcases Nat.lt_or_ge j i with h | h
        · have := h1 j h; omega
        · have : j = i := by omega
          subst this; omega) (fun j hj => by have := h1 j hj; omega)
      refine ⟨q, hq, ev_tail ?_⟩
      simp only [spec_PositionOf.l0, w1, rd_nat]
      exact ev_pos (by omega) (ev_pos (by omega) (ev_pos (by omega) (ev_pos (by omega) (ev_pos hlt e))))
    · obtain ⟨q, hq, e⟩ := ih (i + 1) p (by omega) (by omega) (fun j hj => by
        rcases Nat.lt_or_ge j i with h | h
        · exact h1 j h
        · have : j = i := by omega
          subst this; omega) h2
      refine ⟨q, hq, ev_tail ?_⟩
      simp only [spec_PositionOf.l0, w1, rd_nat]
      exact ev_pos (by omega) (ev_pos (by omega) (ev_pos (by omega) (ev_pos (by omega) (ev_neg hlt e))))
theorem specPos (l : List Int) (x : Int) (hl : l.length ≤ 35184372088832) (h0 : l ≠ []) : ∃ q, IsPos l q ∧ Ev (fun k => spec_PositionOf.f k l x) (q : Int) := by
  cases l with
  | nil => exact absurd rfl h0
  | cons y t =>
    simp only [spec_PositionOf.f]
    obtain ⟨q, hq, e⟩ := specPos_l0 (y :: t) x hl t.length 1 0 (by simp; omega) (by omega) (fun j hj => by
      have : j = 0 := by omega
      subst this
      exact Int.le_refl _) (fun j hj => by omega)
    exact ⟨q, hq, by simpa using e⟩
theorem specPositionOf_ev (l : List Int) (x : Int) (hl : l.length ≤ 35184372088832) : Ev (fun k => spec_PositionOf.f k l x) (posM l) := by
  by_cases h0 : l = []
  · subst h0
    simp only [spec_PositionOf.f, posM]
    refine ev_tail ?_
    simp only [spec_PositionOf.l0]
    exact ev_neg (by simp) (Ev.now _)
  · obtain ⟨q, hq, e⟩ := specPos l x hl h0
    rw [(posM_of l q hq).1]
    exact e

theorem implPositionOf_ev (l : List Int) (x : Int) (hl : l.length ≤ 35184372088832) : Ev (fun k => impl_PositionOf.f k l x) (posM l) := by
  simp only [impl_PositionOf.f]
  cases l with
  | nil => exact ev_pos (by simp) (Ev.now _)
  | cons y t =>
    refine ev_neg (by simp; omega) ?_
    exact Ev.bind (Min_ev y t hl) (Ev.bind (Index_ev _ _ hl) (Ev.now _))

def okM (t l : List Int) (x w : Int) : Bool := l.all inFar && decide (t.length ≤ 40 ∧ l.length = t.length + 1 ∧ 0 ≤ x ∧ x ≤ 500 ∧ 1 ≤ w ∧ w ≤ 40)
theorem okM_facts {t l : List Int} {x w : Int} (h : okM t l x w = true) : t.length ≤ 40 ∧ l.length = t.length + 1 ∧ (0 ≤ x ∧ x ≤ 500) ∧ (1 ≤ w ∧ w ≤ 40) ∧ ∀ c ∈ l, 0 ≤ c ∧ c ≤ 500 := by
  unfold okM at h
  rw [Bool.and_eq_true, List.all_eq_true] at h
  obtain ⟨h1, h2⟩ := h
  simp only [decide_eq_true_eq] at h2
  obtain ⟨a, b, c, d, e, f⟩ := h2
  exact ⟨a, b, ⟨c, d⟩, ⟨e, f⟩, fun z hz => by have := h1 z hz; simpa [inFar] using this⟩
theorem posM_bound {l : List Int} (hl : l.length ≤ 35184372088832) (h0 : l ≠ []) : 0 ≤ posM l ∧ posM l < l.length := by
  obtain ⟨q, h, _⟩ := specPos l 0 hl h0
  rw [(posM_of l q h).1]
  have := h.1
  omega
theorem specOk_l0 (t : List Int) (x w : Int) (ht : t.length ≤ 1048576) (suf : List Int) : ∀ pre : List Int, (pre ++ suf).length ≤ 1048577 → Ev (fun k => spec_l18Ok.l0 k t w (pre.length : Int) (pre ++ suf) x) (suf.all inFar && decide (t.length ≤ 40 ∧ (pre ++ suf).length = t.length + 1 ∧ 0 ≤ x ∧ x ≤ 500 ∧ 1 ≤ w ∧ w ≤ 40)) := by
  induction suf with
  | nil =>
    intro pre h
    refine ev_tail ?_
    simp only [spec_l18Ok.l0, l1In_eq, Option.bind_some]
    have w3 : wrap64 ((t.length : Int) + 1) = (t.length : Int) + 1 := wrap_id (by omega) (by omega)
    rw [w3]
    refine ev_neg (by simp) ?_
    simp only [List.append_nil, List.all_nil, Bool.true_and]
    refine ev_ite (fun h1 => ev_ite (fun h2 => ev_ite (fun h3 => ?_) (fun h3 => ?_)) (fun h2 => ?_)) (fun h1 => ?_)
    · refine ev_eq (Ev.now _) (decide_eq_decide.2 ?_)
      simp only [decide_eq_true_eq] at h3
      constructor
      · intro h4; exact ⟨by omega, by omega, h3.1, h3.2, h4.1, h4.2⟩
      · intro h4; exact ⟨h4.2.2.2.2.1, h4.2.2.2.2.2⟩
    · refine ev_eq (Ev.now _) ?_
      simp only [decide_eq_true_eq] at h3
      exact (decide_eq_false (fun h4 => h3 ⟨h4.2.2.1, h4.2.2.2.1⟩)).symm
    · exact ev_eq (Ev.now _) (decide_eq_false (fun h4 => h2 (by omega))).symm
    · exact ev_eq (Ev.now _) (decide_eq_false (fun h4 => h1 (by omega))).symm
  | cons c cs ih =>
    intro pre h
    have e := ih (pre ++ [c]) (by simpa using h)
    have hl := h
    simp only [List.length_append, List.length_cons] at h
    refine ev_tail ?_
    simp only [spec_l18Ok.l0, l1In_eq, Option.bind_some]
    refine ev_pos (by simp; omega) (ev_pos (by omega) ?_)
    rw [rd_mid, List.all_cons]
    refine ev_ite (fun h1 => ?_) (fun h1 => ?_)
    · rw [wrap_succ (by omega), snoc_cons pre c cs, ← length_snoc pre c]
      have h2 : inFar c = true := h1
      rw [h2, Bool.true_and]
      exact e
    · have h2 : inFar c = false := by unfold inFar; simpa using h1
      rw [h2, Bool.false_and]
      exact Ev.now _
theorem specOk_ev (t l : List Int) (x w : Int) (ht : t.length ≤ 1048576) (hl : l.length ≤ 1048577) : Ev (fun k => spec_l18Ok.f k t l x w) (okM t l x w) := by
  simp only [spec_l18Ok.f]
  exact specOk_l0 t x w ht l [] (by simpa using hl)
def winM (t l : List Int) (x w : Int) : Int × Int × Bool := if okM t l x w = true then (max (posM l - w) 0, min (posM l + w) (t.length : Int), true) else (0, 0, false)
theorem anyFar_eq (l : List Int) : slices_ContainsFunc_int_int.f l = some (!(l.all inFar)) := by
  unfold slices_ContainsFunc_int_int.f
  rw [List.not_all_eq_any_not]
theorem implWindow_ev (t l : List Int) (x w : Int) (ht : t.length ≤ 1048576) (hl : l.length ≤ 1048577) : Ev (fun k => impl_window.f k t l x w) (winM t l x w) := by
  simp only [impl_window.f, InRange_eq, Option.bind_some]
  refine ev_val (anyFar_eq l) ?_
  have w3 : Aside0 (wrap64 ((t.length : Int) + 1) = (t.length : Int) + 1) := ⟨wrap_id (by omega) (by omega)⟩
  rw [w3.out]
  have no : okM t l x w ≠ true → winM t l x w = (0, 0, false) := fun h => if_neg h
  refine ev_ite (fun h1 => ?_) (fun h1 => ?_)
  · rw [no (fun h => ?_)]
    · exact Ev.now _
    · simp only [okM, Bool.and_eq_true] at h
      rw [h.1] at h1; cases h1
  have a1 : l.all inFar = true := by simpa using h1
  refine ev_ite (fun h2 => ?_) (fun h2 => ?_)
  · rw [no (fun h => by have := (okM_facts h).1; omega)]; exact Ev.now _
  refine ev_ite (fun h3 => ?_) (fun h3 => ?_)
  rotate_left
  · rw [no (fun h => by have := (okM_facts h).2.1; omega)]; exact Ev.now _
  refine ev_ite (fun h4 => ?_) (fun h4 => ?_)
  rotate_left
  · rw [no (fun h => h4 (decide_eq_true (okM_facts h).2.2.1))]; exact Ev.now _
  refine ev_ite (fun h5 => ?_) (fun h5 => ?_)
  rotate_left
  · rw [no (fun h => h5 (decide_eq_true (okM_facts h).2.2.2.1))]; exact Ev.now _
  simp only [decide_eq_true_eq] at h4 h5
  have hb := posM_bound (l := l) (by omega) (by intro h; subst h; simp at h3; omega)
  have hok : okM t l x w = true := by
    unfold okM
    rw [a1, Bool.true_and]
    exact decide_eq_true ⟨by omega, by omega, h4.1, h4.2, h5.1, h5.2⟩
  refine Ev.bind (implPositionOf_ev l x (by omega)) ?_
  rw [winM, if_pos hok]
  refine ev_eq (Ev.now _) ?_
  rw [wrap_id (by omega) (by omega), wrap_id (by omega) (by omega), mx_eq, mn_eq]

/-- 0 for two like numbers, else 1. -/
def unl1 (x p : Int) : Int := if x = p then 0 else 1
theorem unl1_le (x p : Int) : 0 ≤ unl1 x p ∧ unl1 x p ≤ 1 := by unfold unl1; split <;> omega
theorem unlike_eq (x p : Int) : impl_unlike.f x p = some (unl1 x p) := by
  unfold impl_unlike.f unl1
  by_cases h : x = p <;> simp [h]
theorem specMin_eq (a b : Int) : spec_Min.f a b = some (min a b) := by
  unfold spec_Min.f
  by_cases h : b < a
  · rw [if_pos h]; congr 1; omega
  · rw [if_neg h]; congr 1; omega

theorem l17Copy_eq (l : List Int) (x : Int) (h : l.length < 17592186044416) : spec_l17Copy.f l x = some (l, x) := by
  unfold spec_l17Copy.f
  simp [h]
theorem clone_eq (l : List Int) (h : l.length < 17592186044416) : impl_clone_int.f l = some l := by
  unfold impl_clone_int.f
  simp [h]

theorem rd_at (pre : List Int) (x : Int) (suf : List Int) {i : Int} (h : i = (pre.length : Int)) : rd (pre ++ x :: suf) i = x := by
  subst h; exact rd_mid pre x suf
theorem rd_at1 (pre : List Int) (d x : Int) (suf : List Int) {i : Int} (h : i = ((pre.length + 1 : Nat) : Int)) : rd (pre ++ d :: x :: suf) i = x := by
  rw [snoc_cons]; exact rd_at _ _ _ (by simp; omega)
theorem set_at1 (pre : List Int) (d x y : Int) (suf : List Int) {i : Int} (h : i = ((pre.length + 1 : Nat) : Int)) : (pre ++ d :: x :: suf).set i.toNat y = pre ++ d :: y :: suf := by
  subst h
  rw [snoc_cons]
  have e := set_mid (pre ++ [d]) x y suf
  rw [length_snoc] at e
  rw [e]; simp
def stepV (p x d o c : Int) : Int := min (min (c + 1) (o + 1)) (d + unl1 x p)
/-- The costs behind the first one, once a pitch is heard. -/
def folRow (p : Int) : List Int → Int → Int → List Int → List Int
  | x :: t, d, o, c :: cs => stepV p x d o c :: folRow p t c (stepV p x d o c) cs
  | _, _, _, _ => []
theorem folRow_length (p : Int) (t : List Int) : ∀ (d o : Int) (cs : List Int), cs.length = t.length → (folRow p t d o cs).length = cs.length := by
  induction t with
  | nil => intro d o cs h; cases cs with
    | nil => rfl
    | cons c cs => simp at h
  | cons x t ih =>
    intro d o cs h
    cases cs with
    | nil => simp at h
    | cons c cs => simp only [folRow, List.length_cons]; rw [ih _ _ _ (by simpa using h)]
def stepRow (t l : List Int) (x p : Int) : List Int × Int := match l with
  | [] => ([], x + 1)
  | c :: cs => ((c + 1) :: folRow p t c (c + 1) cs, x + 1)
def stepM (t l : List Int) (x p : Int) : List Int × Int := if folM t l x = true ∧ x ≤ 500 then stepRow t l x p else (l, x)
theorem folM_facts {t l : List Int} {x : Int} (h : folM t l x = true) : t.length ≤ 40 ∧ l.length = t.length + 1 ∧ 0 ≤ x ∧ x ≤ 1000 ∧ ∀ c ∈ l, 0 ≤ c ∧ c ≤ 1000 := by
  unfold folM at h
  rw [allF_iff] at h
  obtain ⟨h1, h2⟩ := h
  simp only [decide_eq_true_eq] at h1
  refine ⟨by omega, by omega, h1.2.2.1, h1.2.2.2, fun c hc => ?_⟩
  obtain ⟨j, hj, rfl⟩ := List.getElem_of_mem hc
  have h3 := h2 j (by omega) (by omega)
  simp only [folC, decide_eq_true_eq] at h3
  have e : rd l (j : Int) = l[j] := by rw [rd_nat, List.getD_eq_getElem?_getD, List.getElem?_eq_getElem hj, Option.getD_some]
  rw [e] at h3
  exact ⟨h3.1, h3.2.1⟩
theorem stepV_bound {p x d o c : Int} (hd : 0 ≤ d ∧ d ≤ 1001) (ho : 0 ≤ o ∧ o ≤ 1001) (hc : 0 ≤ c ∧ c ≤ 1000) : 0 ≤ stepV p x d o c ∧ stepV p x d o c ≤ 1001 := by
  have := unl1_le x p
  unfold stepV; omega
theorem implStep_l0 (p x h : Int) (ts : List Int) : ∀ (tp lp op cs : List Int) (d o : Int), tp.length = lp.length → op.length = lp.length → cs.length = ts.length → (tp ++ ts).length ≤ 40 → (0 ≤ d ∧ d ≤ 1000) → (0 ≤ o ∧ o ≤ 1001) → (∀ c ∈ cs, 0 ≤ c ∧ c ≤ 1000) →
    Ev (fun k => impl_StepFollower.l0 k p (tp ++ ts) ((tp ++ ts).length : Int) (tp.length : Int) (lp ++ d :: cs) x (op ++ o :: cs) h) (op ++ o :: folRow p ts d o cs, h) := by
  induction ts with
  | nil =>
    intro tp lp op cs d o h1 h2 h3 h4 _ _ _
    obtain rfl : cs = [] := List.length_eq_zero_iff.1 (by simpa using h3)
    refine ev_tail ?_
    simp only [impl_StepFollower.l0]
    exact ev_neg (by simp) (Ev.now _)
  | cons y t ih =>
    intro tp lp op cs d o h1 h2 h3 h4 hd ho hc
    cases cs with
    | nil => simp at h3
    | cons c cs =>
      have hcc := hc c (by simp)
      have hv := stepV_bound (p := p) (x := y) ⟨hd.1, by omega⟩ ho hcc
      have e := ih (tp ++ [y]) (lp ++ [d]) (op ++ [o]) cs c (stepV p y d o c) (by simp [h1]) (by simp [h2]) (by simpa using h3) (by simpa using h4) hcc hv (fun z hz => hc z (by simp [hz]))
      simp only [List.length_append, List.length_cons] at h4
      refine ev_tail ?_
      simp only [impl_StepFollower.l0]
      have w1 : Aside0 (wrap64 ((tp.length : Int) + 1) = ((tp.length + 1 : Nat) : Int)) := ⟨wrap_succ (by omega)⟩
      rw [w1.out]
      refine ev_pos (by simp; omega) (ev_pos (by omega) (ev_pos (by simp; omega) (ev_pos (by omega) (ev_pos (by simp; omega) (ev_pos (by simp; omega) (ev_pos (by simp; omega) (ev_val (unlike_eq _ _) (ev_pos (by simp; omega) ?_))))))))
      have r1 := rd_mid tp y t
      have r2 := rd_at1 lp d c cs (i := ((tp.length + 1 : Nat) : Int)) (by omega)
      have r3 := rd_at op o (c :: cs) (i := (tp.length : Int)) (by omega)
      have r4 := rd_at lp d (c :: cs) (i := (tp.length : Int)) (by omega)
      have u := unl1_le y p
      rw [r1, r2, r3, r4, set_at1 op o c _ cs (by omega)]
      have ev : mn (mn (wrap64 (c + 1)) (wrap64 (o + 1))) (wrap64 (d + unl1 y p)) = stepV p y d o c := by
        rw [wrap_id (by omega) (by omega), wrap_id (by omega) (by omega), wrap_id (by omega) (by omega), mn_eq, mn_eq]
        rfl
      rw [ev]
      simp only [folRow]
      have e2 := e
      simp only [List.append_assoc, List.singleton_append, length_snoc] at e2
      exact e2
theorem specStep_l0 (p x h : Int) (ts : List Int) : ∀ (tp lp op cs : List Int) (d o : Int), tp.length = lp.length → op.length = lp.length → cs.length = ts.length → (tp ++ ts).length ≤ 40 → (0 ≤ d ∧ d ≤ 1000) → (0 ≤ o ∧ o ≤ 1001) → (∀ c ∈ cs, 0 ≤ c ∧ c ≤ 1000) →
    Ev (fun k => spec_StepFollower.l0 k (tp ++ ts) p ((tp.length + 1 : Nat) : Int) (lp ++ d :: cs) x (op ++ o :: cs) h) (op ++ o :: folRow p ts d o cs, h) := by
  induction ts with
  | nil =>
    intro tp lp op cs d o h1 h2 h3 h4 _ _ _
    obtain rfl : cs = [] := List.length_eq_zero_iff.1 (by simpa using h3)
    refine ev_tail ?_
    simp only [spec_StepFollower.l0]
    exact ev_neg (by simp; omega) (Ev.now _)
  | cons y t ih =>
    intro tp lp op cs d o h1 h2 h3 h4 hd ho hc
    cases cs with
    | nil => simp at h3
    | cons c cs =>
      have hcc := hc c (by simp)
      have hv := stepV_bound (p := p) (x := y) ⟨hd.1, by omega⟩ ho hcc
      have e := ih (tp ++ [y]) (lp ++ [d]) (op ++ [o]) cs c (stepV p y d o c) (by simp [h1]) (by simp [h2]) (by simpa using h3) (by simpa using h4) hcc hv (fun z hz => hc z (by simp [hz]))
      simp only [List.length_append, List.length_cons] at h4
      refine ev_tail ?_
      simp only [spec_StepFollower.l0, specMin_eq, Option.bind_some]
      have w1 : Aside0 (wrap64 (((tp.length + 1 : Nat) : Int) - 1) = (tp.length : Int)) := ⟨by rw [wrap_pred (by omega) (by omega)]; simp⟩
      have w2 : Aside0 (wrap64 (((tp.length + 1 : Nat) : Int) + 1) = ((tp.length + 1 + 1 : Nat) : Int)) := ⟨wrap_succ (by omega)⟩
      rw [w1.out, w2.out]
      have r1 := rd_mid tp y t
      have r2 := rd_at1 lp d c cs (i := ((tp.length + 1 : Nat) : Int)) (by omega)
      have r3 := rd_at op o (c :: cs) (i := (tp.length : Int)) (by omega)
      have r4 := rd_at lp d (c :: cs) (i := (tp.length : Int)) (by omega)
      have hset : ∀ v, (op ++ o :: c :: cs).set (((tp.length + 1 : Nat) : Int)).toNat v = op ++ o :: v :: cs := fun v => set_at1 op o c v cs (by omega)
      refine ev_pos (by simp; omega) (ev_pos (by omega) (ev_pos (by simp; omega) (ev_pos (by simp; omega) ?_)))
      rw [r1, r2, r3, r4]
      simp only [hset]
      have fin : ∀ g : Nat → Option (List Int × Int), (∀ k, g k = spec_StepFollower.l0 k (tp ++ y :: t) p ((tp.length + 1 + 1 : Nat) : Int) (lp ++ d :: c :: cs) x (op ++ o :: stepV p y d o c :: cs) h) → Ev g (op ++ o :: folRow p (y :: t) d o (c :: cs), h) := by
        intro g hg
        have e' : Ev g ((op ++ [o]) ++ stepV p y d o c :: folRow p t c (stepV p y d o c) cs, h) := by
          have hg' : g = fun k => spec_StepFollower.l0 k ((tp ++ [y]) ++ t) p (((tp ++ [y]).length + 1 : Nat) : Int) ((lp ++ [d]) ++ c :: cs) x ((op ++ [o]) ++ stepV p y d o c :: cs) h := by
            funext k; rw [hg k]; simp
          rw [hg']; exact e
        refine ev_eq e' ?_
        simp [folRow]
      by_cases hy : y = p
      · refine ev_pos hy (ev_pos (by omega) (ev_pos (by simp; omega) (ev_pos (by simp; omega) ?_)))
        refine fin _ (fun k => ?_)
        have ev : min d (wrap64 (min c o + 1)) = stepV p y d o c := by
          rw [wrap_id (by omega) (by omega)]; unfold stepV unl1; rw [if_pos hy]; omega
        rw [ev]
      · refine ev_neg hy (ev_pos (by omega) (ev_pos (by simp; omega) (ev_pos (by simp; omega) ?_)))
        refine fin _ (fun k => ?_)
        have ev : min (wrap64 (d + 1)) (wrap64 (min c o + 1)) = stepV p y d o c := by
          rw [wrap_id (by omega) (by omega), wrap_id (by omega) (by omega)]; unfold stepV unl1; rw [if_neg hy]; omega
        rw [ev]
theorem stepRow_length {t l : List Int} {x p : Int} (h : l.length = t.length + 1) : (stepRow t l x p).1.length = l.length := by
  cases l with
  | nil => simp at h
  | cons c cs => simp only [stepRow, List.length_cons]; rw [folRow_length p t _ _ cs (by simpa using h)]
theorem stepM_length (t l : List Int) (x p : Int) : (stepM t l x p).1.length = l.length := by
  unfold stepM
  split
  · rename_i h; exact stepRow_length (folM_facts h.1).2.1
  · rfl
theorem specStep_j0 (t l : List Int) (x p : Int) (hf : folM t l x = true) (b : Bool) (hb : b = decide (x > 500)) : Ev (fun k => spec_StepFollower.j0 k t p b l x l x) (stepM t l x p) := by
  obtain ⟨h1, h2, h3, h4, h5⟩ := folM_facts hf
  refine ev_tail ?_
  simp only [spec_StepFollower.j0]
  by_cases h : x > 500
  · rw [stepM, if_neg (by omega)]
    exact ev_pos (by rw [hb]; simpa using h) (Ev.now _)
  · rw [stepM, if_pos ⟨hf, by omega⟩]
    refine ev_neg (by rw [hb]; simpa using h) ?_
    cases l with
    | nil => simp at h2
    | cons c cs =>
      have hc := h5 c (by simp)
      refine ev_pos (by simp only [List.length_cons]; omega) (ev_pos (by simp only [List.length_cons]; omega) ?_)
      have w1 : wrap64 (rd (c :: cs) 0 + 1) = c + 1 := by
        have : rd (c :: cs) 0 = c := rd_mid [] c cs
        rw [this, wrap_id (by omega) (by omega)]
      have w2 : wrap64 (x + 1) = x + 1 := wrap_id (by omega) (by omega)
      rw [w1, w2]
      exact specStep_l0 p x (x + 1) t [] [] [] cs c (c + 1) rfl rfl (by simpa using h2) (by simpa using h1) hc (by omega) (fun z hz => h5 z (by simp [hz]))
theorem implStep_j0 (t l : List Int) (x p : Int) (hf : folM t l x = true) (b : Bool) (hb : b = decide (x > 500)) : Ev (fun k => impl_StepFollower.j0 k t p b l x l x) (stepM t l x p) := by
  obtain ⟨h1, h2, h3, h4, h5⟩ := folM_facts hf
  refine ev_tail ?_
  simp only [impl_StepFollower.j0]
  by_cases h : x > 500
  · rw [stepM, if_neg (by omega)]
    exact ev_pos (by rw [hb]; simpa using h) (Ev.now _)
  · rw [stepM, if_pos ⟨hf, by omega⟩]
    refine ev_neg (by rw [hb]; simpa using h) ?_
    cases l with
    | nil => simp at h2
    | cons c cs =>
      have hc := h5 c (by simp)
      refine ev_pos (by simp only [List.length_cons]; omega) ?_
      have w1 : wrap64 (rd (c :: cs) 0 + 1) = c + 1 := by
        have : rd (c :: cs) 0 = c := rd_mid [] c cs
        rw [this, wrap_id (by omega) (by omega)]
      have w2 : wrap64 (x + 1) = x + 1 := wrap_id (by omega) (by omega)
      rw [w1, w2]
      exact implStep_l0 p x (x + 1) t [] [] [] cs c (c + 1) rfl rfl (by simpa using h2) (by simpa using h1) hc (by omega) (fun z hz => h5 z (by simp [hz]))
theorem specStepFollower_ev (t l : List Int) (x p : Int) (ht : t.length ≤ 1048576) (hl : l.length ≤ 1048577) : Ev (fun k => spec_StepFollower.f k t l x p) (stepM t l x p) := by
  simp only [spec_StepFollower.f, l17Copy_eq l x (by omega), Option.bind_some]
  refine Ev.bind (specIsFollower_ev t l x ht hl) ?_
  refine ev_ite (fun h => specStep_j0 t l x p h _ rfl) (fun h => ?_)
  refine ev_tail ?_
  simp only [spec_StepFollower.j0, if_true]
  rw [stepM, if_neg (fun z => h z.1)]
  exact Ev.now _
theorem implStepFollower_ev (t l : List Int) (x p : Int) (ht : t.length ≤ 1048576) (hl : l.length ≤ 1048577) : Ev (fun k => impl_StepFollower.f k t l x p) (stepM t l x p) := by
  simp only [impl_StepFollower.f, clone_eq l (by omega), Option.bind_some]
  refine Ev.bind (implIsFollower_ev t l x ht hl) ?_
  refine ev_ite (fun h => implStep_j0 t l x p h _ rfl) (fun h => ?_)
  refine ev_tail ?_
  simp only [impl_StepFollower.j0, if_true]
  rw [stepM, if_neg (fun z => h z.1)]
  exact Ev.now _

def hearM (t l : List Int) (x : Int) (ps : List Int) : List Int × Int := ps.foldl (fun s p => stepM t s.1 s.2 p) (l, x)
theorem hearM_length (t : List Int) (ps : List Int) : ∀ (l : List Int) (x : Int), (hearM t l x ps).1.length = l.length := by
  induction ps with
  | nil => intro l x; rfl
  | cons p ps ih =>
    intro l x
    have e := ih (stepM t l x p).1 (stepM t l x p).2
    rw [stepM_length] at e
    exact e
theorem specHear_l0 (t : List Int) (ht : t.length ≤ 1048576) (suf : List Int) : ∀ (pre l : List Int) (x : Int), (pre ++ suf).length ≤ 1048576 → l.length ≤ 1048577 → Ev (fun k => spec_HearAll.l0 k t (pre ++ suf) (pre.length : Int) l x) (hearM t l x suf) := by
  induction suf with
  | nil =>
    intro pre l x h hl
    refine ev_tail ?_
    simp only [spec_HearAll.l0]
    exact ev_neg (by simp) (Ev.now _)
  | cons p ps ih =>
    intro pre l x h hl
    have hs := stepM_length t l x p
    have e := ih (pre ++ [p]) (stepM t l x p).1 (stepM t l x p).2 (by simpa using h) (by omega)
    simp only [List.length_append, List.length_cons] at h
    refine ev_tail ?_
    simp only [spec_HearAll.l0]
    refine ev_pos (by simp; omega) (ev_pos (by omega) ?_)
    rw [rd_mid]
    refine Ev.bind (specStepFollower_ev t l x p ht hl) ?_
    rw [wrap_succ (by omega), snoc_cons pre p ps, ← length_snoc pre p]
    exact e
theorem implHear_l0 (t : List Int) (ht : t.length ≤ 1048576) (suf : List Int) : ∀ (pre l : List Int) (x : Int), (pre ++ suf).length ≤ 1048576 → l.length ≤ 1048577 → Ev (fun k => impl_HearAll.l0 k t (pre ++ suf) ((pre ++ suf).length : Int) (pre.length : Int) l x) (hearM t l x suf) := by
  induction suf with
  | nil =>
    intro pre l x h hl
    refine ev_tail ?_
    simp only [impl_HearAll.l0]
    exact ev_neg (by simp) (Ev.now _)
  | cons p ps ih =>
    intro pre l x h hl
    have hs := stepM_length t l x p
    have e := ih (pre ++ [p]) (stepM t l x p).1 (stepM t l x p).2 (by simpa using h) (by omega)
    simp only [List.length_append, List.length_cons] at h
    refine ev_tail ?_
    simp only [impl_HearAll.l0]
    refine ev_pos (by simp; omega) (ev_pos (by omega) (ev_pos (by simp; omega) ?_))
    rw [rd_mid]
    refine Ev.bind (implStepFollower_ev t l x p ht hl) ?_
    rw [wrap_succ (by omega), snoc_cons pre p ps, ← length_snoc pre p]
    exact e
theorem specHearAll_ev (t l : List Int) (x : Int) (ps : List Int) (ht : t.length ≤ 1048576) (hl : l.length ≤ 1048577) (hp : ps.length ≤ 1048576) : Ev (fun k => spec_HearAll.f k t l x ps) (hearM t l x ps) := by
  simp only [spec_HearAll.f, l17Copy_eq l x (by omega), Option.bind_some]
  exact specHear_l0 t ht ps [] l x (by simpa using hp) hl
theorem implHearAll_ev (t l : List Int) (x : Int) (ps : List Int) (ht : t.length ≤ 1048576) (hl : l.length ≤ 1048577) (hp : ps.length ≤ 1048576) : Ev (fun k => impl_HearAll.f k t l x ps) (hearM t l x ps) := by
  simp only [impl_HearAll.f, clone_eq l (by omega), Option.bind_some]
  exact implHear_l0 t ht ps [] l x (by simpa using hp) hl

/-- The cost at a place, if only the places from a on to b are reckoned. -/
def nearN (t l : List Int) (p a b : Int) : Nat → Int
  | 0 => if a ≤ 0 ∧ 0 ≤ b then min (rd l 0 + 1) 500 else 500
  | i + 1 => if a ≤ (i : Int) + 1 ∧ (i : Int) + 1 ≤ b then min (min (min (rd l ((i : Int) + 1) + 1) (nearN t l p a b i + 1)) (rd l (i : Int) + unl1 (rd t (i : Int)) p)) 500 else 500
def nearRow (t l : List Int) (p a b : Int) : List Int := (List.range l.length).map (nearN t l p a b)
def nearM (t l : List Int) (x p w : Int) : List Int × Int := if okM t l x w = true then (nearRow t l p (posM l - w) (posM l + w), x + 1) else (l, x)
theorem nearM_length (t l : List Int) (x p w : Int) : (nearM t l x p w).1.length = l.length := by
  unfold nearM
  split
  · simp [nearRow]
  · rfl
theorem rd_set_same {out : List Int} {i : Nat} (h : i < out.length) (v : Int) : rd (out.set (i : Int).toNat v) (i : Int) = v := by
  simp [rd, List.getD, h]
theorem rd_set_other {out : List Int} {i j : Nat} (h : j ≠ i) (v : Int) : rd (out.set (i : Int).toNat v) (j : Int) = rd out (j : Int) := by
  simp [rd, List.getD, List.getElem?_set, show ¬ i = j by omega]
theorem rd_ge {l : List Int} (hl : ∀ c ∈ l, 0 ≤ c ∧ c ≤ 500) (i : Nat) : 0 ≤ rd l (i : Int) ∧ rd l (i : Int) ≤ 500 := by
  rw [rd_nat, List.getD_eq_getElem?_getD]
  by_cases h : i < l.length
  · rw [List.getElem?_eq_getElem h, Option.getD_some]; exact hl _ (List.getElem_mem h)
  · rw [List.getElem?_eq_none (by omega), Option.getD_none]; omega
theorem nearN_bound {t l : List Int} (hl : ∀ c ∈ l, 0 ≤ c ∧ c ≤ 500) (p a b : Int) (i : Nat) : 0 ≤ nearN t l p a b i ∧ nearN t l p a b i ≤ 500 := by
  induction i with
  | zero =>
    have := rd_ge hl 0
    simp only [Int.natCast_zero] at this
    simp only [nearN]
    split <;> omega
  | succ i ih =>
    have h1 := rd_ge hl (i + 1)
    have h2 := rd_ge hl i
    have h3 := unl1_le (rd t (i : Int)) p
    have e : (((i + 1 : Nat) : Int)) = (i : Int) + 1 := by omega
    rw [e] at h1
    simp only [nearN]
    split <;> omega
theorem row_eq {out : List Int} {f : Nat → Int} {n : Nat} (hn : out.length = n) (h : ∀ j, j < n → rd out (j : Int) = f j) : out = (List.range n).map f := by
  apply List.ext_getElem
  · simp [hn]
  · intro j h1 h2
    have := h j (by omega)
    rw [rd_nat, List.getD_eq_getElem?_getD, List.getElem?_eq_getElem h1, Option.getD_some] at this
    simpa using this
theorem nearSet {t l out : List Int} {p a b : Int} {i : Nat} (hi : i < out.length) (h : ∀ j, j < i → rd out (j : Int) = nearN t l p a b j) : ∀ j, j < i + 1 → rd (out.set (i : Int).toNat (nearN t l p a b i)) (j : Int) = nearN t l p a b j := by
  intro j hj
  by_cases e : j = i
  · subst e; exact rd_set_same hi _
  · rw [rd_set_other e]; exact h j (by omega)
theorem specNear_l0 (t l : List Int) (p w q x h : Int) (ht : l.length = t.length + 1) (ht4 : t.length ≤ 40) (hq : 0 ≤ q ∧ q ≤ 40) (hw : 1 ≤ w ∧ w ≤ 40) (hl : ∀ c ∈ l, 0 ≤ c ∧ c ≤ 500) (d : Nat) : ∀ (i : Nat) (out : List Int), i + d = l.length → out.length = l.length → (∀ j, j < i → rd out (j : Int) = nearN t l p (q - w) (q + w) j) →
    Ev (fun k => spec_StepNear.l0 k t p w q (i : Int) l x out h) (nearRow t l p (q - w) (q + w), h) := by
  induction d with
  | zero =>
    intro i out hi ho hj
    refine ev_tail ?_
    simp only [spec_StepNear.l0]
    refine ev_neg (by omega) (ev_eq (Ev.now _) ?_)
    rw [nearRow, row_eq ho (fun j hj2 => hj j (by omega))]
  | succ d ih =>
    intro i out hi ho hj
    have e := ih (i + 1) (out.set (i : Int).toNat (nearN t l p (q - w) (q + w) i)) (by omega) (by simpa using ho) (nearSet (by omega) hj)
    have w1 : Aside0 (wrap64 ((i : Int) + 1) = ((i + 1 : Nat) : Int)) := ⟨wrap_succ (by omega)⟩
    have w2 : Aside0 (wrap64 ((i : Int) - 1) = (i : Int) - 1) := ⟨wrap_id (by omega) (by omega)⟩
    have w3 : Aside0 (wrap64 (q - w) = q - w) := ⟨wrap_id (by omega) (by omega)⟩
    have w4 : Aside0 (wrap64 (q + w) = q + w) := ⟨wrap_id (by omega) (by omega)⟩
    have b1 := rd_ge hl i
    refine ev_tail ?_
    simp only [spec_StepNear.l0, l1In_eq, specMin_eq, Option.bind_some, w1.out, w2.out, w3.out, w4.out]
    refine ev_pos (by omega) (ev_ite (fun hin => ?_) (fun hin => ?_))
    · simp only [decide_eq_true_eq] at hin
      refine ev_pos (by omega) (ev_ite (fun h0 => ?_) (fun h0 => ?_))
      · obtain ⟨m, rfl⟩ : ∃ m, i = m + 1 := ⟨i - 1, by omega⟩
        have em : ((m + 1 : Nat) : Int) - 1 = (m : Int) := by omega
        have b2 := rd_ge hl m
        have b3 := nearN_bound hl p (q - w) (q + w) m (t := t)
        have hm := hj m (by omega)
        have hin2 : q - w ≤ (m : Int) + 1 ∧ (m : Int) + 1 ≤ q + w := by omega
        have hv : nearN t l p (q - w) (q + w) (m + 1) = min (min (min (rd l ((m : Int) + 1) + 1) (nearN t l p (q - w) (q + w) m + 1)) (rd l (m : Int) + unl1 (rd t (m : Int)) p)) 500 := by
          simp only [nearN]; rw [if_pos hin2]
        have ec : (((m + 1 : Nat) : Int)) = (m : Int) + 1 := by omega
        rw [hv] at e
        rw [em, hm]
        refine ev_pos (by omega) (ev_pos (by omega) (ev_pos (by omega) (ev_ite (fun hp => ?_) (fun hp => ?_))))
        · refine ev_pos (by omega) (ev_pos (by omega) ?_)
          have ev : min (min (rd l (m : Int)) (min (wrap64 (rd l ((m + 1 : Nat) : Int) + 1)) (wrap64 (nearN t l p (q - w) (q + w) m + 1)))) 500 = min (min (min (rd l ((m : Int) + 1) + 1) (nearN t l p (q - w) (q + w) m + 1)) (rd l (m : Int) + unl1 (rd t (m : Int)) p)) 500 := by
            rw [wrap_id (by omega) (by omega), wrap_id (by omega) (by omega), ec]; unfold unl1; rw [if_pos hp]; omega
          rw [ev]; exact e
        · refine ev_pos (by omega) (ev_pos (by omega) ?_)
          have ev : min (min (wrap64 (rd l (m : Int) + 1)) (min (wrap64 (rd l ((m + 1 : Nat) : Int) + 1)) (wrap64 (nearN t l p (q - w) (q + w) m + 1)))) 500 = min (min (min (rd l ((m : Int) + 1) + 1) (nearN t l p (q - w) (q + w) m + 1)) (rd l (m : Int) + unl1 (rd t (m : Int)) p)) 500 := by
            rw [wrap_id (by omega) (by omega), wrap_id (by omega) (by omega), wrap_id (by omega) (by omega), ec]; unfold unl1; rw [if_neg hp]; omega
          rw [ev]; exact e
      · obtain rfl : i = 0 := by omega
        refine ev_pos (by omega) ?_
        have hv : nearN t l p (q - w) (q + w) 0 = min (rd l 0 + 1) 500 := by
          simp only [nearN]; rw [if_pos (by omega)]
        rw [hv] at e
        have e0 : ((0 : Nat) : Int) = 0 := rfl
        rw [e0] at b1
        rw [show wrap64 (rd l ((0 : Nat) : Int) + 1) = rd l 0 + 1 by rw [e0, wrap_id (by omega) (by omega)]]
        exact e
    · refine ev_pos (by omega) (ev_pos (by omega) ?_)
      simp only [decide_eq_true_eq] at hin
      have hv : nearN t l p (q - w) (q + w) i = 500 := by
        cases i with
        | zero => simp only [nearN]; rw [if_neg (by omega)]
        | succ m => simp only [nearN]; rw [if_neg (by omega)]
      rw [hv] at e
      exact e
theorem nearN_out {t l : List Int} {p a b : Int} {i : Nat} (h : ¬ (a ≤ (i : Int) ∧ (i : Int) ≤ b)) : nearN t l p a b i = 500 := by
  cases i with
  | zero => simp only [nearN]; rw [if_neg (by omega)]
  | succ m => simp only [nearN]; rw [if_neg (by omega)]
theorem implNear_l0 (t l : List Int) (p w q x h u : Int) (ht : l.length = t.length + 1) (ht4 : t.length ≤ 40) (hq : 0 ≤ q ∧ q ≤ 40) (hw : 1 ≤ w ∧ w ≤ 40) (hl : ∀ c ∈ l, 0 ≤ c ∧ c ≤ 500) (hto : u = min (q + w) (t.length : Int)) (d : Nat) : ∀ (i : Nat) (out : List Int), (i : Int) + d = u + 1 → q - w ≤ (i : Int) → out.length = l.length → (∀ j, j < i → rd out (j : Int) = nearN t l p (q - w) (q + w) j) → (∀ j, i ≤ j → j < l.length → rd out (j : Int) = 500) →
    Ev (fun k => impl_StepNear.l0 k t p u (i : Int) l x out h) (nearRow t l p (q - w) (q + w), h) := by
  induction d with
  | zero =>
    intro i out hi hi2 ho hj hk
    refine ev_tail ?_
    simp only [impl_StepNear.l0]
    refine ev_neg (by omega) (ev_eq (Ev.now _) ?_)
    rw [nearRow, row_eq ho (fun j hj2 => ?_)]
    by_cases hji : j < i
    · exact hj j hji
    · rw [hk j (by omega) hj2, nearN_out (by omega)]
  | succ d ih =>
    intro i out hi hi2 ho hj hk
    have e := ih (i + 1) (out.set (i : Int).toNat (nearN t l p (q - w) (q + w) i)) (by omega) (by omega) (by simpa using ho) (nearSet (by omega) hj) (fun j h1 h2 => by rw [rd_set_other (by omega)]; exact hk j (by omega) h2)
    have w1 : Aside0 (wrap64 ((i : Int) + 1) = ((i + 1 : Nat) : Int)) := ⟨wrap_succ (by omega)⟩
    have w2 : Aside0 (wrap64 ((i : Int) - 1) = (i : Int) - 1) := ⟨wrap_id (by omega) (by omega)⟩
    have b1 := rd_ge hl i
    refine ev_tail ?_
    simp only [impl_StepNear.l0, unlike_eq, Option.bind_some, w1.out, w2.out, mn_eq]
    refine ev_pos (by omega) (ev_pos (by omega) (ev_pos (by omega) (ev_ite (fun h0 => ?_) (fun h0 => ?_))))
    · obtain ⟨m, rfl⟩ : ∃ m, i = m + 1 := ⟨i - 1, by omega⟩
      have em : ((m + 1 : Nat) : Int) - 1 = (m : Int) := by omega
      have b2 := rd_ge hl m
      have b3 := nearN_bound hl p (q - w) (q + w) m (t := t)
      have hm := hj m (by omega)
      have hv : nearN t l p (q - w) (q + w) (m + 1) = min (min (min (rd l ((m : Int) + 1) + 1) (nearN t l p (q - w) (q + w) m + 1)) (rd l (m : Int) + unl1 (rd t (m : Int)) p)) 500 := by
        simp only [nearN]; rw [if_pos (by omega)]
      have ec : (((m + 1 : Nat) : Int)) = (m : Int) + 1 := by omega
      have un := unl1_le (rd t (m : Int)) p
      rw [hv] at e
      rw [em, hm]
      refine ev_pos (by omega) (ev_pos (by omega) (ev_pos (by omega) (ev_pos (by omega) (ev_pos (by omega) ?_))))
      rw [wrap_id (n := rd l ((m + 1 : Nat) : Int) + 1) (by omega) (by omega), wrap_id (n := nearN t l p (q - w) (q + w) m + 1) (by omega) (by omega), wrap_id (n := rd l (m : Int) + unl1 (rd t (m : Int)) p) (by omega) (by omega)]
      rw [show rd l ((m + 1 : Nat) : Int) = rd l ((m : Int) + 1) by rw [ec]]
      exact e
    · obtain rfl : i = 0 := by omega
      have hv : nearN t l p (q - w) (q + w) 0 = min (rd l 0 + 1) 500 := by
        simp only [nearN]; rw [if_pos (by omega)]
      rw [hv] at e
      have e0 : ((0 : Nat) : Int) = 0 := rfl
      rw [e0] at b1
      refine ev_pos (by omega) ?_
      rw [show wrap64 (rd l ((0 : Nat) : Int) + 1) = rd l 0 + 1 by rw [e0, wrap_id (by omega) (by omega)]]
      exact e
theorem specStepNear_ev (t l : List Int) (x p w : Int) (ht : t.length ≤ 1048576) (hl : l.length ≤ 1048577) : Ev (fun k => spec_StepNear.f k t l x p w) (nearM t l x p w) := by
  simp only [spec_StepNear.f, l17Copy_eq l x (by omega), Option.bind_some]
  refine Ev.bind (specOk_ev t l x w ht hl) (ev_ite (fun hok => ?_) (fun hok => ?_))
  · obtain ⟨h1, h2, h3, h4, h5⟩ := okM_facts hok
    have hb := posM_bound (l := l) (by omega) (by intro h; subst h; simp at h2)
    rw [nearM, if_pos hok]
    refine Ev.bind (specPositionOf_ev l x (by omega)) ?_
    rw [wrap_id (n := x + 1) (by omega) (by omega)]
    exact specNear_l0 t l p w (posM l) x (x + 1) h2 h1 (by omega) h4 h5 l.length 0 l (by omega) rfl (fun j hj => absurd hj (by omega))
  · rw [nearM, if_neg hok]
    exact Ev.now _
theorem implStepNear_ev (t l : List Int) (x p w : Int) (ht : t.length ≤ 1048576) (hl : l.length ≤ 1048577) : Ev (fun k => impl_StepNear.f k t l x p w) (nearM t l x p w) := by
  simp only [impl_StepNear.f]
  refine Ev.bind (implWindow_ev t l x w ht hl) ?_
  by_cases hok : okM t l x w = true
  · obtain ⟨h1, h2, h3, h4, h5⟩ := okM_facts hok
    have hb := posM_bound (l := l) (by omega) (by intro h; subst h; simp at h2)
    rw [winM, if_pos hok, nearM, if_pos hok]
    refine ev_pos (by trivial) ?_
    have hrep : slices_Repeat_int_int.f [500] (l.length : Int) = some (List.replicate l.length 500) := by
      unfold slices_Repeat_int_int.f
      rw [if_pos ⟨rfl, by omega, by omega⟩, Int.toNat_natCast]
      rfl
    refine ev_val hrep ?_
    rw [wrap_id (n := x + 1) (by omega) (by omega)]
    obtain ⟨f, hf⟩ := Int.eq_ofNat_of_zero_le (show 0 ≤ max (posM l - w) 0 by omega)
    obtain ⟨d, hd⟩ := Int.eq_ofNat_of_zero_le (show 0 ≤ min (posM l + w) (t.length : Int) + 1 - (f : Int) by omega)
    have hr : ∀ j : Nat, j < l.length → rd (List.replicate l.length (500 : Int)) (j : Int) = 500 := fun j hj => by
      simp [rd, List.getD, List.getElem?_replicate, hj]
    have main := implNear_l0 t l p w (posM l) x (x + 1) (min (posM l + w) (t.length : Int)) h2 h1 (by omega) h4 h5 rfl d f (List.replicate l.length 500) (by omega) (by omega) (by simp) (fun j hj => by rw [hr j (by omega), nearN_out (by omega)]) (fun j _ hj => hr j hj)
    rw [← hf] at main
    exact main
  · rw [winM, if_neg hok, nearM, if_neg hok]
    refine ev_neg (by simp) ?_
    exact ev_val (clone_eq l (by omega)) (Ev.now _)

def nearAllM (t l : List Int) (x : Int) (ps : List Int) (w : Int) : List Int × Int := ps.foldl (fun s p => nearM t s.1 s.2 p w) (l, x)
theorem nearAllM_length (t : List Int) (w : Int) (ps : List Int) : ∀ (l : List Int) (x : Int), (nearAllM t l x ps w).1.length = l.length := by
  induction ps with
  | nil => intro l x; rfl
  | cons p ps ih =>
    intro l x
    have e := ih (nearM t l x p w).1 (nearM t l x p w).2
    rw [nearM_length] at e
    exact e
theorem specNearAll_l0 (t : List Int) (w : Int) (ht : t.length ≤ 1048576) (suf : List Int) : ∀ (pre l : List Int) (x : Int), (pre ++ suf).length ≤ 1048576 → l.length ≤ 1048577 → Ev (fun k => spec_HearNear.l0 k t (pre ++ suf) w (pre.length : Int) l x) (nearAllM t l x suf w) := by
  induction suf with
  | nil =>
    intro pre l x h hl
    refine ev_tail ?_
    simp only [spec_HearNear.l0]
    exact ev_neg (by simp) (Ev.now _)
  | cons p ps ih =>
    intro pre l x h hl
    have hs := nearM_length t l x p w
    have e := ih (pre ++ [p]) (nearM t l x p w).1 (nearM t l x p w).2 (by simpa using h) (by omega)
    simp only [List.length_append, List.length_cons] at h
    refine ev_tail ?_
    simp only [spec_HearNear.l0]
    refine ev_pos (by simp; omega) (ev_pos (by omega) ?_)
    rw [rd_mid]
    refine Ev.bind (specStepNear_ev t l x p w ht hl) ?_
    rw [wrap_succ (by omega), snoc_cons pre p ps, ← length_snoc pre p]
    exact e
theorem implNearAll_l0 (t : List Int) (w : Int) (ht : t.length ≤ 1048576) (suf : List Int) : ∀ (pre l : List Int) (x : Int), (pre ++ suf).length ≤ 1048576 → l.length ≤ 1048577 → Ev (fun k => impl_HearNear.l0 k t w (pre ++ suf) ((pre ++ suf).length : Int) (pre.length : Int) l x) (nearAllM t l x suf w) := by
  induction suf with
  | nil =>
    intro pre l x h hl
    refine ev_tail ?_
    simp only [impl_HearNear.l0]
    exact ev_neg (by simp) (Ev.now _)
  | cons p ps ih =>
    intro pre l x h hl
    have hs := nearM_length t l x p w
    have e := ih (pre ++ [p]) (nearM t l x p w).1 (nearM t l x p w).2 (by simpa using h) (by omega)
    simp only [List.length_append, List.length_cons] at h
    refine ev_tail ?_
    simp only [impl_HearNear.l0]
    refine ev_pos (by simp; omega) (ev_pos (by omega) (ev_pos (by simp; omega) ?_))
    rw [rd_mid]
    refine Ev.bind (implStepNear_ev t l x p w ht hl) ?_
    rw [wrap_succ (by omega), snoc_cons pre p ps, ← length_snoc pre p]
    exact e
theorem specHearNear_ev (t l : List Int) (x : Int) (ps : List Int) (w : Int) (ht : t.length ≤ 1048576) (hl : l.length ≤ 1048577) (hp : ps.length ≤ 1048576) : Ev (fun k => spec_HearNear.f k t l x ps w) (nearAllM t l x ps w) := by
  simp only [spec_HearNear.f, l17Copy_eq l x (by omega), Option.bind_some]
  exact specNearAll_l0 t w ht ps [] l x (by simpa using hp) hl
theorem implHearNear_ev (t l : List Int) (x : Int) (ps : List Int) (w : Int) (ht : t.length ≤ 1048576) (hl : l.length ≤ 1048577) (hp : ps.length ≤ 1048576) : Ev (fun k => impl_HearNear.f k t l x ps w) (nearAllM t l x ps w) := by
  simp only [impl_HearNear.f, clone_eq l (by omega), Option.bind_some]
  exact implNearAll_l0 t w ht ps [] l x (by simpa using hp) hl

def sameM (t ps : List Int) (w : Int) : Bool := posM (nearAllM t (startM t).1 (startM t).2.1 ps w).1 == posM (hearM t (startM t).1 (startM t).2.1 ps).1
theorem specSamePlace_ev (t ps : List Int) (w : Int) (ht : t.length ≤ 1048576) (hp : ps.length ≤ 1048576) : Ev (fun k => spec_SamePlace.f k t ps w) (sameM t ps w) := by
  simp only [spec_SamePlace.f]
  have hs := startM_length t
  have h1 := nearAllM_length t w ps (startM t).1 (startM t).2.1
  have h2 := hearM_length t ps (startM t).1 (startM t).2.1
  refine Ev.bind (specStartFollower_ev t) (Ev.bind (specHearNear_ev t _ _ ps w ht (by omega) hp) (Ev.bind (specPositionOf_ev _ _ (by omega)) (Ev.bind (specHearAll_ev t _ _ ps ht (by omega) hp) (Ev.bind (specPositionOf_ev _ _ (by omega)) (Ev.now _)))))
theorem implSamePlace_ev (t ps : List Int) (w : Int) (ht : t.length ≤ 1048576) (hp : ps.length ≤ 1048576) : Ev (fun k => impl_SamePlace.f k t ps w) (sameM t ps w) := by
  simp only [impl_SamePlace.f]
  have hs := startM_length t
  have h1 := nearAllM_length t w ps (startM t).1 (startM t).2.1
  have h2 := hearM_length t ps (startM t).1 (startM t).2.1
  refine Ev.bind (implStartFollower_ev t) (Ev.bind (implHearNear_ev t _ _ ps w ht (by omega) hp) (Ev.bind (implPositionOf_ev _ _ (by omega)) (Ev.bind (implHearAll_ev t _ _ ps ht (by omega) hp) (Ev.bind (implPositionOf_ev _ _ (by omega)) (Ev.now _)))))
theorem FnExactSamePlace : ∀ (l0 : List (Int)) (l1 : List (Int)) (a2 : Int), (l0.length ≤ maxLen) → (∀ x ∈ l0, (Lit.int .i64 x).wf = true) → (l1.length ≤ maxLen) → (∀ x ∈ l1, (Lit.int .i64 x).wf = true) → (Lit.int .i64 a2).wf = true → ∃ k, laws_FnExactSamePlace.f k l0 l1 a2 = some true := by
  intro t p w _ _ _ _ _
  refine Ev.rounds ?_
  simp only [laws_FnExactSamePlace.f]
  refine ev_ite (fun _ => Ev.now _) (fun h => ev_ite (fun _ => Ev.now _) (fun h' => ?_))
  have ht : t.length ≤ 1048576 := by omega
  have hp : p.length ≤ 1048576 := by omega
  have t1 := toIntS_ev t (by omega)
  have t2 := toIntS_ev p (by omega)
  refine Ev.bind t1 (Ev.bind t2 (Ev.bind (specSamePlace_ev t p w ht hp) (Ev.bind t1 (Ev.bind t2 (Ev.bind (implSamePlace_ev t p w ht hp) (ev_neg (by simp) ?_))))))
  exact Ev.bind t1 (Ev.bind (eqIntS_ev t (by omega)) (ev_pos (by trivial) (Ev.bind t2 (Ev.bind (eqIntS_ev p (by omega)) (ev_pos (by trivial) (Ev.now _))))))
end Go.Proofs.Ytlkcbmcbmanmiaa.Pure
