/-
HearNear of the program and of the reference: the same answer.
Conditions: none.
-/
import Derived.Test.YtlkcbmcbmanmiaaPFnExactHearNearx8
import Derived.Test.YtlkcbmcbmanmiaaBase
namespace Go.Proofs.Ytlkcbmcbmanmiaa.Pure
open Go.RowKit Go.Proofs.Ytlkcbmcbmanmiaa.PFnExactHearNear Go.Proofs.YtlkcbmcbmanmiaaW.PrintWords Go.Proofs.YtlkcbmcbmanmiaaW.PrintLast Go.Proofs.YtlkcbmcbmanmiaaW.PrintMore Go.Proofs.Ytlkcbmcbmanmiaa.Base
set_option linter.unusedVariables false
set_option linter.unusedSimpArgs false

theorem l1In_eq (a b c : Int) : spec_l1In.f a b c = some (decide (b ≤ a ∧ a ≤ c)) := by
  unfold spec_l1In.f
  by_cases h1 : b ≤ a <;> by_cases h2 : a ≤ c <;> simp [h1, h2]
theorem InRange_eq (a b c : Int) : impl_InRange.f a b c = some (decide (b ≤ a ∧ a ≤ c)) := by
  unfold impl_InRange.f
  by_cases h1 : b ≤ a <;> by_cases h2 : a ≤ c <;> simp [h1, h2]

theorem toIntS_l0 (suf : List Int) : ∀ pre : List Int, (pre ++ suf).length ≤ 35184372088832 → Ev (fun k => laws_toIntS.l0 k (pre ++ suf) (pre ++ List.replicate suf.length 0) (pre.length : Int)) (pre ++ suf) := by
  induction suf with
  | nil =>
    intro pre h
    refine ev_tail ?_
    simp only [laws_toIntS.l0]
    refine ev_neg (by simp) ?_
    simpa using Ev.now pre
  | cons x t ih =>
    intro pre h
    have e := ih (pre ++ [x]) (by simpa using h)
    simp only [List.length_append, List.length_cons] at h
    refine ev_tail ?_
    simp only [laws_toIntS.l0]
    refine ev_pos (by simp; omega) (ev_pos (by omega) (ev_pos (by simp; omega) ?_))
    rw [rd_mid, List.length_cons, List.replicate_succ, set_mid, wrap_succ (by omega), snoc_cons pre x t, snoc_cons pre x (List.replicate t.length 0), ← length_snoc pre x]
    exact e
theorem toIntS_ev (l : List Int) (h : l.length ≤ 35184372088832) : Ev (fun k => laws_toIntS.f k l) l := by
  simp only [laws_toIntS.f]
  refine ev_pos (by omega) (ev_pos (by omega) ?_)
  exact toIntS_l0 l [] (by simpa using h)

theorem eqIntS_l0 (suf : List Int) : ∀ pre : List Int, (pre ++ suf).length ≤ 35184372088832 → Ev (fun k => laws_eqIntS.l0 k (pre ++ suf) (pre ++ suf) (pre.length : Int)) true := by
  induction suf with
  | nil =>
    intro pre h
    refine ev_tail ?_
    simp only [laws_eqIntS.l0]
    exact ev_neg (by simp) (Ev.now true)
  | cons x t ih =>
    intro pre h
    have e := ih (pre ++ [x]) (by simpa using h)
    simp only [List.length_append, List.length_cons] at h
    refine ev_tail ?_
    simp only [laws_eqIntS.l0]
    refine ev_pos (by simp; omega) (ev_pos (by omega) (ev_pos (by simp; omega) (ev_pos (by trivial) ?_)))
    rw [wrap_succ (by omega), snoc_cons pre x t, ← length_snoc pre x]
    exact e
theorem eqIntS_ev (l : List Int) (h : l.length ≤ 35184372088832) : Ev (fun k => laws_eqIntS.f k l l) true := by
  simp only [laws_eqIntS.f]
  refine ev_pos (by trivial) ?_
  exact eqIntS_l0 l [] (by simpa using h)

theorem szIntS_some (l : List Int) (b : Int) (hb0 : 0 ≤ b) (hb : b ≤ 1048576) (h : l.length ≤ maxLen) : ∃ r, laws_szIntS.f l b = some r ∧ r ≤ b ∧ (¬ r < 0 → 0 ≤ r ∧ (l.length : Int) ≤ b) := by
  have hm : maxLen = 9223372036854775807 := rfl
  unfold laws_szIntS.f
  rw [wrap_id (by omega) (by omega)]
  by_cases h0 : b - (l.length : Int) < 0
  · exact ⟨-1, by rw [if_pos h0], by omega, fun h => absurd (by omega) h⟩
  · exact ⟨_, by rw [if_neg h0], by omega, fun _ => by omega⟩

theorem szFollower_some (l : List Int) (x b : Int) (hb0 : 0 ≤ b) (hb : b ≤ 1048576) (h : l.length ≤ maxLen) : ∃ r, laws_szFollower.f l x b = some r ∧ r ≤ b ∧ (¬ r < 0 → 0 ≤ r ∧ (l.length : Int) ≤ b) := by
  obtain ⟨r, hr, h1, h2⟩ := szIntS_some l b hb0 hb h
  unfold laws_szFollower.f
  rw [hr]
  simp only [Option.bind_some]
  by_cases h0 : r < 0
  · exact ⟨-1, by rw [if_pos h0], by omega, fun h => absurd (by omega) h⟩
  · exact ⟨r, by rw [if_neg h0], h1, h2⟩

theorem toFollower_ev (l : List Int) (x : Int) (h : l.length ≤ 35184372088832) : Ev (fun k => laws_toFollower.f k l x) (l, x) := by
  simp only [laws_toFollower.f]
  exact Ev.bind (toIntS_ev l h) (Ev.now _)

theorem eqFollower_ev (l : List Int) (x : Int) (h : l.length ≤ 35184372088832) : Ev (fun k => laws_eqFollower.f k l x l x) true := by
  simp only [laws_eqFollower.f]
  exact Ev.bind (eqIntS_ev l h) (ev_pos (by trivial) (ev_pos (by trivial) (Ev.now _)))

theorem markIntS_l0 (suf : List Int) : ∀ (pre : List Int) (m : Int), (pre ++ suf).length ≤ 35184372088832 → 0 ≤ m → m + suf.length ≤ 9223372036854775807 → Ev (fun k => laws_markIntS.l0 k (pre ++ suf) m (pre.length : Int)) (m + suf.length, pre ++ marks suf.length m) := by
  induction suf with
  | nil =>
    intro pre m h h0 h1
    refine ev_tail ?_
    simp only [laws_markIntS.l0]
    refine ev_neg (by simp) ?_
    simpa [marks] using Ev.now _
  | cons y t ih =>
    intro pre m h h0 h1
    simp only [List.length_cons] at h1
    have e := ih (pre ++ [m]) (m + 1) (by simpa using h) (by omega) (by omega)
    simp only [List.length_append, List.length_cons] at h
    refine ev_tail ?_
    simp only [laws_markIntS.l0]
    refine ev_pos (by simp; omega) (ev_pos (by omega) ?_)
    rw [set_mid, wrap_succ (by omega), wrap_id (n := m + 1) (by omega) (by omega), snoc_cons pre m t, ← length_snoc pre m]
    refine ev_eq e ?_
    simp only [marks, List.length_cons, List.append_assoc, List.singleton_append]
    congr 1
    omega
theorem markIntS_ev (l : List Int) (m : Int) (h : l.length ≤ 35184372088832) (h0 : 0 ≤ m) (h1 : m + l.length ≤ 9223372036854775807) : Ev (fun k => laws_markIntS.f k l m) (m + l.length, marks l.length m) := by
  simp only [laws_markIntS.f]
  exact markIntS_l0 l [] m (by simpa using h) h0 h1

theorem heldIntS_l0 (n : Nat) : ∀ (pre : List Int) (m : Int), pre.length + n ≤ 35184372088832 → 0 ≤ m → m + n ≤ 9223372036854775807 → Ev (fun k => laws_heldIntS.l0 k (pre ++ marks n m) m (pre.length : Int)) (m + n) := by
  induction n with
  | zero =>
    intro pre m h h0 h1
    refine ev_tail ?_
    simp only [laws_heldIntS.l0]
    refine ev_neg (by simp [marks]) ?_
    simpa using Ev.now m
  | succ n ih =>
    intro pre m h h0 h1
    have e := ih (pre ++ [m]) (m + 1) (by simp; omega) (by omega) (by omega)
    refine ev_tail ?_
    simp only [laws_heldIntS.l0, marks]
    refine ev_pos (by simp [marks_length]; omega) (ev_pos (by omega) (ev_pos (rd_mid pre m _) ?_))
    rw [wrap_succ (by omega), wrap_id (n := m + 1) (by omega) (by omega), snoc_cons pre m (marks n (m + 1)), ← length_snoc pre m]
    exact ev_eq e (by omega)
theorem heldIntS_ev (n : Nat) (m : Int) (h : n ≤ 35184372088832) (h0 : 0 ≤ m) (h1 : m + n ≤ 9223372036854775807) : Ev (fun k => laws_heldIntS.f k (marks n m) m) (m + n) := by
  simp only [laws_heldIntS.f]
  exact heldIntS_l0 n [] m (by simpa using h) h0 h1

theorem markFollower_ev (l : List Int) (x m : Int) (h : l.length ≤ 35184372088832) (h0 : 0 ≤ m) (h1 : m + l.length ≤ 9223372036854775807) : Ev (fun k => laws_markFollower.f k l x m) (m + l.length, marks l.length m) := by
  simp only [laws_markFollower.f]
  exact Ev.bind (markIntS_ev l m h h0 h1) (Ev.now _)
theorem heldFollower_ev (n : Nat) (x m : Int) (h : n ≤ 35184372088832) (h0 : 0 ≤ m) (h1 : m + n ≤ 9223372036854775807) : Ev (fun k => laws_heldFollower.f k (marks n m) x m) (m + n) := by
  simp only [laws_heldFollower.f]
  exact Ev.bind (heldIntS_ev n m h h0 h1) (ev_neg (by omega) (Ev.now _))

/-- Where x stands first in a list, counted from i; -1: nowhere. -/
def idxI : List Int → Int → Int → Int
  | [], _, _ => -1
  | y :: t, x, i => if x = y then i else idxI t x (i + 1)
theorem idxI_bd (l : List Int) (x : Int) : ∀ i, 0 ≤ i → -1 ≤ idxI l x i ∧ idxI l x i < i + l.length + 1 := by
  induction l with
  | nil => intro i h; simp [idxI]; omega
  | cons y t ih =>
    intro i h
    simp only [idxI]
    split
    · simp; omega
    · have := ih (i + 1) (by omega)
      simp only [List.length_cons]
      omega
theorem Index_l0 (x : Int) (suf : List Int) : ∀ pre : List Int, (pre ++ suf).length ≤ 35184372088832 → Ev (fun k => slices_Index_int_int.l0 k (pre ++ suf) x ((pre ++ suf).length : Int) (pre.length : Int)) (idxI suf x (pre.length : Int)) := by
  induction suf with
  | nil =>
    intro pre h
    refine ev_tail ?_
    simp only [slices_Index_int_int.l0]
    exact ev_neg (by simp) (Ev.now _)
  | cons y t ih =>
    intro pre h
    have e := ih (pre ++ [y]) (by simpa using h)
    simp only [List.length_append, List.length_cons] at h
    refine ev_tail ?_
    simp only [slices_Index_int_int.l0, idxI]
    refine ev_pos (by simp; omega) (ev_pos (by omega) (ev_pos (by simp; omega) ?_))
    rw [rd_mid]
    by_cases hy : x = y
    · rw [if_pos hy]
      exact ev_pos hy (Ev.now _)
    · rw [if_neg hy]
      refine ev_neg hy ?_
      rw [wrap_succ (by omega), snoc_cons pre y t, ← length_snoc pre y]
      simpa using e
theorem Index_ev (l : List Int) (x : Int) (h : l.length ≤ 35184372088832) : Ev (fun k => slices_Index_int_int.f k l x) (idxI l x 0) := by
  simp only [slices_Index_int_int.f]
  exact Index_l0 x l [] (by simpa using h)

/-- The least of a number and a list's numbers. -/
def minGo : List Int → Int → Int
  | [], m => m
  | y :: t, m => minGo t (mn m y)
theorem Min_l0 (suf : List Int) : ∀ (pre : List Int) (m : Int), (pre ++ suf).length ≤ 35184372088832 → Ev (fun k => slices_Min_int_int.l0 k (pre ++ suf) m (pre.length : Int)) (minGo suf m) := by
  induction suf with
  | nil =>
    intro pre m h
    refine ev_tail ?_
    simp only [slices_Min_int_int.l0]
    exact ev_neg (by simp) (Ev.now _)
  | cons y t ih =>
    intro pre m h
    have e := ih (pre ++ [y]) (mn m y) (by simpa using h)
    simp only [List.length_append, List.length_cons] at h
    refine ev_tail ?_
    simp only [slices_Min_int_int.l0, minGo]
    refine ev_pos (by simp; omega) (ev_pos (by omega) ?_)
    rw [rd_mid, wrap_succ (by omega), snoc_cons pre y t, ← length_snoc pre y]
    exact e
theorem Min_ev (y : Int) (t : List Int) (h : (y :: t).length ≤ 35184372088832) : Ev (fun k => slices_Min_int_int.f k (y :: t)) (minGo t y) := by
  simp only [slices_Min_int_int.f]
  refine ev_neg (by simp; omega) (ev_pos (by simp) ?_)
  exact Min_l0 t [y] y h
theorem minGo_le (l : List Int) : ∀ m, minGo l m ≤ m ∧ ∀ y ∈ l, minGo l m ≤ y := by
  induction l with
  | nil => intro m; simp [minGo]
  | cons y t ih =>
    intro m
    obtain ⟨h1, h2⟩ := ih (mn m y)
    rw [mn_eq] at h1
    simp only [minGo, mn_eq] at *
    refine ⟨by omega, fun z hz => ?_⟩
    rcases List.mem_cons.1 hz with rfl | hz
    · omega
    · exact h2 z hz
/-- The first place of the least number. -/
def posM : List Int → Int
  | [] => 0
  | y :: t => idxI (y :: t) (minGo t y) 0
def bestM : List Int → Int
  | [] => 0
  | y :: t => minGo t y
theorem idxI_at (l : List Int) (x : Int) : ∀ (p i : Nat), p < l.length → l.getD p 0 = x → (∀ j, j < p → l.getD j 0 ≠ x) → idxI l x (i : Int) = ((i + p : Nat) : Int) := by
  induction l with
  | nil => intro p i h; simp at h
  | cons y t ih =>
    intro p i h h1 h2
    cases p with
    | zero =>
      simp only [List.getD_cons_zero] at h1
      simp [idxI, h1]
    | succ p =>
      have h0 : y ≠ x := by simpa using h2 0 (by omega)
      simp only [idxI]
      rw [if_neg (fun h => h0 h.symm)]
      have := ih p (i + 1) (by simpa using h) (by simpa using h1) (fun j hj => by simpa using h2 (j + 1) (by omega))
      rw [show ((i : Int) + 1) = ((i + 1 : Nat) : Int) by omega, this]
      omega
theorem minGo_mem (l : List Int) : ∀ m, minGo l m = m ∨ minGo l m ∈ l := by
  induction l with
  | nil => intro m; simp [minGo]
  | cons y t ih =>
    intro m
    simp only [minGo]
    rcases ih (mn m y) with h | h
    · rw [h, mn_eq]
      rcases Int.le_total m y with hl | hl
      · left; omega
      · right; rw [show min m y = y by omega]; simp
    · right; simp [h]
/-- The place that the reference finds. -/
def IsPos (l : List Int) (p : Nat) : Prop := p < l.length ∧ (∀ j, j < l.length → l.getD p 0 ≤ l.getD j 0) ∧ ∀ j, j < p → l.getD p 0 < l.getD j 0
theorem posM_of (l : List Int) (p : Nat) (h : IsPos l p) : posM l = (p : Int) ∧ bestM l = l.getD p 0 := by
  obtain ⟨h0, h1, h2⟩ := h
  cases l with
  | nil => simp at h0
  | cons y t =>
    have hm : minGo t y = (y :: t).getD p 0 := by
      have hle := minGo_le t y
      apply Int.le_antisymm
      · have hmem : (y :: t).getD p 0 ∈ y :: t := by
          rw [List.getD_eq_getElem?_getD, List.getElem?_eq_getElem h0]; exact List.getElem_mem h0
        rcases List.mem_cons.1 hmem with h | h
        · rw [h]; exact hle.1
        · exact hle.2 _ h
      · rcases minGo_mem t y with h | h
        · rw [h]; exact h1 0 (by simp)
        · obtain ⟨j, hj, hje⟩ := List.getElem_of_mem h
          have := h1 (j + 1) (by simpa using hj)
          rw [List.getD_cons_succ, List.getD_eq_getElem?_getD (l := t), List.getElem?_eq_getElem hj, Option.getD_some, hje] at this
          exact this
    refine ⟨?_, hm⟩
    simp only [posM]
    have := idxI_at (y :: t) (minGo t y) p 0 h0 hm.symm (fun j hj => by have := h2 j hj; omega)
    simpa using this
theorem specPos_l0 (l : List Int) (x : Int) (hl : l.length ≤ 35184372088832) (d : Nat) : ∀ (i p : Nat), i + d = l.length → p < i → (∀ j, j < i → l.getD p 0 ≤ l.getD j 0) → (∀ j, j < p → l.getD p 0 < l.getD j 0) → ∃ q, IsPos l q ∧ Ev (fun k => spec_PositionOf.l0 k (p : Int) (i : Int) l x) (q : Int) := by
  induction d with
  | zero =>
    intro i p hi hp h1 h2
    refine ⟨p, ⟨by omega, fun j hj => h1 j (by omega), h2⟩, ev_tail ?_⟩
    simp only [spec_PositionOf.l0]
    exact ev_neg (by omega) (Ev.now _)
  | succ d ih =>
    intro i p hi hp h1 h2
    have w1 : wrap64 ((i : Int) + 1) = ((i + 1 : Nat) : Int) := wrap_succ (by omega)
    by_cases hlt : l.getD i 0 < l.getD p 0
    · obtain ⟨q, hq, e⟩ := ih (i + 1) i (by omega) (by omega) (fun j hj => by
        rcases Nat.lt_or_ge j i with h | h
        · have := h1 j h; omega
        · have : j = i := by omega
          subst this; omega) (fun j hj => by have := h1 j hj; omega)
      refine ⟨q, hq, ev_tail ?_⟩
      simp only [spec_PositionOf.l0, w1, rd_nat]
      exact ev_pos (by omega) (ev_pos (by omega) (ev_pos (by omega) (ev_pos (by omega) (ev_pos hlt e))))
    · obtain ⟨q, hq, e⟩ := ih (i + 1) p (by omega) (by omega) (fun j hj => by
        rcases Nat.lt_or_ge j i with h | h
        · exact h1 j h
        · have : j = i := by omega
          subst this; omega) h2
      refine ⟨q, hq, ev_tail ?_⟩
      simp only [spec_PositionOf.l0, w1, rd_nat]
      exact ev_pos (by omega) (ev_pos (by omega) (ev_pos (by omega) (ev_pos (by omega) (ev_neg hlt e))))
theorem specPos (l : List Int) (x : Int) (hl : l.length ≤ 35184372088832) (h0 : l ≠ []) : ∃ q, IsPos l q ∧ Ev (fun k => spec_PositionOf.f k l x) (q : Int) := by
  cases l with
  | nil => exact absurd rfl h0
  | cons y t =>
    simp only [spec_PositionOf.f]
    obtain ⟨q, hq, e⟩ := specPos_l0 (y :: t) x hl t.length 1 0 (by simp; omega) (by omega) (fun j hj => by
      have : j = 0 := by omega
      subst this
      exact Int.le_refl _) (fun j hj => by omega)
    exact ⟨q, hq, by simpa using e⟩
theorem specPositionOf_ev (l : List Int) (x : Int) (hl : l.length ≤ 35184372088832) : Ev (fun k => spec_PositionOf.f k l x) (posM l) := by
  by_cases h0 : l = []
  · subst h0
    simp only [spec_PositionOf.f, posM]
    refine ev_tail ?_
    simp only [spec_PositionOf.l0]
    exact ev_neg (by simp) (Ev.now _)
  · obtain ⟨q, hq, e⟩ := specPos l x hl h0
    rw [(posM_of l q hq).1]
    exact e

theorem implPositionOf_ev (l : List Int) (x : Int) (hl : l.length ≤ 35184372088832) : Ev (fun k => impl_PositionOf.f k l x) (posM l) := by
  simp only [impl_PositionOf.f]
  cases l with
  | nil => exact ev_pos (by simp) (Ev.now _)
  | cons y t =>
    refine ev_neg (by simp; omega) ?_
    exact Ev.bind (Min_ev y t hl) (Ev.bind (Index_ev _ _ hl) (Ev.now _))

def okM (t l : List Int) (x w : Int) : Bool := l.all inFar && decide (t.length ≤ 40 ∧ l.length = t.length + 1 ∧ 0 ≤ x ∧ x ≤ 500 ∧ 1 ≤ w ∧ w ≤ 40)
theorem okM_facts {t l : List Int} {x w : Int} (h : okM t l x w = true) : t.length ≤ 40 ∧ l.length = t.length + 1 ∧ (0 ≤ x ∧ x ≤ 500) ∧ (1 ≤ w ∧ w ≤ 40) ∧ ∀ c ∈ l, 0 ≤ c ∧ c ≤ 500 := by
  unfold okM at h
  rw [Bool.and_eq_true, List.all_eq_true] at h
  obtain ⟨h1, h2⟩ := h
  simp only [decide_eq_true_eq] at h2
  obtain ⟨a, b, c, d, e, f⟩ := h2
  exact ⟨a, b, ⟨c, d⟩, ⟨e, f⟩, fun z hz => by have := h1 z hz; simpa [inFar] using this⟩
theorem posM_bound {l : List Int} (hl : l.length ≤ 35184372088832) (h0 : l ≠ []) : 0 ≤ posM l ∧ posM l < l.length := by
  obtain ⟨q, h, _⟩ := specPos l 0 hl h0
  rw [(posM_of l q h).1]
  have := h.1
  omega
theorem specOk_l0 (t : List Int) (x w : Int) (ht : t.length ≤ 1048576) (suf : List Int) : ∀ pre : List Int, (pre ++ suf).length ≤ 1048577 → Ev (fun k => spec_l18Ok.l0 k t w (pre.length : Int) (pre ++ suf) x) (suf.all inFar && decide (t.length ≤ 40 ∧ (pre ++ suf).length = t.length + 1 ∧ 0 ≤ x ∧ x ≤ 500 ∧ 1 ≤ w ∧ w ≤ 40)) := by
  induction suf with
  | nil =>
    intro pre h
    refine ev_tail ?_
    simp only [spec_l18Ok.l0, l1In_eq, Option.bind_some]
    have w3 : wrap64 ((t.length : Int) + 1) = (t.length : Int) + 1 := wrap_id (by omega) (by omega)
    rw [w3]
    refine ev_neg (by simp) ?_
    simp only [List.append_nil, List.all_nil, Bool.true_and]
    refine ev_ite (fun h1 => ev_ite (fun h2 => ev_ite (fun h3 => ?_) (fun h3 => ?_)) (fun h2 => ?_)) (fun h1 => ?_)
    · refine ev_eq (Ev.now _) (decide_eq_decide.2 ?_)
      simp only [decide_eq_true_eq] at h3
      constructor
      · intro h4; exact ⟨by omega, by omega, h3.1, h3.2, h4.1, h4.2⟩
      · intro h4; exact ⟨h4.2.2.2.2.1, h4.2.2.2.2.2⟩
    · refine ev_eq (Ev.now _) ?_
      simp only [decide_eq_true_eq] at h3
      exact (decide_eq_false (fun h4 => h3 ⟨h4.2.2.1, h4.2.2.2.1⟩)).symm
    · exact ev_eq (Ev.now _) (decide_eq_false (fun h4 => h2 (by omega))).symm
    · exact ev_eq (Ev.now _) (decide_eq_false (fun h4 => h1 (by omega))).symm
  | cons c cs ih =>
    intro pre h
    have e := ih (pre ++ [c]) (by simpa using h)
    have hl := h
    simp only [List.length_append, List.length_cons] at h
    refine ev_tail ?_
    simp only [spec_l18Ok.l0, l1In_eq, Option.bind_some]
    refine ev_pos (by simp; omega) (ev_pos (by omega) ?_)
    rw [rd_mid, List.all_cons]
    refine ev_ite (fun h1 => ?_) (fun h1 => ?_)
    · rw [wrap_succ (by omega), snoc_cons pre c cs, ← length_snoc pre c]
      have h2 : inFar c = true := h1
      rw [h2, Bool.true_and]
      exact e
    · have h2 : inFar c = false := by unfold inFar; simpa using h1
      rw [h2, Bool.false_and]
      exact Ev.now _
theorem specOk_ev (t l : List Int) (x w : Int) (ht : t.length ≤ 1048576) (hl : l.length ≤ 1048577) : Ev (fun k => spec_l18Ok.f k t l x w) (okM t l x w) := by
  simp only [spec_l18Ok.f]
  exact specOk_l0 t x w ht l [] (by simpa using hl)
def winM (t l : List Int) (x w : Int) : Int × Int × Bool := if okM t l x w = true then (max (posM l - w) 0, min (posM l + w) (t.length : Int), true) else (0, 0, false)
theorem anyFar_eq (l : List Int) : slices_ContainsFunc_int_int.f l = some (!(l.all inFar)) := by
  unfold slices_ContainsFunc_int_int.f
  rw [List.not_all_eq_any_not]
theorem implWindow_ev (t l : List Int) (x w : Int) (ht : t.length ≤ 1048576) (hl : l.length ≤ 1048577) : Ev (fun k => impl_window.f k t l x w) (winM t l x w) := by
  simp only [impl_window.f, InRange_eq, Option.bind_some]
  refine ev_val (anyFar_eq l) ?_
  have w3 : Aside0 (wrap64 ((t.length : Int) + 1) = (t.length : Int) + 1) := ⟨wrap_id (by omega) (by omega)⟩
  rw [w3.out]
  have no : okM t l x w ≠ true → winM t l x w = (0, 0, false) := fun h => if_neg h
  refine ev_ite (fun h1 => ?_) (fun h1 => ?_)
  · rw [no (fun h => ?_)]
    · exact Ev.now _
    · simp only [okM, Bool.and_eq_true] at h
      rw [h.1] at h1; cases h1
  have a1 : l.all inFar = true := by simpa using h1
  refine ev_ite (fun h2 => ?_) (fun h2 => ?_)
  · rw [no (fun h => by have := (okM_facts h).1; omega)]; exact Ev.now _
  refine ev_ite (fun h3 => ?_) (fun h3 => ?_)
  rotate_left
  · rw [no (fun h => by have := (okM_facts h).2.1; omega)]; exact Ev.now _
  refine ev_ite (fun h4 => ?_) (fun h4 => ?_)
  rotate_left
  · rw [no (fun h => h4 (decide_eq_true (okM_facts h).2.2.1))]; exact Ev.now _
  refine ev_ite (fun h5 => ?_) (fun h5 => ?_)
  rotate_left
  · rw [no (fun h => h5 (decide_eq_true (okM_facts h).2.2.2.1))]; exact Ev.now _
  simp only [decide_eq_true_eq] at h4 h5
  have hb := posM_bound (l := l) (by omega) (by intro h; subst h; simp at h3; omega)
  have hok : okM t l x w = true := by
    unfold okM
    rw [a1, Bool.true_and]
    exact decide_eq_true ⟨by omega, by omega, h4.1, h4.2, h5.1, h5.2⟩
  refine Ev.bind (implPositionOf_ev l x (by omega)) ?_
  rw [winM, if_pos hok]
  refine ev_eq (Ev.now _) ?_
  rw [wrap_id (by omega) (by omega), wrap_id (by omega) (by omega), mx_eq, mn_eq]

/-- 0 for two like numbers, else 1. -/
def unl1 (x p : Int) : Int := if x = p then 0 else 1
theorem unl1_le (x p : Int) : 0 ≤ unl1 x p ∧ unl1 x p ≤ 1 := by unfold unl1; split <;> omega
theorem unlike_eq (x p : Int) : impl_unlike.f x p = some (unl1 x p) := by
  unfold impl_unlike.f unl1
  by_cases h : x = p <;> simp [h]
theorem specMin_eq (a b : Int) : spec_Min.f a b = some (min a b) := by
  unfold spec_Min.f
  by_cases h : b < a
  · rw [if_pos h]; congr 1; omega
  · rw [if_neg h]; congr 1; omega

theorem l17Copy_eq (l : List Int) (x : Int) (h : l.length < 17592186044416) : spec_l17Copy.f l x = some (l, x) := by
  unfold spec_l17Copy.f
  simp [h]
theorem clone_eq (l : List Int) (h : l.length < 17592186044416) : impl_clone_int.f l = some l := by
  unfold impl_clone_int.f
  simp [h]

/-- The cost at a place, if only the places from a on to b are reckoned. -/
def nearN (t l : List Int) (p a b : Int) : Nat → Int
  | 0 => if a ≤ 0 ∧ 0 ≤ b then min (rd l 0 + 1) 500 else 500
  | i + 1 => if a ≤ (i : Int) + 1 ∧ (i : Int) + 1 ≤ b then min (min (min (rd l ((i : Int) + 1) + 1) (nearN t l p a b i + 1)) (rd l (i : Int) + unl1 (rd t (i : Int)) p)) 500 else 500
def nearRow (t l : List Int) (p a b : Int) : List Int := (List.range l.length).map (nearN t l p a b)
def nearM (t l : List Int) (x p w : Int) : List Int × Int := if okM t l x w = true then (nearRow t l p (posM l - w) (posM l + w), x + 1) else (l, x)
theorem nearM_length (t l : List Int) (x p w : Int) : (nearM t l x p w).1.length = l.length := by
  unfold nearM
  split
  · simp [nearRow]
  · rfl
theorem rd_set_same {out : List Int} {i : Nat} (h : i < out.length) (v : Int) : rd (out.set (i : Int).toNat v) (i : Int) = v := by
  simp [rd, List.getD, h]
theorem rd_set_other {out : List Int} {i j : Nat} (h : j ≠ i) (v : Int) : rd (out.set (i : Int).toNat v) (j : Int) = rd out (j : Int) := by
  simp [rd, List.getD, List.getElem?_set, show ¬ i = j by omega]
theorem rd_ge {l : List Int} (hl : ∀ c ∈ l, 0 ≤ c ∧ c ≤ 500) (i : Nat) : 0 ≤ rd l (i : Int) ∧ rd l (i : Int) ≤ 500 := by
  rw [rd_nat, List.getD_eq_getElem?_getD]
  by_cases h : i < l.length
  · rw [List.getElem?_eq_getElem h, Option.getD_some]; exact hl _ (List.getElem_mem h)
  · rw [List.getElem?_eq_none (by omega), Option.getD_none]; omega
theorem nearN_bound {t l : List Int} (hl : ∀ c ∈ l, 0 ≤ c ∧ c ≤ 500) (p a b : Int) (i : Nat) : 0 ≤ nearN t l p a b i ∧ nearN t l p a b i ≤ 500 := by
  induction i with
  | zero =>
    have := rd_ge hl 0
    simp only [Int.natCast_zero] at this
    simp only [nearN]
    split <;> omega
  | succ i ih =>
    have h1 := rd_ge hl (i + 1)
    have h2 := rd_ge hl i
    have h3 := unl1_le (rd t (i : Int)) p
    have e : (((i + 1 : Nat) : Int)) = (i : Int) + 1 := by omega
    rw [e] at h1
    simp only [nearN]
    split <;> omega
theorem row_eq {out : List Int} {f : Nat → Int} {n : Nat} (hn : out.length = n) (h : ∀ j, j < n → rd out (j : Int) = f j) : out = (List.range n).map f := by
  apply List.ext_getElem
  · simp [hn]
  · intro j h1 h2
    have := h j (by omega)
    rw [rd_nat, List.getD_eq_getElem?_getD, List.getElem?_eq_getElem h1, Option.getD_some] at this
    simpa using this
theorem nearSet {t l out : List Int} {p a b : Int} {i : Nat} (hi : i < out.length) (h : ∀ j, j < i → rd out (j : Int) = nearN t l p a b j) : ∀ j, j < i + 1 → rd (out.set (i : Int).toNat (nearN t l p a b i)) (j : Int) = nearN t l p a b j := by
  intro j hj
  by_cases e : j = i
  · subst e; exact rd_set_same hi _
  · rw [rd_set_other e]; exact h j (by omega)
theorem specNear_l0 (t l : List Int) (p w q x h : Int) (ht : l.length = t.length + 1) (ht4 : t.length ≤ 40) (hq : 0 ≤ q ∧ q ≤ 40) (hw : 1 ≤ w ∧ w ≤ 40) (hl : ∀ c ∈ l, 0 ≤ c ∧ c ≤ 500) (d : Nat) : ∀ (i : Nat) (out : List Int), i + d = l.length → out.length = l.length → (∀ j, j < i → rd out (j : Int) = nearN t l p (q - w) (q + w) j) →
    Ev (fun k => spec_StepNear.l0 k t p w q (i : Int) l x out h) (nearRow t l p (q - w) (q + w), h) := by
  induction d with
  | zero =>
    intro i out hi ho hj
    refine ev_tail ?_
    simp only [spec_StepNear.l0]
    refine ev_neg (by omega) (ev_eq (Ev.now _) ?_)
    rw [nearRow, row_eq ho (fun j hj2 => hj j (by omega))]
  | succ d ih =>
    intro i out hi ho hj
    have e := ih (i + 1) (out.set (i : Int).toNat (nearN t l p (q - w) (q + w) i)) (by omega) (by simpa using ho) (nearSet (by omega) hj)
    have w1 : Aside0 (wrap64 ((i : Int) + 1) = ((i + 1 : Nat) : Int)) := ⟨wrap_succ (by omega)⟩
    have w2 : Aside0 (wrap64 ((i : Int) - 1) = (i : Int) - 1) := ⟨wrap_id (by omega) (by omega)⟩
    have w3 : Aside0 (wrap64 (q - w) = q - w) := ⟨wrap_id (by omega) (by omega)⟩
    have w4 : Aside0 (wrap64 (q + w) = q + w) := ⟨wrap_id (by omega) (by omega)⟩
    have b1 := rd_ge hl i
    refine ev_tail ?_
    simp only [spec_StepNear.l0, l1In_eq, specMin_eq, Option.bind_some, w1.out, w2.out, w3.out, w4.out]
    refine ev_pos (by omega) (ev_ite (fun hin => ?_) (fun hin => ?_))
    · simp only [decide_eq_true_eq] at hin
      refine ev_pos (by omega) (ev_ite (fun h0 => ?_) (fun h0 => ?_))
      · obtain ⟨m, rfl⟩ : ∃ m, i = m + 1 := ⟨i - 1, by omega⟩
        have em : ((m + 1 : Nat) : Int) - 1 = (m : Int) := by omega
        have b2 := rd_ge hl m
        have b3 := nearN_bound hl p (q - w) (q + w) m (t := t)
        have hm := hj m (by omega)
        have hin2 : q - w ≤ (m : Int) + 1 ∧ (m : Int) + 1 ≤ q + w := by omega
        have hv : nearN t l p (q - w) (q + w) (m + 1) = min (min (min (rd l ((m : Int) + 1) + 1) (nearN t l p (q - w) (q + w) m + 1)) (rd l (m : Int) + unl1 (rd t (m : Int)) p)) 500 := by
          simp only [nearN]; rw [if_pos hin2]
        have ec : (((m + 1 : Nat) : Int)) = (m : Int) + 1 := by omega
        rw [hv] at e
        rw [em, hm]
        refine ev_pos (by omega) (ev_pos (by omega) (ev_pos (by omega) (ev_ite (fun hp => ?_) (fun hp => ?_))))
        · refine ev_pos (by omega) (ev_pos (by omega) ?_)
          have ev : min (min (rd l (m : Int)) (min (wrap64 (rd l ((m + 1 : Nat) : Int) + 1)) (wrap64 (nearN t l p (q - w) (q + w) m + 1)))) 500 = min (min (min (rd l ((m : Int) + 1) + 1) (nearN t l p (q - w) (q + w) m + 1)) (rd l (m : Int) + unl1 (rd t (m : Int)) p)) 500 := by
            rw [wrap_id (by omega) (by omega), wrap_id (by omega) (by omega), ec]; unfold unl1; rw [if_pos hp]; omega
          rw [ev]; exact e
        · refine ev_pos (by omega) (ev_pos (by omega) ?_)
          have ev : min (min (wrap64 (rd l (m : Int) + 1)) (min (wrap64 (rd l ((m + 1 : Nat) : Int) + 1)) (wrap64 (nearN t l p (q - w) (q + w) m + 1)))) 500 = min (min (min (rd l ((m : Int) + 1) + 1) (nearN t l p (q - w) (q + w) m + 1)) (rd l (m : Int) + unl1 (rd t (m : Int)) p)) 500 := by
            rw [wrap_id (by omega) (by omega), wrap_id (by omega) (by omega), wrap_id (by omega) (by omega), ec]; unfold unl1; rw [if_neg hp]; omega
          rw [ev]; exact e
      · obtain rfl : i = 0 := by omega
        refine ev_pos (by omega) ?_
        have hv : nearN t l p (q - w) (q + w) 0 = min (rd l 0 + 1) 500 := by
          simp only [nearN]; rw [if_pos (by omega)]
        rw [hv] at e
        have e0 : ((0 : Nat) : Int) = 0 := rfl
        rw [e0] at b1
        rw [show wrap64 (rd l ((0 : Nat) : Int) + 1) = rd l 0 + 1 by rw [e0, wrap_id (by omega) (by omega)]]
        exact e
    · refine ev_pos (by omega) (ev_pos (by omega) ?_)
      simp only [decide_eq_true_eq] at hin
      have hv : nearN t l p (q - w) (q + w) i = 500 := by
        cases i with
        | zero => simp only [nearN]; rw [if_neg (by omega)]
        | succ m => simp only [nearN]; rw [if_neg (by omega)]
      rw [hv] at e
      exact e
theorem nearN_out {t l : List Int} {p a b : Int} {i : Nat} (h : ¬ (a ≤ (i : Int) ∧ (i : Int) ≤ b)) : nearN t l p a b i = 500 := by
  cases i with
  | zero => simp only [nearN]; rw [if_neg (by omega)]
  | succ m => simp only [nearN]; rw [if_neg (by omega)]
theorem implNear_l0 (t l : List Int) (p w q x h u : Int) (ht : l.length = t.length + 1) (ht4 : t.length ≤ 40) (hq : 0 ≤ q ∧ q ≤ 40) (hw : 1 ≤ w ∧ w ≤ 40) (hl : ∀ c ∈ l, 0 ≤ c ∧ c ≤ 500) (hto : u = min (q + w) (t.length : Int)) (d : Nat) : ∀ (i : Nat) (out : List Int), (i : Int) + d = u + 1 → q - w ≤ (i : Int) → out.length = l.length → (∀ j, j < i → rd out (j : Int) = nearN t l p (q - w) (q + w) j) → (∀ j, i ≤ j → j < l.length → rd out (j : Int) = 500) →
    Ev (fun k => impl_StepNear.l0 k t p u (i : Int) l x out h) (nearRow t l p (q - w) (q + w), h) := by
  induction d with
  | zero =>
    intro i out hi hi2 ho hj hk
    refine ev_tail ?_
    simp only [impl_StepNear.l0]
    refine ev_neg (by omega) (ev_eq (Ev.now _) ?_)
    rw [nearRow, row_eq ho (fun j hj2 => ?_)]
    by_cases hji : j < i
    · exact hj j hji
    · rw [hk j (by omega) hj2, nearN_out (by omega)]
  | succ d ih =>
    intro i out hi hi2 ho hj hk
    have e := ih (i + 1) (out.set (i : Int).toNat (nearN t l p (q - w) (q + w) i)) (by omega) (by omega) (by simpa using ho) (nearSet (by omega) hj) (fun j h1 h2 => by rw [rd_set_other (by omega)]; exact hk j (by omega) h2)
    have w1 : Aside0 (wrap64 ((i : Int) + 1) = ((i + 1 : Nat) : Int)) := ⟨wrap_succ (by omega)⟩
    have w2 : Aside0 (wrap64 ((i : Int) - 1) = (i : Int) - 1) := ⟨wrap_id (by omega) (by omega)⟩
    have b1 := rd_ge hl i
    refine ev_tail ?_
    simp only [impl_StepNear.l0, unlike_eq, Option.bind_some, w1.out, w2.out, mn_eq]
    refine ev_pos (by omega) (ev_pos (by omega) (ev_pos (by omega) (ev_ite (fun h0 => ?_) (fun h0 => ?_))))
    · obtain ⟨m, rfl⟩ : ∃ m, i = m + 1 := ⟨i - 1, by omega⟩
      have em : ((m + 1 : Nat) : Int) - 1 = (m : Int) := by omega
      have b2 := rd_ge hl m
      have b3 := nearN_bound hl p (q - w) (q + w) m (t := t)
      have hm := hj m (by omega)
      have hv : nearN t l p (q - w) (q + w) (m + 1) = min (min (min (rd l ((m : Int) + 1) + 1) (nearN t l p (q - w) (q + w) m + 1)) (rd l (m : Int) + unl1 (rd t (m : Int)) p)) 500 := by
        simp only [nearN]; rw [if_pos (by omega)]
      have ec : (((m + 1 : Nat) : Int)) = (m : Int) + 1 := by omega
      have un := unl1_le (rd t (m : Int)) p
      rw [hv] at e
      rw [em, hm]
      refine ev_pos (by omega) (ev_pos (by omega) (ev_pos (by omega) (ev_pos (by omega) (ev_pos (by omega) ?_))))
      rw [wrap_id (n := rd l ((m + 1 : Nat) : Int) + 1) (by omega) (by omega), wrap_id (n := nearN t l p (q - w) (q + w) m + 1) (by omega) (by omega), wrap_id (n := rd l (m : Int) + unl1 (rd t (m : Int)) p) (by omega) (by omega)]
      rw [show rd l ((m + 1 : Nat) : Int) = rd l ((m : Int) + 1) by rw [ec]]
      exact e
    · obtain rfl : i = 0 := by omega
      have hv : nearN t l p (q - w) (q + w) 0 = min (rd l 0 + 1) 500 := by
        simp only [nearN]; rw [if_pos (by omega)]
      rw [hv] at e
      have e0 : ((0 : Nat) : Int) = 0 := rfl
      rw [e0] at b1
      refine ev_pos (by omega) ?_
      rw [show wrap64 (rd l ((0 : Nat) : Int) + 1) = rd l 0 + 1 by rw [e0, wrap_id (by omega) (by omega)]]
      exact e
theorem specStepNear_ev (t l : List Int) (x p w : Int) (ht : t.length ≤ 1048576) (hl : l.length ≤ 1048577) : Ev (fun k => spec_StepNear.f k t l x p w) (nearM t l x p w) := by
  simp only [spec_StepNear.f, l17Copy_eq l x (by omega), Option.bind_some]
  refine Ev.bind (specOk_ev t l x w ht hl) (ev_ite (fun hok => ?_) (fun hok => ?_))
  · obtain ⟨h1, h2, h3, h4, h5⟩ := okM_facts hok
    have hb := posM_bound (l := l) (by omega) (by intro h; subst h; simp at h2)
    rw [nearM, if_pos hok]
    refine Ev.bind (specPositionOf_ev l x (by omega)) ?_
    rw [wrap_id (n := x + 1) (by omega) (by omega)]
    exact specNear_l0 t l p w (posM l) x (x + 1) h2 h1 (by omega) h4 h5 l.length 0 l (by omega) rfl (fun j hj => absurd hj (by omega))
  · rw [nearM, if_neg hok]
    exact Ev.now _
theorem implStepNear_ev (t l : List Int) (x p w : Int) (ht : t.length ≤ 1048576) (hl : l.length ≤ 1048577) : Ev (fun k => impl_StepNear.f k t l x p w) (nearM t l x p w) := by
  simp only [impl_StepNear.f]
  refine Ev.bind (implWindow_ev t l x w ht hl) ?_
  by_cases hok : okM t l x w = true
  · obtain ⟨h1, h2, h3, h4, h5⟩ := okM_facts hok
    have hb := posM_bound (l := l) (by omega) (by intro h; subst h; simp at h2)
    rw [winM, if_pos hok, nearM, if_pos hok]
    refine ev_pos (by trivial) ?_
    have hrep : slices_Repeat_int_int.f [500] (l.length : Int) = some (List.replicate l.length 500) := by
      unfold slices_Repeat_int_int.f
      rw [if_pos ⟨rfl, by omega, by omega⟩, Int.toNat_natCast]
      rfl
    refine ev_val hrep ?_
    rw [wrap_id (n := x + 1) (by omega) (by omega)]
    obtain ⟨f, hf⟩ := Int.eq_ofNat_of_zero_le (show 0 ≤ max (posM l - w) 0 by omega)
    obtain ⟨d, hd⟩ := Int.eq_ofNat_of_zero_le (show 0 ≤ min (posM l + w) (t.length : Int) + 1 - (f : Int) by omega)
    have hr : ∀ j : Nat, j < l.length → rd (List.replicate l.length (500 : Int)) (j : Int) = 500 := fun j hj => by
      simp [rd, List.getD, List.getElem?_replicate, hj]
    have main := implNear_l0 t l p w (posM l) x (x + 1) (min (posM l + w) (t.length : Int)) h2 h1 (by omega) h4 h5 rfl d f (List.replicate l.length 500) (by omega) (by omega) (by simp) (fun j hj => by rw [hr j (by omega), nearN_out (by omega)]) (fun j _ hj => hr j hj)
    rw [← hf] at main
    exact main
  · rw [winM, if_neg hok, nearM, if_neg hok]
    refine ev_neg (by simp) ?_
    exact ev_val (clone_eq l (by omega)) (Ev.now _)

def nearAllM (t l : List Int) (x : Int) (ps : List Int) (w : Int) : List Int × Int := ps.foldl (fun s p => nearM t s.1 s.2 p w) (l, x)
theorem nearAllM_length (t : List Int) (w : Int) (ps : List Int) : ∀ (l : List Int) (x : Int), (nearAllM t l x ps w).1.length = l.length := by
  induction ps with
  | nil => intro l x; rfl
  | cons p ps ih =>
    intro l x
    have e := ih (nearM t l x p w).1 (nearM t l x p w).2
    rw [nearM_length] at e
    exact e
theorem specNearAll_l0 (t : List Int) (w : Int) (ht : t.length ≤ 1048576) (suf : List Int) : ∀ (pre l : List Int) (x : Int), (pre ++ suf).length ≤ 1048576 → l.length ≤ 1048577 → Ev (fun k => spec_HearNear.l0 k t (pre ++ suf) w (pre.length : Int) l x) (nearAllM t l x suf w) := by
  induction suf with
  | nil =>
    intro pre l x h hl
    refine ev_tail ?_
    simp only [spec_HearNear.l0]
    exact ev_neg (by simp) (Ev.now _)
  | cons p ps ih =>
    intro pre l x h hl
    have hs := nearM_length t l x p w
    have e := ih (pre ++ [p]) (nearM t l x p w).1 (nearM t l x p w).2 (by simpa using h) (by omega)
    simp only [List.length_append, List.length_cons] at h
    refine ev_tail ?_
    simp only [spec_HearNear.l0]
    refine ev_pos (by simp; omega) (ev_pos (by omega) ?_)
    rw [rd_mid]
    refine Ev.bind (specStepNear_ev t l x p w ht hl) ?_
    rw [wrap_succ (by omega), snoc_cons pre p ps, ← length_snoc pre p]
    exact e
theorem implNearAll_l0 (t : List Int) (w : Int) (ht : t.length ≤ 1048576) (suf : List Int) : ∀ (pre l : List Int) (x : Int), (pre ++ suf).length ≤ 1048576 → l.length ≤ 1048577 → Ev (fun k => impl_HearNear.l0 k t w (pre ++ suf) ((pre ++ suf).length : Int) (pre.length : Int) l x) (nearAllM t l x suf w) := by
  induction suf with
  | nil =>
    intro pre l x h hl
    refine ev_tail ?_
    simp only [impl_HearNear.l0]
    exact ev_neg (by simp) (Ev.now _)
  | cons p ps ih =>
    intro pre l x h hl
    have hs := nearM_length t l x p w
    have e := ih (pre ++ [p]) (nearM t l x p w).1 (nearM t l x p w).2 (by simpa using h) (by omega)
    simp only [List.length_append, List.length_cons] at h
    refine ev_tail ?_
    simp only [impl_HearNear.l0]
    refine ev_pos (by simp; omega) (ev_pos (by omega) (ev_pos (by simp; omega) ?_))
    rw [rd_mid]
    refine Ev.bind (implStepNear_ev t l x p w ht hl) ?_
    rw [wrap_succ (by omega), snoc_cons pre p ps, ← length_snoc pre p]
    exact e
theorem specHearNear_ev (t l : List Int) (x : Int) (ps : List Int) (w : Int) (ht : t.length ≤ 1048576) (hl : l.length ≤ 1048577) (hp : ps.length ≤ 1048576) : Ev (fun k => spec_HearNear.f k t l x ps w) (nearAllM t l x ps w) := by
  simp only [spec_HearNear.f, l17Copy_eq l x (by omega), Option.bind_some]
  exact specNearAll_l0 t w ht ps [] l x (by simpa using hp) hl
theorem implHearNear_ev (t l : List Int) (x : Int) (ps : List Int) (w : Int) (ht : t.length ≤ 1048576) (hl : l.length ≤ 1048577) (hp : ps.length ≤ 1048576) : Ev (fun k => impl_HearNear.f k t l x ps w) (nearAllM t l x ps w) := by
  simp only [impl_HearNear.f, clone_eq l (by omega), Option.bind_some]
  exact implNearAll_l0 t w ht ps [] l x (by simpa using hp) hl

theorem FnExactHearNear : ∀ (l0 : List (Int)) (l1_0 : List (Int)) (a1_1 : Int) (l2 : List (Int)) (a3 : Int), (l0.length ≤ maxLen) → (∀ x ∈ l0, (Lit.int .i64 x).wf = true) → (l1_0.length ≤ maxLen) → (∀ x ∈ l1_0, (Lit.int .i64 x).wf = true) → (Lit.int .i64 a1_1).wf = true → (l2.length ≤ maxLen) → (∀ x ∈ l2, (Lit.int .i64 x).wf = true) → (Lit.int .i64 a3).wf = true → ∃ k, laws_FnExactHearNear.f k l0 l1_0 a1_1 l2 a3 = some true := by
  intro t l x p w _ _ hlm _ _ _ _ _
  refine Ev.rounds ?_
  simp only [laws_FnExactHearNear.f]
  refine ev_ite (fun _ => Ev.now _) (fun h => ev_ite (fun _ => Ev.now _) (fun h' => ?_))
  have ht : t.length ≤ 1048576 := by omega
  have hp : p.length ≤ 1048576 := by omega
  obtain ⟨r, hr, _, hb⟩ := szFollower_some l x 1048576 (by omega) (by omega) hlm
  refine ev_val hr (ev_ite (fun _ => Ev.now _) (fun h => ?_))
  obtain ⟨_, hl⟩ := hb h
  have hl2 : l.length ≤ 1048576 := by omega
  have hs := nearAllM_length t w p l x
  have hc : (nearAllM t l x p w).1.length ≤ 35184372088832 := by omega
  refine Ev.bind (toIntS_ev t (by omega)) (Ev.bind (toFollower_ev l x (by omega)) (Ev.bind (toIntS_ev p (by omega)) (Ev.bind (specHearNear_ev t l x p w ht (by omega) hp) (Ev.bind (toIntS_ev t (by omega)) (Ev.bind (toFollower_ev l x (by omega)) (Ev.bind (toIntS_ev p (by omega)) (Ev.bind (implHearNear_ev t l x p w ht (by omega) hp) ?_)))))))
  refine Ev.bind (eqFollower_ev _ _ hc) (ev_pos (by trivial) (Ev.bind (toIntS_ev t (by omega)) (Ev.bind (eqIntS_ev t (by omega)) (ev_pos (by trivial) ?_))))
  refine Ev.bind (toFollower_ev l x (by omega)) (Ev.bind (eqFollower_ev l x (by omega)) (ev_pos (by trivial) ?_))
  refine Ev.bind (toIntS_ev p (by omega)) (Ev.bind (eqIntS_ev p (by omega)) (ev_pos (by trivial) ?_))
  refine Ev.bind (markIntS_ev t 1 (by omega) (by omega) (by omega)) (Ev.bind (markFollower_ev l x _ (by omega) (by simp; omega) (by simp; omega)) (Ev.bind (markIntS_ev p _ (by omega) (by simp; omega) (by simp; omega)) (ev_neg (by simp; omega) ?_)))
  refine Ev.bind (eqFollower_ev _ _ hc) (ev_tail ?_)
  simp only [laws_FnExactHearNear.j0]
  refine ev_neg (by simp) (Ev.bind (markFollower_ev _ _ 1 hc (by omega) (by omega)) ?_)
  refine Ev.bind (heldFollower_ev _ _ 1 hc (by omega) (by omega)) (ev_neg (by omega) (ev_pos (by trivial) ?_))
  refine Ev.bind (toIntS_ev t (by omega)) (Ev.bind (toFollower_ev l x (by omega)) (Ev.bind (toIntS_ev p (by omega)) (Ev.bind (implHearNear_ev t l x p w ht (by omega) hp) (Ev.bind (eqFollower_ev _ _ hc) (ev_pos (by trivial) ?_)))))
  refine Ev.bind (heldFollower_ev _ _ 1 hc (by omega) (by omega)) (ev_neg (by omega) (ev_pos (by trivial) (Ev.now _)))
end Go.Proofs.Ytlkcbmcbmanmiaa.Pure
