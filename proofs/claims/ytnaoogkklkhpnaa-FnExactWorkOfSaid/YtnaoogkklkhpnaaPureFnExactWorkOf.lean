/-
WorkOf of the program and of the reference: the same answer.
Conditions: none.
-/
import Derived.Test.YtnaoogkklkhpnaaPFnExactWorkOfx3
import Derived.Test.YtnaoogkklkhpnaaBase
namespace Go.Proofs.Ytnaoogkklkhpnaa.Pure
open Go.RowKit Go.Proofs.Ytnaoogkklkhpnaa.PFnExactWorkOf Go.Proofs.YtnaoogkklkhpnaaW.PrintWords Go.Proofs.YtnaoogkklkhpnaaW.PrintLast Go.Proofs.YtnaoogkklkhpnaaW.PrintMore Go.Proofs.Ytnaoogkklkhpnaa.Base
set_option linter.unusedVariables false
set_option linter.unusedSimpArgs false

theorem l1In_eq (a b c : Int) : spec_l1In.f a b c = some (decide (b ≤ a ∧ a ≤ c)) := by
  unfold spec_l1In.f
  by_cases h1 : b ≤ a <;> by_cases h2 : a ≤ c <;> simp [h1, h2]
theorem InRange_eq (a b c : Int) : impl_InRange.f a b c = some (decide (b ≤ a ∧ a ≤ c)) := by
  unfold impl_InRange.f
  by_cases h1 : b ≤ a <;> by_cases h2 : a ≤ c <;> simp [h1, h2]

theorem toIntS_l0 (suf : List Int) : ∀ pre : List Int, (pre ++ suf).length ≤ 35184372088832 → Ev (fun k => laws_toIntS.l0 k (pre ++ suf) (pre ++ List.replicate suf.length 0) (pre.length : Int)) (pre ++ suf) := by
  induction suf with
  | nil =>
    intro pre h
    refine ev_tail ?_
    simp only [laws_toIntS.l0]
    refine ev_neg (by simp) ?_
    simpa using Ev.now pre
  | cons x t ih =>
    intro pre h
    have e := ih (pre ++ [x]) (by simpa using h)
    simp only [List.length_append, List.length_cons] at h
    refine ev_tail ?_
    simp only [laws_toIntS.l0]
    refine ev_pos (by simp; omega) (ev_pos (by omega) (ev_pos (by simp; omega) ?_))
    rw [rd_mid, List.length_cons, List.replicate_succ, set_mid, wrap_succ (by omega), snoc_cons pre x t, snoc_cons pre x (List.replicate t.length 0), ← length_snoc pre x]
    exact e
theorem toIntS_ev (l : List Int) (h : l.length ≤ 35184372088832) : Ev (fun k => laws_toIntS.f k l) l := by
  simp only [laws_toIntS.f]
  refine ev_pos (by omega) (ev_pos (by omega) ?_)
  exact toIntS_l0 l [] (by simpa using h)

theorem eqIntS_l0 (suf : List Int) : ∀ pre : List Int, (pre ++ suf).length ≤ 35184372088832 → Ev (fun k => laws_eqIntS.l0 k (pre ++ suf) (pre ++ suf) (pre.length : Int)) true := by
  induction suf with
  | nil =>
    intro pre h
    refine ev_tail ?_
    simp only [laws_eqIntS.l0]
    exact ev_neg (by simp) (Ev.now true)
  | cons x t ih =>
    intro pre h
    have e := ih (pre ++ [x]) (by simpa using h)
    simp only [List.length_append, List.length_cons] at h
    refine ev_tail ?_
    simp only [laws_eqIntS.l0]
    refine ev_pos (by simp; omega) (ev_pos (by omega) (ev_pos (by simp; omega) (ev_pos (by trivial) ?_)))
    rw [wrap_succ (by omega), snoc_cons pre x t, ← length_snoc pre x]
    exact e
theorem eqIntS_ev (l : List Int) (h : l.length ≤ 35184372088832) : Ev (fun k => laws_eqIntS.f k l l) true := by
  simp only [laws_eqIntS.f]
  refine ev_pos (by trivial) ?_
  exact eqIntS_l0 l [] (by simpa using h)

theorem szIntS_some (l : List Int) (b : Int) (hb0 : 0 ≤ b) (hb : b ≤ 1048576) (h : l.length ≤ maxLen) : ∃ r, laws_szIntS.f l b = some r ∧ r ≤ b ∧ (¬ r < 0 → 0 ≤ r ∧ (l.length : Int) ≤ b) := by
  have hm : maxLen = 9223372036854775807 := rfl
  unfold laws_szIntS.f
  rw [wrap_id (by omega) (by omega)]
  by_cases h0 : b - (l.length : Int) < 0
  · exact ⟨-1, by rw [if_pos h0], by omega, fun h => absurd (by omega) h⟩
  · exact ⟨_, by rw [if_neg h0], by omega, fun _ => by omega⟩

theorem szFollower_some (l : List Int) (x b : Int) (hb0 : 0 ≤ b) (hb : b ≤ 1048576) (h : l.length ≤ maxLen) : ∃ r, laws_szFollower.f l x b = some r ∧ r ≤ b ∧ (¬ r < 0 → 0 ≤ r ∧ (l.length : Int) ≤ b) := by
  obtain ⟨r, hr, h1, h2⟩ := szIntS_some l b hb0 hb h
  unfold laws_szFollower.f
  rw [hr]
  simp only [Option.bind_some]
  by_cases h0 : r < 0
  · exact ⟨-1, by rw [if_pos h0], by omega, fun h => absurd (by omega) h⟩
  · exact ⟨r, by rw [if_neg h0], h1, h2⟩

theorem toFollower_ev (l : List Int) (x : Int) (h : l.length ≤ 35184372088832) : Ev (fun k => laws_toFollower.f k l x) (l, x) := by
  simp only [laws_toFollower.f]
  exact Ev.bind (toIntS_ev l h) (Ev.now _)

theorem eqFollower_ev (l : List Int) (x : Int) (h : l.length ≤ 35184372088832) : Ev (fun k => laws_eqFollower.f k l x l x) true := by
  simp only [laws_eqFollower.f]
  exact Ev.bind (eqIntS_ev l h) (ev_pos (by trivial) (ev_pos (by trivial) (Ev.now _)))

/-- Where x stands first in a list, counted from i; -1: nowhere. -/
def idxI : List Int → Int → Int → Int
  | [], _, _ => -1
  | y :: t, x, i => if x = y then i else idxI t x (i + 1)
theorem idxI_bd (l : List Int) (x : Int) : ∀ i, 0 ≤ i → -1 ≤ idxI l x i ∧ idxI l x i < i + l.length + 1 := by
  induction l with
  | nil => intro i h; simp [idxI]; omega
  | cons y t ih =>
    intro i h
    simp only [idxI]
    split
    · simp; omega
    · have := ih (i + 1) (by omega)
      simp only [List.length_cons]
      omega
theorem Index_l0 (x : Int) (suf : List Int) : ∀ pre : List Int, (pre ++ suf).length ≤ 35184372088832 → Ev (fun k => slices_Index_int_int.l0 k (pre ++ suf) x ((pre ++ suf).length : Int) (pre.length : Int)) (idxI suf x (pre.length : Int)) := by
  induction suf with
  | nil =>
    intro pre h
    refine ev_tail ?_
    simp only [slices_Index_int_int.l0]
    exact ev_neg (by simp) (Ev.now _)
  | cons y t ih =>
    intro pre h
    have e := ih (pre ++ [y]) (by simpa using h)
    simp only [List.length_append, List.length_cons] at h
    refine ev_tail ?_
    simp only [slices_Index_int_int.l0, idxI]
    refine ev_pos (by simp; omega) (ev_pos (by omega) (ev_pos (by simp; omega) ?_))
    rw [rd_mid]
    by_cases hy : x = y
    · rw [if_pos hy]
      exact ev_pos hy (Ev.now _)
    · rw [if_neg hy]
      refine ev_neg hy ?_
      rw [wrap_succ (by omega), snoc_cons pre y t, ← length_snoc pre y]
      simpa using e
theorem Index_ev (l : List Int) (x : Int) (h : l.length ≤ 35184372088832) : Ev (fun k => slices_Index_int_int.f k l x) (idxI l x 0) := by
  simp only [slices_Index_int_int.f]
  exact Index_l0 x l [] (by simpa using h)

/-- The least of a number and a list's numbers. -/
def minGo : List Int → Int → Int
  | [], m => m
  | y :: t, m => minGo t (mn m y)
theorem Min_l0 (suf : List Int) : ∀ (pre : List Int) (m : Int), (pre ++ suf).length ≤ 35184372088832 → Ev (fun k => slices_Min_int_int.l0 k (pre ++ suf) m (pre.length : Int)) (minGo suf m) := by
  induction suf with
  | nil =>
    intro pre m h
    refine ev_tail ?_
    simp only [slices_Min_int_int.l0]
    exact ev_neg (by simp) (Ev.now _)
  | cons y t ih =>
    intro pre m h
    have e := ih (pre ++ [y]) (mn m y) (by simpa using h)
    simp only [List.length_append, List.length_cons] at h
    refine ev_tail ?_
    simp only [slices_Min_int_int.l0, minGo]
    refine ev_pos (by simp; omega) (ev_pos (by omega) ?_)
    rw [rd_mid, wrap_succ (by omega), snoc_cons pre y t, ← length_snoc pre y]
    exact e
theorem Min_ev (y : Int) (t : List Int) (h : (y :: t).length ≤ 35184372088832) : Ev (fun k => slices_Min_int_int.f k (y :: t)) (minGo t y) := by
  simp only [slices_Min_int_int.f]
  refine ev_neg (by simp; omega) (ev_pos (by simp) ?_)
  exact Min_l0 t [y] y h
theorem minGo_le (l : List Int) : ∀ m, minGo l m ≤ m ∧ ∀ y ∈ l, minGo l m ≤ y := by
  induction l with
  | nil => intro m; simp [minGo]
  | cons y t ih =>
    intro m
    obtain ⟨h1, h2⟩ := ih (mn m y)
    rw [mn_eq] at h1
    simp only [minGo, mn_eq] at *
    refine ⟨by omega, fun z hz => ?_⟩
    rcases List.mem_cons.1 hz with rfl | hz
    · omega
    · exact h2 z hz
/-- The first place of the least number. -/
def posM : List Int → Int
  | [] => 0
  | y :: t => idxI (y :: t) (minGo t y) 0
def bestM : List Int → Int
  | [] => 0
  | y :: t => minGo t y
theorem idxI_at (l : List Int) (x : Int) : ∀ (p i : Nat), p < l.length → l.getD p 0 = x → (∀ j, j < p → l.getD j 0 ≠ x) → idxI l x (i : Int) = ((i + p : Nat) : Int) := by
  induction l with
  | nil => intro p i h; simp at h
  | cons y t ih =>
    intro p i h h1 h2
    cases p with
    | zero =>
      simp only [List.getD_cons_zero] at h1
      simp [idxI, h1]
    | succ p =>
      have h0 : y ≠ x := by simpa using h2 0 (by omega)
      simp only [idxI]
      rw [if_neg (fun h => h0 h.symm)]
      have := ih p (i + 1) (by simpa using h) (by simpa using h1) (fun j hj => by simpa using h2 (j + 1) (by omega))
      rw [show ((i : Int) + 1) = ((i + 1 : Nat) : Int) by omega, this]
      omega
theorem minGo_mem (l : List Int) : ∀ m, minGo l m = m ∨ minGo l m ∈ l := by
  induction l with
  | nil => intro m; simp [minGo]
  | cons y t ih =>
    intro m
    simp only [minGo]
    rcases ih (mn m y) with h | h
    · rw [h, mn_eq]
      rcases Int.le_total m y with hl | hl
      · left; omega
      · right; rw [show min m y = y by omega]; simp
    · right; simp [h]
/-- The place that the reference finds. -/
def IsPos (l : List Int) (p : Nat) : Prop := p < l.length ∧ (∀ j, j < l.length → l.getD p 0 ≤ l.getD j 0) ∧ ∀ j, j < p → l.getD p 0 < l.getD j 0
theorem posM_of (l : List Int) (p : Nat) (h : IsPos l p) : posM l = (p : Int) ∧ bestM l = l.getD p 0 := by
  obtain ⟨h0, h1, h2⟩ := h
  cases l with
  | nil => simp at h0
  | cons y t =>
    have hm : minGo t y = (y :: t).getD p 0 := by
      have hle := minGo_le t y
      apply Int.le_antisymm
      · have hmem : (y :: t).getD p 0 ∈ y :: t := by
          rw [List.getD_eq_getElem?_getD, List.getElem?_eq_getElem h0]; exact List.getElem_mem h0
        rcases List.mem_cons.1 hmem with h | h
        · rw [h]; exact hle.1
        · exact hle.2 _ h
      · rcases minGo_mem t y with h | h
        · rw [h]; exact h1 0 (by simp)
        · obtain ⟨j, hj, hje⟩ := List.getElem_of_mem h
          have := h1 (j + 1) (by simpa using hj)
          rw [List.getD_cons_succ, List.getD_eq_getElem?_getD (l := t), List.getElem?_eq_getElem hj, Option.getD_some, hje] at this
          exact this
    refine ⟨?_, hm⟩
    simp only [posM]
    have := idxI_at (y :: t) (minGo t y) p 0 h0 hm.symm (fun j hj => by have := h2 j hj; omega)
    simpa using this
theorem specPos_l0 (l : List Int) (x : Int) (hl : l.length ≤ 35184372088832) (d : Nat) : ∀ (i p : Nat), i + d = l.length → p < i → (∀ j, j < i → l.getD p 0 ≤ l.getD j 0) → (∀ j, j < p → l.getD p 0 < l.getD j 0) → ∃ q, IsPos l q ∧ Ev (fun k => spec_PositionOf.l0 k (p : Int) (i : Int) l x) (q : Int) := by
  induction d with
  | zero =>
    intro i p hi hp h1 h2
    refine ⟨p, ⟨by omega, fun j hj => h1 j (by omega), h2⟩, ev_tail ?_⟩
    simp only [spec_PositionOf.l0]
    exact ev_neg (by omega) (Ev.now _)
  | succ d ih =>
    intro i p hi hp h1 h2
    have w1 : wrap64 ((i : Int) + 1) = ((i + 1 : Nat) : Int) := wrap_succ (by omega)
    by_cases hlt : l.getD i 0 < l.getD p 0
    · obtain ⟨q, hq, e⟩ := ih (i + 1) i (by omega) (by omega) (fun j hj => by
        rcases Nat.lt_or_ge j i with h | h
        · have := h1 j h; omega
        · have : j = i := by omega
          subst this; omega) (fun j hj => by have := h1 j hj; omega)
      refine ⟨q, hq, ev_tail ?_⟩
      simp only [spec_PositionOf.l0, w1, rd_nat]
      exact ev_pos (by omega) (ev_pos (by omega) (ev_pos (by omega) (ev_pos (by omega) (ev_pos hlt e))))
    · obtain ⟨q, hq, e⟩ := ih (i + 1) p (by omega) (by omega) (fun j hj => by
        rcases Nat.lt_or_ge j i with h | h
        · exact h1 j h
        · have : j = i := by omega
          subst this; omega) h2
      refine ⟨q, hq, ev_tail ?_⟩
      simp only [spec_PositionOf.l0, w1, rd_nat]
      exact ev_pos (by omega) (ev_pos (by omega) (ev_pos (by omega) (ev_pos (by omega) (ev_neg hlt e))))
theorem specPos (l : List Int) (x : Int) (hl : l.length ≤ 35184372088832) (h0 : l ≠ []) : ∃ q, IsPos l q ∧ Ev (fun k => spec_PositionOf.f k l x) (q : Int) := by
  cases l with
  | nil => exact absurd rfl h0
  | cons y t =>
    simp only [spec_PositionOf.f]
    obtain ⟨q, hq, e⟩ := specPos_l0 (y :: t) x hl t.length 1 0 (by simp; omega) (by omega) (fun j hj => by
      have : j = 0 := by omega
      subst this
      exact Int.le_refl _) (fun j hj => by omega)
    exact ⟨q, hq, by simpa using e⟩
theorem specPositionOf_ev (l : List Int) (x : Int) (hl : l.length ≤ 35184372088832) : Ev (fun k => spec_PositionOf.f k l x) (posM l) := by
  by_cases h0 : l = []
  · subst h0
    simp only [spec_PositionOf.f, posM]
    refine ev_tail ?_
    simp only [spec_PositionOf.l0]
    exact ev_neg (by simp) (Ev.now _)
  · obtain ⟨q, hq, e⟩ := specPos l x hl h0
    rw [(posM_of l q hq).1]
    exact e

theorem implPositionOf_ev (l : List Int) (x : Int) (hl : l.length ≤ 35184372088832) : Ev (fun k => impl_PositionOf.f k l x) (posM l) := by
  simp only [impl_PositionOf.f]
  cases l with
  | nil => exact ev_pos (by simp) (Ev.now _)
  | cons y t =>
    refine ev_neg (by simp; omega) ?_
    exact Ev.bind (Min_ev y t hl) (Ev.bind (Index_ev _ _ hl) (Ev.now _))

def okM (t l : List Int) (x w : Int) : Bool := l.all inFar && decide (t.length ≤ 40 ∧ l.length = t.length + 1 ∧ 0 ≤ x ∧ x ≤ 500 ∧ 1 ≤ w ∧ w ≤ 40)
theorem okM_facts {t l : List Int} {x w : Int} (h : okM t l x w = true) : t.length ≤ 40 ∧ l.length = t.length + 1 ∧ (0 ≤ x ∧ x ≤ 500) ∧ (1 ≤ w ∧ w ≤ 40) ∧ ∀ c ∈ l, 0 ≤ c ∧ c ≤ 500 := by
  unfold okM at h
  rw [Bool.and_eq_true, List.all_eq_true] at h
  obtain ⟨h1, h2⟩ := h
  simp only [decide_eq_true_eq] at h2
  obtain ⟨a, b, c, d, e, f⟩ := h2
  exact ⟨a, b, ⟨c, d⟩, ⟨e, f⟩, fun z hz => by have := h1 z hz; simpa [inFar] using this⟩
theorem posM_bound {l : List Int} (hl : l.length ≤ 35184372088832) (h0 : l ≠ []) : 0 ≤ posM l ∧ posM l < l.length := by
  obtain ⟨q, h, _⟩ := specPos l 0 hl h0
  rw [(posM_of l q h).1]
  have := h.1
  omega
theorem specOk_l0 (t : List Int) (x w : Int) (ht : t.length ≤ 1048576) (suf : List Int) : ∀ pre : List Int, (pre ++ suf).length ≤ 1048577 → Ev (fun k => spec_l18Ok.l0 k t w (pre.length : Int) (pre ++ suf) x) (suf.all inFar && decide (t.length ≤ 40 ∧ (pre ++ suf).length = t.length + 1 ∧ 0 ≤ x ∧ x ≤ 500 ∧ 1 ≤ w ∧ w ≤ 40)) := by
  induction suf with
  | nil =>
    intro pre h
    refine ev_tail ?_
    simp only [spec_l18Ok.l0, l1In_eq, Option.bind_some]
    have w3 : wrap64 ((t.length : Int) + 1) = (t.length : Int) + 1 := wrap_id (by omega) (by omega)
    rw [w3]
    refine ev_neg (by simp) ?_
    simp only [List.append_nil, List.all_nil, Bool.true_and]
    refine ev_ite (fun h1 => ev_ite (fun h2 => ev_ite (fun h3 => ?_) (fun h3 => ?_)) (fun h2 => ?_)) (fun h1 => ?_)
    · refine ev_eq (Ev.now _) (decide_eq_decide.2 ?_)
      simp only [decide_eq_true_eq] at h3
      constructor
      · intro h4; exact ⟨by omega, by omega, h3.1, h3.2, h4.1, h4.2⟩
      · intro h4; exact ⟨h4.2.2.2.2.1, h4.2.2.2.2.2⟩
    · refine ev_eq (Ev.now _) ?_
      simp only [decide_eq_true_eq] at h3
      exact (decide_eq_false (fun h4 => h3 ⟨h4.2.2.1, h4.2.2.2.1⟩)).symm
    · exact ev_eq (Ev.now _) (decide_eq_false (fun h4 => h2 (by omega))).symm
    · exact ev_eq (Ev.now _) (decide_eq_false (fun h4 => h1 (by omega))).symm
  | cons c cs ih =>
    intro pre h
    have e := ih (pre ++ [c]) (by simpa using h)
    have hl := h
    simp only [List.length_append, List.length_cons] at h
    refine ev_tail ?_
    simp only [spec_l18Ok.l0, l1In_eq, Option.bind_some]
    refine ev_pos (by simp; omega) (ev_pos (by omega) ?_)
    rw [rd_mid, List.all_cons]
    refine ev_ite (fun h1 => ?_) (fun h1 => ?_)
    · rw [wrap_succ (by omega), snoc_cons pre c cs, ← length_snoc pre c]
      have h2 : inFar c = true := h1
      rw [h2, Bool.true_and]
      exact e
    · have h2 : inFar c = false := by unfold inFar; simpa using h1
      rw [h2, Bool.false_and]
      exact Ev.now _
theorem specOk_ev (t l : List Int) (x w : Int) (ht : t.length ≤ 1048576) (hl : l.length ≤ 1048577) : Ev (fun k => spec_l18Ok.f k t l x w) (okM t l x w) := by
  simp only [spec_l18Ok.f]
  exact specOk_l0 t x w ht l [] (by simpa using hl)
def winM (t l : List Int) (x w : Int) : Int × Int × Bool := if okM t l x w = true then (max (posM l - w) 0, min (posM l + w) (t.length : Int), true) else (0, 0, false)
theorem anyFar_eq (l : List Int) : slices_ContainsFunc_int_int.f l = some (!(l.all inFar)) := by
  unfold slices_ContainsFunc_int_int.f
  rw [List.not_all_eq_any_not]
theorem implWindow_ev (t l : List Int) (x w : Int) (ht : t.length ≤ 1048576) (hl : l.length ≤ 1048577) : Ev (fun k => impl_window.f k t l x w) (winM t l x w) := by
  simp only [impl_window.f, InRange_eq, Option.bind_some]
  refine ev_val (anyFar_eq l) ?_
  have w3 : Aside0 (wrap64 ((t.length : Int) + 1) = (t.length : Int) + 1) := ⟨wrap_id (by omega) (by omega)⟩
  rw [w3.out]
  have no : okM t l x w ≠ true → winM t l x w = (0, 0, false) := fun h => if_neg h
  refine ev_ite (fun h1 => ?_) (fun h1 => ?_)
  · rw [no (fun h => ?_)]
    · exact Ev.now _
    · simp only [okM, Bool.and_eq_true] at h
      rw [h.1] at h1; cases h1
  have a1 : l.all inFar = true := by simpa using h1
  refine ev_ite (fun h2 => ?_) (fun h2 => ?_)
  · rw [no (fun h => by have := (okM_facts h).1; omega)]; exact Ev.now _
  refine ev_ite (fun h3 => ?_) (fun h3 => ?_)
  rotate_left
  · rw [no (fun h => by have := (okM_facts h).2.1; omega)]; exact Ev.now _
  refine ev_ite (fun h4 => ?_) (fun h4 => ?_)
  rotate_left
  · rw [no (fun h => h4 (decide_eq_true (okM_facts h).2.2.1))]; exact Ev.now _
  refine ev_ite (fun h5 => ?_) (fun h5 => ?_)
  rotate_left
  · rw [no (fun h => h5 (decide_eq_true (okM_facts h).2.2.2.1))]; exact Ev.now _
  simp only [decide_eq_true_eq] at h4 h5
  have hb := posM_bound (l := l) (by omega) (by intro h; subst h; simp at h3; omega)
  have hok : okM t l x w = true := by
    unfold okM
    rw [a1, Bool.true_and]
    exact decide_eq_true ⟨by omega, by omega, h4.1, h4.2, h5.1, h5.2⟩
  refine Ev.bind (implPositionOf_ev l x (by omega)) ?_
  rw [winM, if_pos hok]
  refine ev_eq (Ev.now _) ?_
  rw [wrap_id (by omega) (by omega), wrap_id (by omega) (by omega), mx_eq, mn_eq]

theorem specMin_eq (a b : Int) : spec_Min.f a b = some (min a b) := by
  unfold spec_Min.f
  by_cases h : b < a
  · rw [if_pos h]; congr 1; omega
  · rw [if_neg h]; congr 1; omega
theorem specMax_eq (a b : Int) : spec_Max.f a b = some (max a b) := by
  unfold spec_Max.f
  by_cases h : b > a
  · rw [if_pos h]; congr 1; omega
  · rw [if_neg h]; congr 1; omega
def workM (t l : List Int) (x w : Int) : Int := if okM t l x w = true then min (posM l + w) (t.length : Int) - max (posM l - w) 0 + 1 else 0
theorem specWorkOf_ev (t l : List Int) (x w : Int) (ht : t.length ≤ 1048576) (hl : l.length ≤ 1048577) : Ev (fun k => spec_WorkOf.f k t l x w) (workM t l x w) := by
  simp only [spec_WorkOf.f, specMin_eq, specMax_eq, Option.bind_some]
  refine Ev.bind (specOk_ev t l x w ht hl) (ev_ite (fun h => ?_) (fun h => ?_))
  · obtain ⟨h1, h2, h3, h4, h5⟩ := okM_facts h
    have hb := posM_bound (l := l) (by omega) (by intro h; subst h; simp at h2)
    refine Ev.bind (specPositionOf_ev l x (by omega)) ?_
    rw [workM, if_pos h]
    refine ev_eq (Ev.now _) ?_
    rw [wrap_id (n := posM l + w) (by omega) (by omega), wrap_id (n := posM l - w) (by omega) (by omega), wrap_id (n := min (t.length : Int) (posM l + w) - max 0 (posM l - w)) (by omega) (by omega), wrap_id (by omega) (by omega)]
    omega
  · rw [workM, if_neg h]; exact Ev.now _
theorem implWorkOf_ev (t l : List Int) (x w : Int) (ht : t.length ≤ 1048576) (hl : l.length ≤ 1048577) : Ev (fun k => impl_WorkOf.f k t l x w) (workM t l x w) := by
  simp only [impl_WorkOf.f]
  refine Ev.bind (implWindow_ev t l x w ht hl) ?_
  by_cases h : okM t l x w = true
  · obtain ⟨h1, h2, h3, h4, h5⟩ := okM_facts h
    have hb := posM_bound (l := l) (by omega) (by intro h; subst h; simp at h2)
    rw [winM, if_pos h, workM, if_pos h]
    refine ev_pos rfl (ev_eq (Ev.now _) ?_)
    rw [wrap_id (n := min (posM l + w) (t.length : Int) - max (posM l - w) 0) (by omega) (by omega), wrap_id (by omega) (by omega)]
  · rw [winM, if_neg h, workM, if_neg h]
    exact ev_neg (by simp) (Ev.now _)

theorem FnExactWorkOf : ∀ (l0 : List (Int)) (l1_0 : List (Int)) (a1_1 : Int) (a2 : Int), (l0.length ≤ maxLen) → (∀ x ∈ l0, (Lit.int .i64 x).wf = true) → (l1_0.length ≤ maxLen) → (∀ x ∈ l1_0, (Lit.int .i64 x).wf = true) → (Lit.int .i64 a1_1).wf = true → (Lit.int .i64 a2).wf = true → ∃ k, laws_FnExactWorkOf.f k l0 l1_0 a1_1 a2 = some true := by
  intro t l x p _ _ hlm _ _ _
  refine Ev.rounds ?_
  simp only [laws_FnExactWorkOf.f]
  refine ev_ite (fun _ => Ev.now _) (fun h => ?_)
  have ht : t.length ≤ 1048576 := by omega
  obtain ⟨r, hr, _, hb⟩ := szFollower_some l x 1048576 (by omega) (by omega) hlm
  refine ev_val hr (ev_ite (fun _ => Ev.now _) (fun h => ?_))
  obtain ⟨_, hl⟩ := hb h
  refine Ev.bind (toIntS_ev t (by omega)) (Ev.bind (toFollower_ev l x (by omega)) (Ev.bind (specWorkOf_ev t l x p ht (by omega)) (Ev.bind (toIntS_ev t (by omega)) (Ev.bind (toFollower_ev l x (by omega)) (Ev.bind (implWorkOf_ev t l x p ht (by omega)) (ev_pos rfl ?_))))))
  refine Ev.bind (toIntS_ev t (by omega)) (Ev.bind (eqIntS_ev t (by omega)) (ev_pos (by trivial) ?_))
  exact Ev.bind (toFollower_ev l x (by omega)) (Ev.bind (eqFollower_ev l x (by omega)) (ev_pos (by trivial) (Ev.now _)))
end Go.Proofs.Ytnaoogkklkhpnaa.Pure
