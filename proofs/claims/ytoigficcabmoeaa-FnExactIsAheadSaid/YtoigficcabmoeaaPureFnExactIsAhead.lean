/-
IsAhead of the program and of the reference: the same answer.
Conditions: none.
-/
import Derived.Test.YtoigficcabmoeaaPFnExactIsAheadx3
import Derived.Test.YtoigficcabmoeaaBase
namespace Go.Proofs.Ytoigficcabmoeaa.Pure
open Go.RowKit Go.Proofs.Ytoigficcabmoeaa.PFnExactIsAhead Go.Proofs.YtoigficcabmoeaaW.PrintWords Go.Proofs.YtoigficcabmoeaaW.PrintLast Go.Proofs.YtoigficcabmoeaaW.PrintMore Go.Proofs.Ytoigficcabmoeaa.Base
set_option linter.unusedVariables false
set_option linter.unusedSimpArgs false

theorem l1In_eq (a b c : Int) : spec_l1In.f a b c = some (decide (b ≤ a ∧ a ≤ c)) := by
  unfold spec_l1In.f
  by_cases h1 : b ≤ a <;> by_cases h2 : a ≤ c <;> simp [h1, h2]
theorem InRange_eq (a b c : Int) : impl_InRange.f a b c = some (decide (b ≤ a ∧ a ≤ c)) := by
  unfold impl_InRange.f
  by_cases h1 : b ≤ a <;> by_cases h2 : a ≤ c <;> simp [h1, h2]

theorem toIntS_l0 (suf : List Int) : ∀ pre : List Int, (pre ++ suf).length ≤ 35184372088832 → Ev (fun k => laws_toIntS.l0 k (pre ++ suf) (pre ++ List.replicate suf.length 0) (pre.length : Int)) (pre ++ suf) := by
  induction suf with
  | nil =>
    intro pre h
    refine ev_tail ?_
    simp only [laws_toIntS.l0]
    refine ev_neg (by simp) ?_
    simpa using Ev.now pre
  | cons x t ih =>
    intro pre h
    have e := ih (pre ++ [x]) (by simpa using h)
    simp only [List.length_append, List.length_cons] at h
    refine ev_tail ?_
    simp only [laws_toIntS.l0]
    refine ev_pos (by simp; omega) (ev_pos (by omega) (ev_pos (by simp; omega) ?_))
    rw [rd_mid, List.length_cons, List.replicate_succ, set_mid, wrap_succ (by omega), snoc_cons pre x t, snoc_cons pre x (List.replicate t.length 0), ← length_snoc pre x]
    exact e
theorem toIntS_ev (l : List Int) (h : l.length ≤ 35184372088832) : Ev (fun k => laws_toIntS.f k l) l := by
  simp only [laws_toIntS.f]
  refine ev_pos (by omega) (ev_pos (by omega) ?_)
  exact toIntS_l0 l [] (by simpa using h)

theorem eqIntS_l0 (suf : List Int) : ∀ pre : List Int, (pre ++ suf).length ≤ 35184372088832 → Ev (fun k => laws_eqIntS.l0 k (pre ++ suf) (pre ++ suf) (pre.length : Int)) true := by
  induction suf with
  | nil =>
    intro pre h
    refine ev_tail ?_
    simp only [laws_eqIntS.l0]
    exact ev_neg (by simp) (Ev.now true)
  | cons x t ih =>
    intro pre h
    have e := ih (pre ++ [x]) (by simpa using h)
    simp only [List.length_append, List.length_cons] at h
    refine ev_tail ?_
    simp only [laws_eqIntS.l0]
    refine ev_pos (by simp; omega) (ev_pos (by omega) (ev_pos (by simp; omega) (ev_pos (by trivial) ?_)))
    rw [wrap_succ (by omega), snoc_cons pre x t, ← length_snoc pre x]
    exact e
theorem eqIntS_ev (l : List Int) (h : l.length ≤ 35184372088832) : Ev (fun k => laws_eqIntS.f k l l) true := by
  simp only [laws_eqIntS.f]
  refine ev_pos (by trivial) ?_
  exact eqIntS_l0 l [] (by simpa using h)

theorem szIntS_some (l : List Int) (b : Int) (hb0 : 0 ≤ b) (hb : b ≤ 1048576) (h : l.length ≤ maxLen) : ∃ r, laws_szIntS.f l b = some r ∧ r ≤ b ∧ (¬ r < 0 → 0 ≤ r ∧ (l.length : Int) ≤ b) := by
  have hm : maxLen = 9223372036854775807 := rfl
  unfold laws_szIntS.f
  rw [wrap_id (by omega) (by omega)]
  by_cases h0 : b - (l.length : Int) < 0
  · exact ⟨-1, by rw [if_pos h0], by omega, fun h => absurd (by omega) h⟩
  · exact ⟨_, by rw [if_neg h0], by omega, fun _ => by omega⟩

theorem szCue_some (l m : List Int) (b : Int) (hb0 : 0 ≤ b) (hb : b ≤ 1048576) (h : l.length ≤ maxLen) (h' : m.length ≤ maxLen) : ∃ r, laws_szCue.f l m b = some r ∧ r ≤ b ∧ (¬ r < 0 → 0 ≤ r ∧ (l.length : Int) ≤ b ∧ (m.length : Int) ≤ b) := by
  obtain ⟨r, hr, h1, h2⟩ := szIntS_some l b hb0 hb h
  unfold laws_szCue.f
  rw [hr]
  simp only [Option.bind_some]
  by_cases h0 : r < 0
  · exact ⟨-1, by rw [if_pos h0], by omega, fun h => absurd (by omega) h⟩
  · rw [if_neg h0]
    obtain ⟨h3, h4⟩ := h2 h0
    obtain ⟨r', hr', h5, h6⟩ := szIntS_some m r h3 (by omega) h'
    rw [hr']
    simp only [Option.bind_some]
    by_cases h7 : r' < 0
    · exact ⟨-1, by rw [if_pos h7], by omega, fun h => absurd (by omega) h⟩
    · obtain ⟨h8, h9⟩ := h6 h7
      exact ⟨r', by rw [if_neg h7], by omega, fun _ => ⟨h8, h4, by omega⟩⟩
theorem toCue_ev (l m : List Int) (h : l.length ≤ 35184372088832) (h' : m.length ≤ 35184372088832) : Ev (fun k => laws_toCue.f k l m) (l, m) := by
  simp only [laws_toCue.f]
  exact Ev.bind (toIntS_ev l h) (Ev.bind (toIntS_ev m h') (Ev.now _))
theorem eqCue_ev (l m : List Int) (h : l.length ≤ 35184372088832) (h' : m.length ≤ 35184372088832) : Ev (fun k => laws_eqCue.f k l m l m) true := by
  simp only [laws_eqCue.f]
  exact Ev.bind (eqIntS_ev l h) (ev_pos (by trivial) (Ev.bind (eqIntS_ev m h') (ev_pos (by trivial) (Ev.now _))))

def cueC (l : List Int) (i : Int) : Bool := decide (0 ≤ rd l i ∧ rd l i ≤ 2000 ∧ (0 < i → rd l (i - 1) ≤ rd l i))
def cueM (t l : List Int) : Bool := allF (cueC l) (decide ((t.length : Int) ≤ 40) && ((l.length : Int) == (t.length : Int))) l.length 0
theorem specIsCue_ev (t l : List Int) (h : l.length ≤ 1048576) : Ev (fun k => spec_IsCue.f k t l) (cueM t l) := by
  simp only [spec_IsCue.f]
  refine ev_all (L := fun k i => spec_IsCue.l0 k i t l) (n := l.length) (fun i hi => ?_) ?_ l.length 0 (by omega)
  · have w1 : wrap64 ((i : Int) + 1) = (i : Int) + 1 := wrap_id (by omega) (by omega)
    have w2 : wrap64 ((i : Int) - 1) = (i : Int) - 1 := wrap_id (by omega) (by omega)
    constructor
    · intro hc r e
      simp only [cueC, decide_eq_true_eq] at hc
      obtain ⟨h1, h2, h5⟩ := hc
      refine ev_tail ?_
      simp only [spec_IsCue.l0, l1In_eq, Option.bind_some, w1, w2]
      refine ev_pos (by omega) (ev_pos (by omega) (ev_pos (by simpa using ⟨h1, h2⟩) ?_))
      refine ev_ite (fun h0 => ?_) (fun _ => e)
      have := h5 h0
      exact ev_pos (by omega) (ev_pos (by omega) (ev_neg (by omega) e))
    · intro hc
      simp only [cueC, decide_eq_false_iff_not] at hc
      refine ev_tail ?_
      simp only [spec_IsCue.l0, l1In_eq, Option.bind_some, w1, w2]
      refine ev_pos (by omega) (ev_pos (by omega) (ev_ite (fun h1 => ?_) (fun _ => Ev.now _)))
      simp only [decide_eq_true_eq] at h1
      refine ev_ite (fun h0 => ?_) (fun h0 => absurd ⟨h1.1, h1.2, fun h => absurd h h0⟩ hc)
      refine ev_pos (by omega) (ev_pos (by omega) (ev_ite (fun _ => Ev.now _) (fun h3 => ?_)))
      exact absurd ⟨h1.1, h1.2, fun _ => by omega⟩ hc
  · refine ev_tail ?_
    simp only [spec_IsCue.l0]
    refine ev_neg (by omega) (ev_ite (fun h => ?_) (fun h => ?_))
    · simpa [h] using Ev.now _
    · simpa [h] using Ev.now _
theorem implIsCue_ev (t l : List Int) (h : l.length ≤ 1048576) : Ev (fun k => impl_IsCue.f k t l) (cueM t l) := by
  simp only [impl_IsCue.f]
  refine ev_all (L := fun k i => impl_IsCue.l0 k l (l.length : Int) i t l) (n := l.length) (fun i hi => ?_) ?_ l.length 0 (by omega)
  · have w1 : wrap64 ((i : Int) + 1) = (i : Int) + 1 := wrap_id (by omega) (by omega)
    have w2 : wrap64 ((i : Int) - 1) = (i : Int) - 1 := wrap_id (by omega) (by omega)
    constructor
    · intro hc r e
      simp only [cueC, decide_eq_true_eq] at hc
      obtain ⟨h1, h2, h5⟩ := hc
      refine ev_tail ?_
      simp only [impl_IsCue.l0, InRange_eq, Option.bind_some, w1, w2]
      refine ev_pos (by omega) (ev_pos (by omega) (ev_pos (by omega) (ev_pos (by simpa using ⟨h1, h2⟩) ?_)))
      refine ev_ite (fun h0 => ?_) (fun _ => e)
      have := h5 h0
      exact ev_pos (by omega) (ev_pos (by omega) (ev_neg (by omega) e))
    · intro hc
      simp only [cueC, decide_eq_false_iff_not] at hc
      refine ev_tail ?_
      simp only [impl_IsCue.l0, InRange_eq, Option.bind_some, w1, w2]
      refine ev_pos (by omega) (ev_pos (by omega) (ev_pos (by omega) (ev_ite (fun h1 => ?_) (fun _ => Ev.now _))))
      simp only [decide_eq_true_eq] at h1
      refine ev_ite (fun h0 => ?_) (fun h0 => absurd ⟨h1.1, h1.2, fun h => absurd h h0⟩ hc)
      refine ev_pos (by omega) (ev_pos (by omega) (ev_ite (fun _ => Ev.now _) (fun h3 => ?_)))
      exact absurd ⟨h1.1, h1.2, fun _ => by omega⟩ hc
  · refine ev_tail ?_
    simp only [impl_IsCue.l0]
    refine ev_neg (by omega) (ev_ite (fun h => ?_) (fun h => ?_))
    · simpa [h] using Ev.now _
    · simpa [h] using Ev.now _

def aheadM (t l : List Int) (at0 reached : Int) : Bool := cueM t l && (decide (reached ≤ (l.length : Int)) && (decide (reached < 1) || decide (at0 > rd l (reached - 1))))
theorem specIsAhead_ev (t l : List Int) (at0 x y z reached : Int) (h : l.length ≤ 1048576) : Ev (fun k => spec_IsAhead.f k t l at0 x y z reached) (aheadM t l at0 reached) := by
  simp only [spec_IsAhead.f, aheadM]
  refine Ev.bind (specIsCue_ev t l h) (ev_ite (fun h1 => ev_ite (fun h2 => ?_) (fun h2 => ev_ite (fun h3 => ?_) (fun h3 => ?_))) (fun h1 => ?_))
  · exact ev_eq (Ev.now _) (by simp; omega)
  · exact ev_eq (Ev.now _) (by rw [h1]; simp; omega)
  · have hw : wrap64 (reached - 1) = reached - 1 := wrap_id (by omega) (by omega)
    rw [hw]
    exact ev_pos (by omega) (ev_pos (by omega) (ev_eq (Ev.now _) (by rw [h1, decide_eq_true (by omega : reached ≤ (l.length : Int)), decide_eq_false h3]; simp)))
  · exact ev_eq (Ev.now _) (by rw [Bool.eq_false_iff.mpr h1]; simp)
theorem implIsAhead_ev (t l : List Int) (at0 x y z reached : Int) (h : l.length ≤ 1048576) : Ev (fun k => impl_IsAhead.f k t l at0 x y z reached) (aheadM t l at0 reached) := by
  simp only [impl_IsAhead.f, aheadM]
  refine Ev.bind (implIsCue_ev t l h) (ev_ite (fun h1 => ev_ite (fun h2 => ?_) (fun h2 => ev_ite (fun h3 => ?_) (fun h3 => ?_))) (fun h1 => ?_))
  · exact ev_eq (Ev.now _) (by simp; omega)
  · exact ev_eq (Ev.now _) (by rw [h1]; simp; omega)
  · have hw : wrap64 (reached - 1) = reached - 1 := wrap_id (by omega) (by omega)
    rw [hw]
    exact ev_pos (by omega) (ev_pos (by omega) (ev_eq (Ev.now _) (by rw [h1, decide_eq_true (by omega : reached ≤ (l.length : Int)), decide_eq_false h3]; simp)))
  · exact ev_eq (Ev.now _) (by rw [Bool.eq_false_iff.mpr h1]; simp)

theorem FnExactIsAhead : ∀ (l0_0 : List (Int)) (l0_1 : List (Int)) (a1_0 : Int) (a1_1 : Int) (a1_2 : Int) (a1_3 : Int) (a2 : Int), (l0_0.length ≤ maxLen) → (∀ x ∈ l0_0, (Lit.int .i64 x).wf = true) → (l0_1.length ≤ maxLen) → (∀ x ∈ l0_1, (Lit.int .i64 x).wf = true) → (Lit.int .i64 a1_0).wf = true → (Lit.int .i64 a1_1).wf = true → (Lit.int .i64 a1_2).wf = true → (Lit.int .i64 a1_3).wf = true → (Lit.int .i64 a2).wf = true → ∃ k, laws_FnExactIsAhead.f k l0_0 l0_1 a1_0 a1_1 a1_2 a1_3 a2 = some true := by
  intro t l a x y z reached ht _ hl _ _ _ _ _ _
  refine Ev.rounds ?_
  simp only [laws_FnExactIsAhead.f, laws_toEvent.f]
  obtain ⟨r, hr, _, hb⟩ := szCue_some t l 1048576 (by omega) (by omega) ht hl
  refine ev_val hr (ev_ite (fun _ => Ev.now _) (fun h => ?_))
  obtain ⟨_, h1, h2⟩ := hb h
  refine Ev.bind (toCue_ev t l (by omega) (by omega)) (ev_val rfl (Ev.bind (specIsAhead_ev t l a x y z reached (by omega)) ?_))
  refine Ev.bind (toCue_ev t l (by omega) (by omega)) (ev_val rfl (Ev.bind (implIsAhead_ev t l a x y z reached (by omega)) (ev_neg (by simp) ?_)))
  exact Ev.bind (toCue_ev t l (by omega) (by omega)) (Ev.bind (eqCue_ev t l (by omega) (by omega)) (ev_pos (by trivial) (Ev.now _)))
end Go.Proofs.Ytoigficcabmoeaa.Pure
