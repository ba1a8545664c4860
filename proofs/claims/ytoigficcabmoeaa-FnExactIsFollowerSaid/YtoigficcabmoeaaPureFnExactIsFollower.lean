/-
IsFollower of the program and of the reference: the same answer.
Conditions: none.
-/
import Derived.Test.YtoigficcabmoeaaPFnExactIsFollowerx4
import Derived.Test.YtoigficcabmoeaaBase
namespace Go.Proofs.Ytoigficcabmoeaa.Pure
open Go.RowKit Go.Proofs.Ytoigficcabmoeaa.PFnExactIsFollower Go.Proofs.YtoigficcabmoeaaW.PrintWords Go.Proofs.YtoigficcabmoeaaW.PrintLast Go.Proofs.YtoigficcabmoeaaW.PrintMore Go.Proofs.Ytoigficcabmoeaa.Base
set_option linter.unusedVariables false
set_option linter.unusedSimpArgs false

theorem l1In_eq (a b c : Int) : spec_l1In.f a b c = some (decide (b ≤ a ∧ a ≤ c)) := by
  unfold spec_l1In.f
  by_cases h1 : b ≤ a <;> by_cases h2 : a ≤ c <;> simp [h1, h2]
theorem InRange_eq (a b c : Int) : impl_InRange.f a b c = some (decide (b ≤ a ∧ a ≤ c)) := by
  unfold impl_InRange.f
  by_cases h1 : b ≤ a <;> by_cases h2 : a ≤ c <;> simp [h1, h2]

theorem toIntS_l0 (suf : List Int) : ∀ pre : List Int, (pre ++ suf).length ≤ 35184372088832 → Ev (fun k => laws_toIntS.l0 k (pre ++ suf) (pre ++ List.replicate suf.length 0) (pre.length : Int)) (pre ++ suf) := by
  induction suf with
  | nil =>
    intro pre h
    refine ev_tail ?_
    simp only [laws_toIntS.l0]
    refine ev_neg (by simp) ?_
    simpa using Ev.now pre
  | cons x t ih =>
    intro pre h
    have e := ih (pre ++ [x]) (by simpa using h)
    simp only [List.length_append, List.length_cons] at h
    refine ev_tail ?_
    simp only [laws_toIntS.l0]
    refine ev_pos (by simp; omega) (ev_pos (by omega) (ev_pos (by simp; omega) ?_))
    rw [rd_mid, List.length_cons, List.replicate_succ, set_mid, wrap_succ (by omega), snoc_cons pre x t, snoc_cons pre x (List.replicate t.length 0), ← length_snoc pre x]
    exact e
theorem toIntS_ev (l : List Int) (h : l.length ≤ 35184372088832) : Ev (fun k => laws_toIntS.f k l) l := by
  simp only [laws_toIntS.f]
  refine ev_pos (by omega) (ev_pos (by omega) ?_)
  exact toIntS_l0 l [] (by simpa using h)

theorem eqIntS_l0 (suf : List Int) : ∀ pre : List Int, (pre ++ suf).length ≤ 35184372088832 → Ev (fun k => laws_eqIntS.l0 k (pre ++ suf) (pre ++ suf) (pre.length : Int)) true := by
  induction suf with
  | nil =>
    intro pre h
    refine ev_tail ?_
    simp only [laws_eqIntS.l0]
    exact ev_neg (by simp) (Ev.now true)
  | cons x t ih =>
    intro pre h
    have e := ih (pre ++ [x]) (by simpa using h)
    simp only [List.length_append, List.length_cons] at h
    refine ev_tail ?_
    simp only [laws_eqIntS.l0]
    refine ev_pos (by simp; omega) (ev_pos (by omega) (ev_pos (by simp; omega) (ev_pos (by trivial) ?_)))
    rw [wrap_succ (by omega), snoc_cons pre x t, ← length_snoc pre x]
    exact e
theorem eqIntS_ev (l : List Int) (h : l.length ≤ 35184372088832) : Ev (fun k => laws_eqIntS.f k l l) true := by
  simp only [laws_eqIntS.f]
  refine ev_pos (by trivial) ?_
  exact eqIntS_l0 l [] (by simpa using h)

theorem szIntS_some (l : List Int) (b : Int) (hb0 : 0 ≤ b) (hb : b ≤ 1048576) (h : l.length ≤ maxLen) : ∃ r, laws_szIntS.f l b = some r ∧ r ≤ b ∧ (¬ r < 0 → 0 ≤ r ∧ (l.length : Int) ≤ b) := by
  have hm : maxLen = 9223372036854775807 := rfl
  unfold laws_szIntS.f
  rw [wrap_id (by omega) (by omega)]
  by_cases h0 : b - (l.length : Int) < 0
  · exact ⟨-1, by rw [if_pos h0], by omega, fun h => absurd (by omega) h⟩
  · exact ⟨_, by rw [if_neg h0], by omega, fun _ => by omega⟩

theorem szFollower_some (l : List Int) (x b : Int) (hb0 : 0 ≤ b) (hb : b ≤ 1048576) (h : l.length ≤ maxLen) : ∃ r, laws_szFollower.f l x b = some r ∧ r ≤ b ∧ (¬ r < 0 → 0 ≤ r ∧ (l.length : Int) ≤ b) := by
  obtain ⟨r, hr, h1, h2⟩ := szIntS_some l b hb0 hb h
  unfold laws_szFollower.f
  rw [hr]
  simp only [Option.bind_some]
  by_cases h0 : r < 0
  · exact ⟨-1, by rw [if_pos h0], by omega, fun h => absurd (by omega) h⟩
  · exact ⟨r, by rw [if_neg h0], h1, h2⟩

theorem toFollower_ev (l : List Int) (x : Int) (h : l.length ≤ 35184372088832) : Ev (fun k => laws_toFollower.f k l x) (l, x) := by
  simp only [laws_toFollower.f]
  exact Ev.bind (toIntS_ev l h) (Ev.now _)

theorem eqFollower_ev (l : List Int) (x : Int) (h : l.length ≤ 35184372088832) : Ev (fun k => laws_eqFollower.f k l x l x) true := by
  simp only [laws_eqFollower.f]
  exact Ev.bind (eqIntS_ev l h) (ev_pos (by trivial) (ev_pos (by trivial) (Ev.now _)))

def folC (l : List Int) (i : Int) : Bool := decide (0 ≤ rd l i ∧ rd l i ≤ 1000 ∧ (0 < i → -1 ≤ wrap64 (rd l i - rd l (i - 1)) ∧ wrap64 (rd l i - rd l (i - 1)) ≤ 1))
def folM (t l : List Int) (x : Int) : Bool := allF (folC l) (decide ((t.length : Int) ≤ 40 ∧ (l.length : Int) = (t.length : Int) + 1 ∧ 0 ≤ x ∧ x ≤ 1000)) l.length 0
theorem specIsFollower_ev (t l : List Int) (x : Int) (ht : t.length ≤ 1048576) (h : l.length ≤ 1048577) : Ev (fun k => spec_IsFollower.f k t l x) (folM t l x) := by
  simp only [spec_IsFollower.f]
  refine ev_all (L := fun k i => spec_IsFollower.l0 k t i l x) (n := l.length) (fun i hi => ?_) ?_ l.length 0 (by omega)
  · have w1 : wrap64 ((i : Int) + 1) = (i : Int) + 1 := wrap_id (by omega) (by omega)
    have w2 : wrap64 ((i : Int) - 1) = (i : Int) - 1 := wrap_id (by omega) (by omega)
    constructor
    · intro hc r e
      simp only [folC, decide_eq_true_eq] at hc
      obtain ⟨h1, h2, h5⟩ := hc
      refine ev_tail ?_
      simp only [spec_IsFollower.l0, l1In_eq, Option.bind_some, w1, w2]
      refine ev_pos (by omega) (ev_pos (by omega) (ev_pos (by simpa using ⟨h1, h2⟩) ?_))
      refine ev_ite (fun h0 => ?_) (fun _ => e)
      exact ev_pos (by omega) (ev_pos (by omega) (ev_pos (by simpa using h5 h0) e))
    · intro hc
      simp only [folC, decide_eq_false_iff_not] at hc
      refine ev_tail ?_
      simp only [spec_IsFollower.l0, l1In_eq, Option.bind_some, w1, w2]
      refine ev_pos (by omega) (ev_pos (by omega) (ev_ite (fun h1 => ?_) (fun _ => Ev.now _)))
      simp only [decide_eq_true_eq] at h1
      refine ev_ite (fun h0 => ?_) (fun h0 => absurd ⟨h1.1, h1.2, fun h => absurd h h0⟩ hc)
      refine ev_pos (by omega) (ev_pos (by omega) (ev_ite (fun h3 => ?_) (fun _ => Ev.now _)))
      simp only [decide_eq_true_eq] at h3
      exact absurd ⟨h1.1, h1.2, fun _ => h3⟩ hc
  · refine ev_tail ?_
    have w3 : wrap64 ((t.length : Int) + 1) = (t.length : Int) + 1 := wrap_id (by omega) (by omega)
    simp only [spec_IsFollower.l0, l1In_eq, Option.bind_some, w3]
    refine ev_neg (by omega) (ev_ite (fun h1 => ev_ite (fun h2 => ?_) (fun h2 => ?_)) (fun h1 => ?_))
    · simpa [h1, h2] using Ev.now _
    · simpa [h1, h2] using Ev.now _
    · simpa [h1] using Ev.now _
theorem implIsFollower_ev (t l : List Int) (x : Int) (ht : t.length ≤ 1048576) (h : l.length ≤ 1048577) : Ev (fun k => impl_IsFollower.f k t l x) (folM t l x) := by
  simp only [impl_IsFollower.f]
  refine ev_all (L := fun k i => impl_IsFollower.l0 k t l (l.length : Int) i l x) (n := l.length) (fun i hi => ?_) ?_ l.length 0 (by omega)
  · have w1 : wrap64 ((i : Int) + 1) = (i : Int) + 1 := wrap_id (by omega) (by omega)
    have w2 : wrap64 ((i : Int) - 1) = (i : Int) - 1 := wrap_id (by omega) (by omega)
    constructor
    · intro hc r e
      simp only [folC, decide_eq_true_eq] at hc
      obtain ⟨h1, h2, h5⟩ := hc
      refine ev_tail ?_
      simp only [impl_IsFollower.l0, InRange_eq, Option.bind_some, w1, w2]
      refine ev_pos (by omega) (ev_pos (by omega) (ev_pos (by omega) (ev_pos (by simpa using ⟨h1, h2⟩) ?_)))
      refine ev_ite (fun h0 => ?_) (fun _ => e)
      exact ev_pos (by omega) (ev_pos (by omega) (ev_pos (by simpa using h5 h0) e))
    · intro hc
      simp only [folC, decide_eq_false_iff_not] at hc
      refine ev_tail ?_
      simp only [impl_IsFollower.l0, InRange_eq, Option.bind_some, w1, w2]
      refine ev_pos (by omega) (ev_pos (by omega) (ev_pos (by omega) (ev_ite (fun h1 => ?_) (fun _ => Ev.now _))))
      simp only [decide_eq_true_eq] at h1
      refine ev_ite (fun h0 => ?_) (fun h0 => absurd ⟨h1.1, h1.2, fun h => absurd h h0⟩ hc)
      refine ev_pos (by omega) (ev_pos (by omega) (ev_ite (fun h3 => ?_) (fun _ => Ev.now _)))
      simp only [decide_eq_true_eq] at h3
      exact absurd ⟨h1.1, h1.2, fun _ => h3⟩ hc
  · refine ev_tail ?_
    have w3 : wrap64 ((t.length : Int) + 1) = (t.length : Int) + 1 := wrap_id (by omega) (by omega)
    simp only [impl_IsFollower.l0, InRange_eq, Option.bind_some, w3]
    refine ev_neg (by omega) (ev_ite (fun h1 => ev_ite (fun h2 => ?_) (fun h2 => ?_)) (fun h1 => ?_))
    · simpa [h1, h2] using Ev.now _
    · simpa [h1, h2] using Ev.now _
    · simpa [h1] using Ev.now _

theorem FnExactIsFollower : ∀ (l0 : List (Int)) (l1_0 : List (Int)) (a1_1 : Int), (l0.length ≤ maxLen) → (∀ x ∈ l0, (Lit.int .i64 x).wf = true) → (l1_0.length ≤ maxLen) → (∀ x ∈ l1_0, (Lit.int .i64 x).wf = true) → (Lit.int .i64 a1_1).wf = true → ∃ k, laws_FnExactIsFollower.f k l0 l1_0 a1_1 = some true := by
  intro t l x ht _ hl _ _
  refine Ev.rounds ?_
  simp only [laws_FnExactIsFollower.f]
  refine ev_ite (fun _ => Ev.now _) (fun h0 => ?_)
  obtain ⟨r, hr, _, hb⟩ := szFollower_some l x 1048576 (by omega) (by omega) hl
  refine ev_val hr (ev_ite (fun _ => Ev.now _) (fun h => ?_))
  obtain ⟨_, h1⟩ := hb h
  refine Ev.bind (toIntS_ev t (by omega)) (Ev.bind (toFollower_ev l x (by omega)) (Ev.bind (specIsFollower_ev t l x (by omega) (by omega)) ?_))
  refine Ev.bind (toIntS_ev t (by omega)) (Ev.bind (toFollower_ev l x (by omega)) (Ev.bind (implIsFollower_ev t l x (by omega) (by omega)) (ev_neg (by simp) ?_)))
  refine Ev.bind (toIntS_ev t (by omega)) (Ev.bind (eqIntS_ev t (by omega)) (ev_pos (by trivial) ?_))
  exact Ev.bind (toFollower_ev l x (by omega)) (Ev.bind (eqFollower_ev l x (by omega)) (ev_pos (by trivial) (Ev.now _)))
end Go.Proofs.Ytoigficcabmoeaa.Pure
