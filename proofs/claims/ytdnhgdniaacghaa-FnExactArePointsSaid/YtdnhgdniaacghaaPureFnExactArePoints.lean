/-
ArePoints of the program and of the reference: the same answer.
Conditions: none.
-/
import Derived.Test.YtdnhgdniaacghaaPFnExactArePointsx5
import Derived.Test.YtdnhgdniaacghaaBase
namespace Go.Proofs.Ytdnhgdniaacghaa.Pure
open Go.RowKit Go.Proofs.Ytdnhgdniaacghaa.PFnExactArePoints Go.Proofs.YtdnhgdniaacghaaW.PrintWords Go.Proofs.YtdnhgdniaacghaaW.PrintLast Go.Proofs.YtdnhgdniaacghaaW.PrintMore Go.Proofs.Ytdnhgdniaacghaa.Base
set_option linter.unusedVariables false
set_option linter.unusedSimpArgs false

theorem l1In_eq (a b c : Int) : spec_l1In.f a b c = some (decide (b ≤ a ∧ a ≤ c)) := by
  unfold spec_l1In.f
  by_cases h1 : b ≤ a <;> by_cases h2 : a ≤ c <;> simp [h1, h2]
theorem InRange_eq (a b c : Int) : impl_InRange.f a b c = some (decide (b ≤ a ∧ a ≤ c)) := by
  unfold impl_InRange.f
  by_cases h1 : b ≤ a <;> by_cases h2 : a ≤ c <;> simp [h1, h2]

def cvPoint (x : S52) : S50 := ⟨x.f0, x.f1⟩
theorem rdLPoint (pre : List S52) (x : S52) (t : List S52) : rd_T52 (pre ++ x :: t) ((pre.length : Nat) : Int) = x := getD_mid pre x t z52
theorem rdIPoint (pre : List S50) (x : S50) (t : List S50) : rd_T50 (pre ++ x :: t) ((pre.length : Nat) : Int) = x := getD_mid pre x t z50
theorem toPointS_l0 (suf : List S52) : ∀ pre : List S52, (pre ++ suf).length ≤ 1048576 → Ev (fun k => laws_toPointS.l0 k (pre ++ suf) (pre.map cvPoint ++ List.replicate suf.length z50) (pre.length : Int)) ((pre ++ suf).map cvPoint) := by
  induction suf with
  | nil =>
    intro pre h
    refine ev_tail ?_
    simp only [laws_toPointS.l0]
    refine ev_neg (by simp) ?_
    exact ev_eq (Ev.now _) (by simp)
  | cons x t ih =>
    intro pre h
    have e := ih (pre ++ [x]) (by simpa using h)
    simp only [List.length_append, List.length_cons] at h
    refine ev_tail ?_
    simp only [laws_toPointS.l0, laws_toPoint.f, Option.bind_some]
    refine ev_pos (by simp; omega) (ev_pos (by omega) (ev_pos (by simp; omega) ?_))
    rw [rdLPoint, List.length_cons, List.replicate_succ]
    have e1 : (pre.map cvPoint ++ z50 :: List.replicate t.length z50).set ((pre.length : Nat) : Int).toNat (⟨x.f0, x.f1⟩ : S50) = (pre ++ [x]).map cvPoint ++ List.replicate t.length z50 := by
      simp [cvPoint]
    rw [e1, wrap_succ (by omega), snoc_cons pre x t, ← length_snoc pre x]
    exact e
theorem toPointS_ev (l : List S52) (h : l.length ≤ 1048576) : Ev (fun k => laws_toPointS.f k l) (l.map cvPoint) := by
  simp only [laws_toPointS.f]
  refine ev_pos (by omega) (ev_pos (by omega) ?_)
  exact toPointS_l0 l [] (by simpa using h)

theorem eqPointS_l0 (suf : List S50) : ∀ pre : List S50, (pre ++ suf).length ≤ 1048576 → Ev (fun k => laws_eqPointS.l0 k (pre ++ suf) (pre ++ suf) (pre.length : Int)) true := by
  induction suf with
  | nil =>
    intro pre h
    refine ev_tail ?_
    simp only [laws_eqPointS.l0]
    exact ev_neg (by simp) (Ev.now true)
  | cons x t ih =>
    intro pre h
    have e := ih (pre ++ [x]) (by simpa using h)
    simp only [List.length_append, List.length_cons] at h
    refine ev_tail ?_
    simp only [laws_eqPointS.l0, laws_eqPoint.f, if_true, Option.bind_some]
    refine ev_pos (by simp; omega) (ev_pos (by omega) (ev_pos (by simp; omega) ?_))
    rw [wrap_succ (by omega), snoc_cons pre x t, ← length_snoc pre x]
    exact e
theorem eqPointS_ev (l : List S50) (h : l.length ≤ 1048576) : Ev (fun k => laws_eqPointS.f k l l) true := by
  simp only [laws_eqPointS.f]
  refine ev_pos (by trivial) ?_
  exact eqPointS_l0 l [] (by simpa using h)

def apC (l : List S50) (i : Int) : Bool := decide (0 ≤ (rd_T50 l i).f0 ∧ (rd_T50 l i).f0 ≤ 2000 ∧ 0 ≤ (rd_T50 l i).f1 ∧ (rd_T50 l i).f1 ≤ 10000000 ∧ (0 < i → (rd_T50 l (i - 1)).f0 < (rd_T50 l i).f0 ∧ (rd_T50 l (i - 1)).f1 < (rd_T50 l i).f1))
def arePM (l : List S50) : Bool := allF (apC l) (decide ((l.length : Int) ≤ 60)) l.length 0
theorem specArePoints_ev (l : List S50) (h : l.length ≤ 1048576) : Ev (fun k => spec_ArePoints.f k l) (arePM l) := by
  simp only [spec_ArePoints.f]
  refine ev_all (L := fun k i => spec_ArePoints.l0 k l i) (n := l.length) (fun i hi => ?_) ?_ l.length 0 (by omega)
  · have w1 : wrap64 ((i : Int) + 1) = (i : Int) + 1 := wrap_id (by omega) (by omega)
    have w2 : wrap64 ((i : Int) - 1) = (i : Int) - 1 := wrap_id (by omega) (by omega)
    constructor
    · intro hc r e
      simp only [apC, decide_eq_true_eq] at hc
      obtain ⟨h1, h2, h3, h4, h5⟩ := hc
      refine ev_tail ?_
      simp only [spec_ArePoints.l0, l1In_eq, Option.bind_some, w1, w2]
      refine ev_pos (by omega) (ev_pos (by omega) (ev_pos (by simpa using ⟨h1, h2⟩) (ev_pos (by simpa using ⟨h3, h4⟩) ?_)))
      refine ev_ite (fun h0 => ?_) (fun _ => e)
      have := h5 h0
      exact ev_pos (by omega) (ev_pos (by omega) (ev_neg (by omega) (ev_neg (by omega) e)))
    · intro hc
      simp only [apC, decide_eq_false_iff_not] at hc
      refine ev_tail ?_
      simp only [spec_ArePoints.l0, l1In_eq, Option.bind_some, w1, w2]
      refine ev_pos (by omega) (ev_pos (by omega) (ev_ite (fun h1 => ev_ite (fun h2 => ?_) (fun _ => Ev.now _)) (fun _ => Ev.now _)))
      simp only [decide_eq_true_eq] at h1 h2
      refine ev_ite (fun h0 => ?_) (fun h0 => absurd ⟨h1.1, h1.2, h2.1, h2.2, fun h => absurd h h0⟩ hc)
      refine ev_pos (by omega) (ev_pos (by omega) (ev_ite (fun _ => Ev.now _) (fun h3 => ev_ite (fun _ => Ev.now _) (fun h4 => ?_))))
      exact absurd ⟨h1.1, h1.2, h2.1, h2.2, fun _ => ⟨by omega, by omega⟩⟩ hc
  · refine ev_tail ?_
    simp only [spec_ArePoints.l0]
    exact ev_neg (by omega) (Ev.now _)
theorem implArePoints_ev (l : List S50) (h : l.length ≤ 1048576) : Ev (fun k => impl_ArePoints.f k l) (arePM l) := by
  simp only [impl_ArePoints.f]
  refine ev_all (L := fun k i => impl_ArePoints.l0 k l l (l.length : Int) i) (n := l.length) (fun i hi => ?_) ?_ l.length 0 (by omega)
  · have w1 : wrap64 ((i : Int) + 1) = (i : Int) + 1 := wrap_id (by omega) (by omega)
    have w2 : wrap64 ((i : Int) - 1) = (i : Int) - 1 := wrap_id (by omega) (by omega)
    constructor
    · intro hc r e
      simp only [apC, decide_eq_true_eq] at hc
      obtain ⟨h1, h2, h3, h4, h5⟩ := hc
      refine ev_tail ?_
      simp only [impl_ArePoints.l0, InRange_eq, Option.bind_some, w1, w2]
      refine ev_pos (by omega) (ev_pos (by omega) (ev_pos (by omega) (ev_pos (by simpa using ⟨h1, h2⟩) (ev_pos (by simpa using ⟨h3, h4⟩) ?_))))
      refine ev_ite (fun h0 => ?_) (fun _ => e)
      have := h5 h0
      exact ev_pos (by omega) (ev_pos (by omega) (ev_neg (by omega) (ev_neg (by omega) e)))
    · intro hc
      simp only [apC, decide_eq_false_iff_not] at hc
      refine ev_tail ?_
      simp only [impl_ArePoints.l0, InRange_eq, Option.bind_some, w1, w2]
      refine ev_pos (by omega) (ev_pos (by omega) (ev_pos (by omega) (ev_ite (fun h1 => ev_ite (fun h2 => ?_) (fun _ => Ev.now _)) (fun _ => Ev.now _))))
      simp only [decide_eq_true_eq] at h1 h2
      refine ev_ite (fun h0 => ?_) (fun h0 => absurd ⟨h1.1, h1.2, h2.1, h2.2, fun h => absurd h h0⟩ hc)
      refine ev_pos (by omega) (ev_pos (by omega) (ev_ite (fun _ => Ev.now _) (fun h3 => ev_ite (fun _ => Ev.now _) (fun h4 => ?_))))
      exact absurd ⟨h1.1, h1.2, h2.1, h2.2, fun _ => ⟨by omega, by omega⟩⟩ hc
  · refine ev_tail ?_
    simp only [impl_ArePoints.l0]
    exact ev_neg (by omega) (Ev.now _)

theorem szPointS_big (l : List S52) (h : l.length ≤ maxLen) : ∃ r, laws_szPointS.f l 1048576 = some r ∧ (¬ r < 0 → l.length ≤ 1048576) := by
  have hm : maxLen = 9223372036854775807 := rfl
  unfold laws_szPointS.f
  rw [wrap_id (by omega) (by omega)]
  by_cases h0 : (1048576 : Int) - (l.length : Int) < 0
  · exact ⟨-1, by rw [if_pos h0], fun h => absurd (by omega) h⟩
  · exact ⟨_, by rw [if_neg h0], fun _ => by omega⟩
theorem FnExactArePoints : ∀ (l0 : List (S52)), (l0.length ≤ maxLen) → (∀ x ∈ l0, ((Lit.int .i64 x.f0).wf = true) ∧ ((Lit.int .i64 x.f1).wf = true)) → ∃ k, laws_FnExactArePoints.f k l0 = some true := by
  intro l hl _
  refine Ev.rounds ?_
  simp only [laws_FnExactArePoints.f]
  obtain ⟨r, hr, hb⟩ := szPointS_big l hl
  refine ev_val hr (ev_ite (fun _ => Ev.now _) (fun h => ?_))
  have hn := hb h
  have hm : (l.map cvPoint).length ≤ 1048576 := by rw [List.length_map]; exact hn
  refine Ev.bind (toPointS_ev l hn) (Ev.bind (specArePoints_ev _ hm) (Ev.bind (toPointS_ev l hn) (Ev.bind (implArePoints_ev _ hm) (ev_neg (by simp) ?_))))
  exact Ev.bind (toPointS_ev l hn) (Ev.bind (eqPointS_ev _ hm) (ev_pos (by trivial) (Ev.now _)))
end Go.Proofs.Ytdnhgdniaacghaa.Pure
