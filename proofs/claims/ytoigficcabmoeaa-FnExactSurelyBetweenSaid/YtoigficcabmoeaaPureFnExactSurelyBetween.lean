/-
SurelyBetween of the program and of the reference: the same answer.
Conditions: none.
-/
import Derived.Test.YtoigficcabmoeaaPFnExactSurelyBetweenx2
import Derived.Test.YtoigficcabmoeaaBase
namespace Go.Proofs.Ytoigficcabmoeaa.Pure
open Go.RowKit Go.Proofs.Ytoigficcabmoeaa.PFnExactSurelyBetween Go.Proofs.YtoigficcabmoeaaW.PrintWords Go.Proofs.YtoigficcabmoeaaW.PrintLast Go.Proofs.YtoigficcabmoeaaW.PrintMore Go.Proofs.Ytoigficcabmoeaa.Base
set_option linter.unusedVariables false
set_option linter.unusedSimpArgs false

theorem toIntS_l0 (suf : List Int) : ∀ pre : List Int, (pre ++ suf).length ≤ 35184372088832 → Ev (fun k => laws_toIntS.l0 k (pre ++ suf) (pre ++ List.replicate suf.length 0) (pre.length : Int)) (pre ++ suf) := by
  induction suf with
  | nil =>
    intro pre h
    refine ev_tail ?_
    simp only [laws_toIntS.l0]
    refine ev_neg (by simp) ?_
    simpa using Ev.now pre
  | cons x t ih =>
    intro pre h
    have e := ih (pre ++ [x]) (by simpa using h)
    simp only [List.length_append, List.length_cons] at h
    refine ev_tail ?_
    simp only [laws_toIntS.l0]
    refine ev_pos (by simp; omega) (ev_pos (by omega) (ev_pos (by simp; omega) ?_))
    rw [rd_mid, List.length_cons, List.replicate_succ, set_mid, wrap_succ (by omega), snoc_cons pre x t, snoc_cons pre x (List.replicate t.length 0), ← length_snoc pre x]
    exact e
theorem toIntS_ev (l : List Int) (h : l.length ≤ 35184372088832) : Ev (fun k => laws_toIntS.f k l) l := by
  simp only [laws_toIntS.f]
  refine ev_pos (by omega) (ev_pos (by omega) ?_)
  exact toIntS_l0 l [] (by simpa using h)

theorem eqIntS_l0 (suf : List Int) : ∀ pre : List Int, (pre ++ suf).length ≤ 35184372088832 → Ev (fun k => laws_eqIntS.l0 k (pre ++ suf) (pre ++ suf) (pre.length : Int)) true := by
  induction suf with
  | nil =>
    intro pre h
    refine ev_tail ?_
    simp only [laws_eqIntS.l0]
    exact ev_neg (by simp) (Ev.now true)
  | cons x t ih =>
    intro pre h
    have e := ih (pre ++ [x]) (by simpa using h)
    simp only [List.length_append, List.length_cons] at h
    refine ev_tail ?_
    simp only [laws_eqIntS.l0]
    refine ev_pos (by simp; omega) (ev_pos (by omega) (ev_pos (by simp; omega) (ev_pos (by trivial) ?_)))
    rw [wrap_succ (by omega), snoc_cons pre x t, ← length_snoc pre x]
    exact e
theorem eqIntS_ev (l : List Int) (h : l.length ≤ 35184372088832) : Ev (fun k => laws_eqIntS.f k l l) true := by
  simp only [laws_eqIntS.f]
  refine ev_pos (by trivial) ?_
  exact eqIntS_l0 l [] (by simpa using h)

theorem szIntS_some (l : List Int) (b : Int) (hb0 : 0 ≤ b) (hb : b ≤ 1048576) (h : l.length ≤ maxLen) : ∃ r, laws_szIntS.f l b = some r ∧ r ≤ b ∧ (¬ r < 0 → 0 ≤ r ∧ (l.length : Int) ≤ b) := by
  have hm : maxLen = 9223372036854775807 := rfl
  unfold laws_szIntS.f
  rw [wrap_id (by omega) (by omega)]
  by_cases h0 : b - (l.length : Int) < 0
  · exact ⟨-1, by rw [if_pos h0], by omega, fun h => absurd (by omega) h⟩
  · exact ⟨_, by rw [if_neg h0], by omega, fun _ => by omega⟩

theorem szFollower_some (l : List Int) (x b : Int) (hb0 : 0 ≤ b) (hb : b ≤ 1048576) (h : l.length ≤ maxLen) : ∃ r, laws_szFollower.f l x b = some r ∧ r ≤ b ∧ (¬ r < 0 → 0 ≤ r ∧ (l.length : Int) ≤ b) := by
  obtain ⟨r, hr, h1, h2⟩ := szIntS_some l b hb0 hb h
  unfold laws_szFollower.f
  rw [hr]
  simp only [Option.bind_some]
  by_cases h0 : r < 0
  · exact ⟨-1, by rw [if_pos h0], by omega, fun h => absurd (by omega) h⟩
  · exact ⟨r, by rw [if_neg h0], h1, h2⟩

theorem toFollower_ev (l : List Int) (x : Int) (h : l.length ≤ 35184372088832) : Ev (fun k => laws_toFollower.f k l x) (l, x) := by
  simp only [laws_toFollower.f]
  exact Ev.bind (toIntS_ev l h) (Ev.now _)
theorem eqFollower_ev (l : List Int) (x : Int) (h : l.length ≤ 35184372088832) : Ev (fun k => laws_eqFollower.f k l x l x) true := by
  simp only [laws_eqFollower.f]
  exact Ev.bind (eqIntS_ev l h) (ev_pos (by trivial) (ev_pos (by trivial) (Ev.now _)))

/-- The first and the last place of a cost that is small enough. -/
def sbGo (e : Int) : List Int → Int → Int × Int → Int × Int
  | [], _, s => s
  | c :: t, i, s => if c ≤ e then sbGo e t (i + 1) (if s.1 < 0 then i else s.1, i) else sbGo e t (i + 1) s
theorem specSurely_l0 (e x : Int) (suf : List Int) : ∀ (pre : List Int) (a b : Int), (pre ++ suf).length ≤ 35184372088832 → Ev (fun k => spec_SurelyBetween.l0 k e a b (pre.length : Int) (pre ++ suf) x) (sbGo e suf (pre.length : Int) (a, b)) := by
  induction suf with
  | nil =>
    intro pre a b h
    refine ev_tail ?_
    simp only [spec_SurelyBetween.l0]
    exact ev_neg (by simp) (Ev.now _)
  | cons y t ih =>
    intro pre a b h
    have e1 := fun a' b' => ih (pre ++ [y]) a' b' (by simpa using h)
    simp only [List.length_append, List.length_cons] at h
    refine ev_tail ?_
    simp only [spec_SurelyBetween.l0, sbGo]
    refine ev_pos (by simp; omega) (ev_pos (by omega) ?_)
    rw [rd_mid, wrap_succ (by omega), snoc_cons pre y t, ← length_snoc pre y]
    refine ev_ite (fun hy => ?_) (fun hy => ?_)
    · rw [if_pos hy]
      refine ev_ite (fun h0 => ?_) (fun h0 => ?_)
      · rw [if_pos h0]; simpa using e1 _ _
      · rw [if_neg h0]; simpa using e1 _ _
    · rw [if_neg hy]; simpa using e1 _ _
theorem implSurely_l0 (e : Int) (suf : List Int) : ∀ (pre : List Int) (a b : Int), (pre ++ suf).length ≤ 35184372088832 → Ev (fun k => impl_SurelyBetween.l0 k e a b (pre ++ suf) ((pre ++ suf).length : Int) (pre.length : Int)) (sbGo e suf (pre.length : Int) (a, b)) := by
  induction suf with
  | nil =>
    intro pre a b h
    refine ev_tail ?_
    simp only [impl_SurelyBetween.l0]
    exact ev_neg (by simp) (Ev.now _)
  | cons y t ih =>
    intro pre a b h
    have e1 := fun a' b' => ih (pre ++ [y]) a' b' (by simpa using h)
    simp only [List.length_append, List.length_cons] at h
    refine ev_tail ?_
    simp only [impl_SurelyBetween.l0, sbGo]
    refine ev_pos (by simp; omega) (ev_pos (by omega) (ev_pos (by simp; omega) ?_))
    rw [rd_mid, wrap_succ (by omega), snoc_cons pre y t, ← length_snoc pre y]
    refine ev_ite (fun hy => ?_) (fun hy => ?_)
    · rw [if_pos hy]
      refine ev_ite (fun h0 => ?_) (fun h0 => ?_)
      · rw [if_pos h0]; simpa using e1 _ _
      · rw [if_neg h0]; simpa using e1 _ _
    · rw [if_neg hy]; simpa using e1 _ _
def surelyM (l : List Int) (e : Int) : Int × Int := sbGo e l 0 (-1, -1)
theorem specSurely_ev (l : List Int) (x e : Int) (h : l.length ≤ 35184372088832) : Ev (fun k => spec_SurelyBetween.f k l x e) (surelyM l e) := by
  simp only [spec_SurelyBetween.f]
  exact specSurely_l0 e x l [] _ _ (by simpa using h)
theorem implSurely_ev (l : List Int) (x e : Int) (h : l.length ≤ 35184372088832) : Ev (fun k => impl_SurelyBetween.f k l x e) (surelyM l e) := by
  simp only [impl_SurelyBetween.f]
  exact implSurely_l0 e l [] _ _ (by simpa using h)

theorem FnExactSurelyBetween : ∀ (l0_0 : List (Int)) (a0_1 : Int) (a1 : Int), (l0_0.length ≤ maxLen) → (∀ x ∈ l0_0, (Lit.int .i64 x).wf = true) → (Lit.int .i64 a0_1).wf = true → (Lit.int .i64 a1).wf = true → ∃ k, laws_FnExactSurelyBetween.f k l0_0 a0_1 a1 = some true := by
  intro l x e hl _ _ _
  refine Ev.rounds ?_
  simp only [laws_FnExactSurelyBetween.f]
  obtain ⟨r, hr, _, hb⟩ := szFollower_some l x 1048576 (by omega) (by omega) hl
  refine ev_val hr (ev_ite (fun _ => Ev.now _) (fun h => ?_))
  obtain ⟨_, h1⟩ := hb h
  refine Ev.bind (toFollower_ev l x (by omega)) (Ev.bind (specSurely_ev l x e (by omega)) ?_)
  refine Ev.bind (toFollower_ev l x (by omega)) (Ev.bind (implSurely_ev l x e (by omega)) (ev_pos (by trivial) (ev_tail ?_)))
  simp only [laws_FnExactSurelyBetween.j0]
  refine ev_neg (by simp) ?_
  exact Ev.bind (toFollower_ev l x (by omega)) (Ev.bind (eqFollower_ev l x (by omega)) (ev_pos (by trivial) (Ev.now _)))
end Go.Proofs.Ytoigficcabmoeaa.Pure
