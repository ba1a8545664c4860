/-
SureTick of the program and of the reference: the same answer.
Conditions: none.
-/
import Derived.Test.YtnaoogkklkhpnaaPFnExactSureTickx5
import Derived.Test.YtnaoogkklkhpnaaBase
namespace Go.Proofs.Ytnaoogkklkhpnaa.Pure
open Go.RowKit Go.Proofs.Ytnaoogkklkhpnaa.PFnExactSureTick Go.Proofs.YtnaoogkklkhpnaaW.PrintWords Go.Proofs.YtnaoogkklkhpnaaW.PrintLast Go.Proofs.YtnaoogkklkhpnaaW.PrintMore Go.Proofs.Ytnaoogkklkhpnaa.Base
set_option linter.unusedVariables false
set_option linter.unusedSimpArgs false

theorem l1In_eq (a b c : Int) : spec_l1In.f a b c = some (decide (b ≤ a ∧ a ≤ c)) := by
  unfold spec_l1In.f
  by_cases h1 : b ≤ a <;> by_cases h2 : a ≤ c <;> simp [h1, h2]
theorem InRange_eq (a b c : Int) : impl_InRange.f a b c = some (decide (b ≤ a ∧ a ≤ c)) := by
  unfold impl_InRange.f
  by_cases h1 : b ≤ a <;> by_cases h2 : a ≤ c <;> simp [h1, h2]

theorem toIntS_l0 (suf : List Int) : ∀ pre : List Int, (pre ++ suf).length ≤ 35184372088832 → Ev (fun k => laws_toIntS.l0 k (pre ++ suf) (pre ++ List.replicate suf.length 0) (pre.length : Int)) (pre ++ suf) := by
  induction suf with
  | nil =>
    intro pre h
    refine ev_tail ?_
    simp only [laws_toIntS.l0]
    refine ev_neg (by simp) ?_
    simpa using Ev.now pre
  | cons x t ih =>
    intro pre h
    have e := ih (pre ++ [x]) (by simpa using h)
    simp only [List.length_append, List.length_cons] at h
    refine ev_tail ?_
    simp only [laws_toIntS.l0]
    refine ev_pos (by simp; omega) (ev_pos (by omega) (ev_pos (by simp; omega) ?_))
    rw [rd_mid, List.length_cons, List.replicate_succ, set_mid, wrap_succ (by omega), snoc_cons pre x t, snoc_cons pre x (List.replicate t.length 0), ← length_snoc pre x]
    exact e
theorem toIntS_ev (l : List Int) (h : l.length ≤ 35184372088832) : Ev (fun k => laws_toIntS.f k l) l := by
  simp only [laws_toIntS.f]
  refine ev_pos (by omega) (ev_pos (by omega) ?_)
  exact toIntS_l0 l [] (by simpa using h)

theorem eqIntS_l0 (suf : List Int) : ∀ pre : List Int, (pre ++ suf).length ≤ 35184372088832 → Ev (fun k => laws_eqIntS.l0 k (pre ++ suf) (pre ++ suf) (pre.length : Int)) true := by
  induction suf with
  | nil =>
    intro pre h
    refine ev_tail ?_
    simp only [laws_eqIntS.l0]
    exact ev_neg (by simp) (Ev.now true)
  | cons x t ih =>
    intro pre h
    have e := ih (pre ++ [x]) (by simpa using h)
    simp only [List.length_append, List.length_cons] at h
    refine ev_tail ?_
    simp only [laws_eqIntS.l0]
    refine ev_pos (by simp; omega) (ev_pos (by omega) (ev_pos (by simp; omega) (ev_pos (by trivial) ?_)))
    rw [wrap_succ (by omega), snoc_cons pre x t, ← length_snoc pre x]
    exact e
theorem eqIntS_ev (l : List Int) (h : l.length ≤ 35184372088832) : Ev (fun k => laws_eqIntS.f k l l) true := by
  simp only [laws_eqIntS.f]
  refine ev_pos (by trivial) ?_
  exact eqIntS_l0 l [] (by simpa using h)

theorem szIntS_some (l : List Int) (b : Int) (hb0 : 0 ≤ b) (hb : b ≤ 1048576) (h : l.length ≤ maxLen) : ∃ r, laws_szIntS.f l b = some r ∧ r ≤ b ∧ (¬ r < 0 → 0 ≤ r ∧ (l.length : Int) ≤ b) := by
  have hm : maxLen = 9223372036854775807 := rfl
  unfold laws_szIntS.f
  rw [wrap_id (by omega) (by omega)]
  by_cases h0 : b - (l.length : Int) < 0
  · exact ⟨-1, by rw [if_pos h0], by omega, fun h => absurd (by omega) h⟩
  · exact ⟨_, by rw [if_neg h0], by omega, fun _ => by omega⟩

theorem szFollower_some (l : List Int) (x b : Int) (hb0 : 0 ≤ b) (hb : b ≤ 1048576) (h : l.length ≤ maxLen) : ∃ r, laws_szFollower.f l x b = some r ∧ r ≤ b ∧ (¬ r < 0 → 0 ≤ r ∧ (l.length : Int) ≤ b) := by
  obtain ⟨r, hr, h1, h2⟩ := szIntS_some l b hb0 hb h
  unfold laws_szFollower.f
  rw [hr]
  simp only [Option.bind_some]
  by_cases h0 : r < 0
  · exact ⟨-1, by rw [if_pos h0], by omega, fun h => absurd (by omega) h⟩
  · exact ⟨r, by rw [if_neg h0], h1, h2⟩

theorem toFollower_ev (l : List Int) (x : Int) (h : l.length ≤ 35184372088832) : Ev (fun k => laws_toFollower.f k l x) (l, x) := by
  simp only [laws_toFollower.f]
  exact Ev.bind (toIntS_ev l h) (Ev.now _)

theorem eqFollower_ev (l : List Int) (x : Int) (h : l.length ≤ 35184372088832) : Ev (fun k => laws_eqFollower.f k l x l x) true := by
  simp only [laws_eqFollower.f]
  exact Ev.bind (eqIntS_ev l h) (ev_pos (by trivial) (ev_pos (by trivial) (Ev.now _)))

theorem szCue_some (l m : List Int) (b : Int) (hb0 : 0 ≤ b) (hb : b ≤ 1048576) (h : l.length ≤ maxLen) (h' : m.length ≤ maxLen) : ∃ r, laws_szCue.f l m b = some r ∧ r ≤ b ∧ (¬ r < 0 → 0 ≤ r ∧ (l.length : Int) ≤ b ∧ (m.length : Int) ≤ b) := by
  obtain ⟨r, hr, h1, h2⟩ := szIntS_some l b hb0 hb h
  unfold laws_szCue.f
  rw [hr]
  simp only [Option.bind_some]
  by_cases h0 : r < 0
  · exact ⟨-1, by rw [if_pos h0], by omega, fun h => absurd (by omega) h⟩
  · rw [if_neg h0]
    obtain ⟨h3, h4⟩ := h2 h0
    obtain ⟨r', hr', h5, h6⟩ := szIntS_some m r h3 (by omega) h'
    rw [hr']
    simp only [Option.bind_some]
    by_cases h7 : r' < 0
    · exact ⟨-1, by rw [if_pos h7], by omega, fun h => absurd (by omega) h⟩
    · obtain ⟨h8, h9⟩ := h6 h7
      exact ⟨r', by rw [if_neg h7], by omega, fun _ => ⟨h8, h4, by omega⟩⟩
theorem toCue_ev (l m : List Int) (h : l.length ≤ 35184372088832) (h' : m.length ≤ 35184372088832) : Ev (fun k => laws_toCue.f k l m) (l, m) := by
  simp only [laws_toCue.f]
  exact Ev.bind (toIntS_ev l h) (Ev.bind (toIntS_ev m h') (Ev.now _))
theorem eqCue_ev (l m : List Int) (h : l.length ≤ 35184372088832) (h' : m.length ≤ 35184372088832) : Ev (fun k => laws_eqCue.f k l m l m) true := by
  simp only [laws_eqCue.f]
  exact Ev.bind (eqIntS_ev l h) (ev_pos (by trivial) (Ev.bind (eqIntS_ev m h') (ev_pos (by trivial) (Ev.now _))))

def cueC (l : List Int) (i : Int) : Bool := decide (0 ≤ rd l i ∧ rd l i ≤ 2000 ∧ (0 < i → rd l (i - 1) ≤ rd l i))
def cueM (t l : List Int) : Bool := allF (cueC l) (decide ((t.length : Int) ≤ 40) && ((l.length : Int) == (t.length : Int))) l.length 0
theorem specIsCue_ev (t l : List Int) (h : l.length ≤ 1048576) : Ev (fun k => spec_IsCue.f k t l) (cueM t l) := by
  simp only [spec_IsCue.f]
  refine ev_all (L := fun k i => spec_IsCue.l0 k i t l) (n := l.length) (fun i hi => ?_) ?_ l.length 0 (by omega)
  · have w1 : wrap64 ((i : Int) + 1) = (i : Int) + 1 := wrap_id (by omega) (by omega)
    have w2 : wrap64 ((i : Int) - 1) = (i : Int) - 1 := wrap_id (by omega) (by omega)
    constructor
    · intro hc r e
      simp only [cueC, decide_eq_true_eq] at hc
      obtain ⟨h1, h2, h5⟩ := hc
      refine ev_tail ?_
      simp only [spec_IsCue.l0, l1In_eq, Option.bind_some, w1, w2]
      refine ev_pos (by omega) (ev_pos (by omega) (ev_pos (by simpa using ⟨h1, h2⟩) ?_))
      refine ev_ite (fun h0 => ?_) (fun _ => e)
      have := h5 h0
      exact ev_pos (by omega) (ev_pos (by omega) (ev_neg (by omega) e))
    · intro hc
      simp only [cueC, decide_eq_false_iff_not] at hc
      refine ev_tail ?_
      simp only [spec_IsCue.l0, l1In_eq, Option.bind_some, w1, w2]
      refine ev_pos (by omega) (ev_pos (by omega) (ev_ite (fun h1 => ?_) (fun _ => Ev.now _)))
      simp only [decide_eq_true_eq] at h1
      refine ev_ite (fun h0 => ?_) (fun h0 => absurd ⟨h1.1, h1.2, fun h => absurd h h0⟩ hc)
      refine ev_pos (by omega) (ev_pos (by omega) (ev_ite (fun _ => Ev.now _) (fun h3 => ?_)))
      exact absurd ⟨h1.1, h1.2, fun _ => by omega⟩ hc
  · refine ev_tail ?_
    simp only [spec_IsCue.l0]
    refine ev_neg (by omega) (ev_ite (fun h => ?_) (fun h => ?_))
    · simpa [h] using Ev.now _
    · simpa [h] using Ev.now _
theorem implIsCue_ev (t l : List Int) (h : l.length ≤ 1048576) : Ev (fun k => impl_IsCue.f k t l) (cueM t l) := by
  simp only [impl_IsCue.f]
  refine ev_all (L := fun k i => impl_IsCue.l0 k l (l.length : Int) i t l) (n := l.length) (fun i hi => ?_) ?_ l.length 0 (by omega)
  · have w1 : wrap64 ((i : Int) + 1) = (i : Int) + 1 := wrap_id (by omega) (by omega)
    have w2 : wrap64 ((i : Int) - 1) = (i : Int) - 1 := wrap_id (by omega) (by omega)
    constructor
    · intro hc r e
      simp only [cueC, decide_eq_true_eq] at hc
      obtain ⟨h1, h2, h5⟩ := hc
      refine ev_tail ?_
      simp only [impl_IsCue.l0, InRange_eq, Option.bind_some, w1, w2]
      refine ev_pos (by omega) (ev_pos (by omega) (ev_pos (by omega) (ev_pos (by simpa using ⟨h1, h2⟩) ?_)))
      refine ev_ite (fun h0 => ?_) (fun _ => e)
      have := h5 h0
      exact ev_pos (by omega) (ev_pos (by omega) (ev_neg (by omega) e))
    · intro hc
      simp only [cueC, decide_eq_false_iff_not] at hc
      refine ev_tail ?_
      simp only [impl_IsCue.l0, InRange_eq, Option.bind_some, w1, w2]
      refine ev_pos (by omega) (ev_pos (by omega) (ev_pos (by omega) (ev_ite (fun h1 => ?_) (fun _ => Ev.now _))))
      simp only [decide_eq_true_eq] at h1
      refine ev_ite (fun h0 => ?_) (fun h0 => absurd ⟨h1.1, h1.2, fun h => absurd h h0⟩ hc)
      refine ev_pos (by omega) (ev_pos (by omega) (ev_ite (fun _ => Ev.now _) (fun h3 => ?_)))
      exact absurd ⟨h1.1, h1.2, fun _ => by omega⟩ hc
  · refine ev_tail ?_
    simp only [impl_IsCue.l0]
    refine ev_neg (by omega) (ev_ite (fun h => ?_) (fun h => ?_))
    · simpa [h] using Ev.now _
    · simpa [h] using Ev.now _

def folC (l : List Int) (i : Int) : Bool := decide (0 ≤ rd l i ∧ rd l i ≤ 1000 ∧ (0 < i → -1 ≤ wrap64 (rd l i - rd l (i - 1)) ∧ wrap64 (rd l i - rd l (i - 1)) ≤ 1))
def folM (t l : List Int) (x : Int) : Bool := allF (folC l) (decide ((t.length : Int) ≤ 40 ∧ (l.length : Int) = (t.length : Int) + 1 ∧ 0 ≤ x ∧ x ≤ 1000)) l.length 0
theorem specIsFollower_ev (t l : List Int) (x : Int) (ht : t.length ≤ 1048576) (h : l.length ≤ 1048577) : Ev (fun k => spec_IsFollower.f k t l x) (folM t l x) := by
  simp only [spec_IsFollower.f]
  refine ev_all (L := fun k i => spec_IsFollower.l0 k t i l x) (n := l.length) (fun i hi => ?_) ?_ l.length 0 (by omega)
  · have w1 : wrap64 ((i : Int) + 1) = (i : Int) + 1 := wrap_id (by omega) (by omega)
    have w2 : wrap64 ((i : Int) - 1) = (i : Int) - 1 := wrap_id (by omega) (by omega)
    constructor
    · intro hc r e
      simp only [folC, decide_eq_true_eq] at hc
      obtain ⟨h1, h2, h5⟩ := hc
      refine ev_tail ?_
      simp only [spec_IsFollower.l0, l1In_eq, Option.bind_some, w1, w2]
      refine ev_pos (by omega) (ev_pos (by omega) (ev_pos (by simpa using ⟨h1, h2⟩) ?_))
      refine ev_ite (fun h0 => ?_) (fun _ => e)
      exact ev_pos (by omega) (ev_pos (by omega) (ev_pos (by simpa using h5 h0) e))
    · intro hc
      simp only [folC, decide_eq_false_iff_not] at hc
      refine ev_tail ?_
      simp only [spec_IsFollower.l0, l1In_eq, Option.bind_some, w1, w2]
      refine ev_pos (by omega) (ev_pos (by omega) (ev_ite (fun h1 => ?_) (fun _ => Ev.now _)))
      simp only [decide_eq_true_eq] at h1
      refine ev_ite (fun h0 => ?_) (fun h0 => absurd ⟨h1.1, h1.2, fun h => absurd h h0⟩ hc)
      refine ev_pos (by omega) (ev_pos (by omega) (ev_ite (fun h3 => ?_) (fun _ => Ev.now _)))
      simp only [decide_eq_true_eq] at h3
      exact absurd ⟨h1.1, h1.2, fun _ => h3⟩ hc
  · refine ev_tail ?_
    have w3 : wrap64 ((t.length : Int) + 1) = (t.length : Int) + 1 := wrap_id (by omega) (by omega)
    simp only [spec_IsFollower.l0, l1In_eq, Option.bind_some, w3]
    refine ev_neg (by omega) (ev_ite (fun h1 => ev_ite (fun h2 => ?_) (fun h2 => ?_)) (fun h1 => ?_))
    · simpa [h1, h2] using Ev.now _
    · simpa [h1, h2] using Ev.now _
    · simpa [h1] using Ev.now _
theorem implIsFollower_ev (t l : List Int) (x : Int) (ht : t.length ≤ 1048576) (h : l.length ≤ 1048577) : Ev (fun k => impl_IsFollower.f k t l x) (folM t l x) := by
  simp only [impl_IsFollower.f]
  refine ev_all (L := fun k i => impl_IsFollower.l0 k t l (l.length : Int) i l x) (n := l.length) (fun i hi => ?_) ?_ l.length 0 (by omega)
  · have w1 : wrap64 ((i : Int) + 1) = (i : Int) + 1 := wrap_id (by omega) (by omega)
    have w2 : wrap64 ((i : Int) - 1) = (i : Int) - 1 := wrap_id (by omega) (by omega)
    constructor
    · intro hc r e
      simp only [folC, decide_eq_true_eq] at hc
      obtain ⟨h1, h2, h5⟩ := hc
      refine ev_tail ?_
      simp only [impl_IsFollower.l0, InRange_eq, Option.bind_some, w1, w2]
      refine ev_pos (by omega) (ev_pos (by omega) (ev_pos (by omega) (ev_pos (by simpa using ⟨h1, h2⟩) ?_)))
      refine ev_ite (fun h0 => ?_) (fun _ => e)
      exact ev_pos (by omega) (ev_pos (by omega) (ev_pos (by simpa using h5 h0) e))
    · intro hc
      simp only [folC, decide_eq_false_iff_not] at hc
      refine ev_tail ?_
      simp only [impl_IsFollower.l0, InRange_eq, Option.bind_some, w1, w2]
      refine ev_pos (by omega) (ev_pos (by omega) (ev_pos (by omega) (ev_ite (fun h1 => ?_) (fun _ => Ev.now _))))
      simp only [decide_eq_true_eq] at h1
      refine ev_ite (fun h0 => ?_) (fun h0 => absurd ⟨h1.1, h1.2, fun h => absurd h h0⟩ hc)
      refine ev_pos (by omega) (ev_pos (by omega) (ev_ite (fun h3 => ?_) (fun _ => Ev.now _)))
      simp only [decide_eq_true_eq] at h3
      exact absurd ⟨h1.1, h1.2, fun _ => h3⟩ hc
  · refine ev_tail ?_
    have w3 : wrap64 ((t.length : Int) + 1) = (t.length : Int) + 1 := wrap_id (by omega) (by omega)
    simp only [impl_IsFollower.l0, InRange_eq, Option.bind_some, w3]
    refine ev_neg (by omega) (ev_ite (fun h1 => ev_ite (fun h2 => ?_) (fun h2 => ?_)) (fun h1 => ?_))
    · simpa [h1, h2] using Ev.now _
    · simpa [h1, h2] using Ev.now _
    · simpa [h1] using Ev.now _

/-- The first and the last place of a cost that is small enough. -/
def sbGo (e : Int) : List Int → Int → Int × Int → Int × Int
  | [], _, s => s
  | c :: t, i, s => if c ≤ e then sbGo e t (i + 1) (if s.1 < 0 then i else s.1, i) else sbGo e t (i + 1) s
theorem specSurely_l0 (e x : Int) (suf : List Int) : ∀ (pre : List Int) (a b : Int), (pre ++ suf).length ≤ 35184372088832 → Ev (fun k => spec_SurelyBetween.l0 k e a b (pre.length : Int) (pre ++ suf) x) (sbGo e suf (pre.length : Int) (a, b)) := by
  induction suf with
  | nil =>
    intro pre a b h
    refine ev_tail ?_
    simp only [spec_SurelyBetween.l0]
    exact ev_neg (by simp) (Ev.now _)
  | cons y t ih =>
    intro pre a b h
    have e1 := fun a' b' => ih (pre ++ [y]) a' b' (by simpa using h)
    simp only [List.length_append, List.length_cons] at h
    refine ev_tail ?_
    simp only [spec_SurelyBetween.l0, sbGo]
    refine ev_pos (by simp; omega) (ev_pos (by omega) ?_)
    rw [rd_mid, wrap_succ (by omega), snoc_cons pre y t, ← length_snoc pre y]
    refine ev_ite (fun hy => ?_) (fun hy => ?_)
    · rw [if_pos hy]
      refine ev_ite (fun h0 => ?_) (fun h0 => ?_)
      · rw [if_pos h0]; simpa using e1 _ _
      · rw [if_neg h0]; simpa using e1 _ _
    · rw [if_neg hy]; simpa using e1 _ _
theorem implSurely_l0 (e : Int) (suf : List Int) : ∀ (pre : List Int) (a b : Int), (pre ++ suf).length ≤ 35184372088832 → Ev (fun k => impl_SurelyBetween.l0 k e a b (pre ++ suf) ((pre ++ suf).length : Int) (pre.length : Int)) (sbGo e suf (pre.length : Int) (a, b)) := by
  induction suf with
  | nil =>
    intro pre a b h
    refine ev_tail ?_
    simp only [impl_SurelyBetween.l0]
    exact ev_neg (by simp) (Ev.now _)
  | cons y t ih =>
    intro pre a b h
    have e1 := fun a' b' => ih (pre ++ [y]) a' b' (by simpa using h)
    simp only [List.length_append, List.length_cons] at h
    refine ev_tail ?_
    simp only [impl_SurelyBetween.l0, sbGo]
    refine ev_pos (by simp; omega) (ev_pos (by omega) (ev_pos (by simp; omega) ?_))
    rw [rd_mid, wrap_succ (by omega), snoc_cons pre y t, ← length_snoc pre y]
    refine ev_ite (fun hy => ?_) (fun hy => ?_)
    · rw [if_pos hy]
      refine ev_ite (fun h0 => ?_) (fun h0 => ?_)
      · rw [if_pos h0]; simpa using e1 _ _
      · rw [if_neg h0]; simpa using e1 _ _
    · rw [if_neg hy]; simpa using e1 _ _
def surelyM (l : List Int) (e : Int) : Int × Int := sbGo e l 0 (-1, -1)
theorem specSurely_ev (l : List Int) (x e : Int) (h : l.length ≤ 35184372088832) : Ev (fun k => spec_SurelyBetween.f k l x e) (surelyM l e) := by
  simp only [spec_SurelyBetween.f]
  exact specSurely_l0 e x l [] _ _ (by simpa using h)
theorem implSurely_ev (l : List Int) (x e : Int) (h : l.length ≤ 35184372088832) : Ev (fun k => impl_SurelyBetween.f k l x e) (surelyM l e) := by
  simp only [impl_SurelyBetween.f]
  exact implSurely_l0 e l [] _ _ (by simpa using h)

theorem sbGo_bd (e : Int) (suf : List Int) : ∀ (i : Int) (s : Int × Int), s.1 < i → (sbGo e suf i s).1 < i + suf.length := by
  induction suf with
  | nil => intro i s h; simpa [sbGo] using h
  | cons c t ih =>
    intro i s h
    simp only [sbGo]
    have h1 := ih (i + 1)
    simp only [List.length_cons]
    split
    · have := h1 (if s.1 < 0 then i else s.1, i) (by
        show (if s.1 < 0 then i else s.1) < i + 1
        split <;> omega)
      omega
    · have := h1 s (by omega)
      omega
theorem cueM_facts {t l : List Int} (h : cueM t l = true) : t.length ≤ 40 ∧ l.length = t.length ∧ ∀ j : Nat, j < l.length → cueC l (j : Int) = true := by
  unfold cueM at h
  rw [allF_iff] at h
  obtain ⟨h1, h2⟩ := h
  simp only [Bool.and_eq_true, decide_eq_true_eq, beq_iff_eq] at h1
  exact ⟨by omega, by omega, fun j hj => h2 j (by omega) (by omega)⟩
theorem folM_facts {t l : List Int} {x : Int} (h : folM t l x = true) : t.length ≤ 40 ∧ l.length = t.length + 1 ∧ 0 ≤ x ∧ x ≤ 1000 ∧ ∀ j : Nat, j < l.length → folC l (j : Int) = true := by
  unfold folM at h
  rw [allF_iff] at h
  obtain ⟨h1, h2⟩ := h
  simp only [decide_eq_true_eq] at h1
  exact ⟨by omega, by omega, by omega, by omega, fun j hj => h2 j (by omega) (by omega)⟩
def sureM (t l c : List Int) (x e : Int) : Int :=
  if cueM t l = true ∧ folM t c x = true ∧ 1 ≤ (surelyM c e).1 then rd l ((surelyM c e).1 - 1) else -1
theorem sure_idx {t l c : List Int} {x e : Int} (h1 : cueM t l = true) (h2 : folM t c x = true) : (surelyM c e).1 < (l.length : Int) + 1 := by
  obtain ⟨_, a, _⟩ := cueM_facts h1
  obtain ⟨_, b, _⟩ := folM_facts h2
  have := sbGo_bd e c 0 (-1, -1) (by show (-1 : Int) < 0; omega)
  unfold surelyM
  omega
theorem specSure_j0 (t l c : List Int) (x e : Int) (y : Bool) (h : y = true) : Ev (fun k => spec_SureTick.j0 k e y t l c x) (-1) := by
  subst h
  refine ev_tail ?_
  simp only [spec_SureTick.j0]
  exact ev_pos (by trivial) (Ev.now _)
theorem specSureTick_ev (t l c : List Int) (x e : Int) (ht : t.length ≤ 1048576) (hl : l.length ≤ 1048576) (hc : c.length ≤ 1048576) : Ev (fun k => spec_SureTick.f k t l c x e) (sureM t l c x e) := by
  simp only [spec_SureTick.f, sureM]
  refine Ev.bind (specIsCue_ev t l hl) (ev_ite (fun h1 => Ev.bind (specIsFollower_ev t c x ht (by omega)) ?_) (fun h1 => ?_))
  · by_cases h2 : folM t c x = true
    · have hi := sure_idx (e := e) h1 h2
      refine ev_tail ?_
      simp only [spec_SureTick.j0]
      refine ev_neg (by rw [h2]; simp) (Ev.bind (specSurely_ev c x e (by omega)) (ev_ite (fun h3 => ?_) (fun h3 => ?_)))
      · rw [if_neg (fun z => by omega)]; exact Ev.now _
      · have hh : cueM t l = true ∧ folM t c x = true ∧ 1 ≤ (surelyM c e).1 := ⟨h1, h2, by omega⟩
        rw [if_pos hh]
        have w1 : Aside0 (wrap64 ((surelyM c e).1 - 1) = (surelyM c e).1 - 1) := ⟨wrap_id (by omega) (by omega)⟩
        simp only [w1.out]
        exact ev_pos (by omega) (ev_pos (by omega) (Ev.now _))
    · rw [if_neg (fun z => h2 z.2.1)]
      exact specSure_j0 t l c x e _ (by rw [Bool.eq_false_iff.mpr h2]; rfl)
  · rw [if_neg (fun z => h1 z.1)]
    exact specSure_j0 t l c x e _ rfl
theorem implSureTick_ev (t l c : List Int) (x e : Int) (ht : t.length ≤ 1048576) (hl : l.length ≤ 1048576) (hc : c.length ≤ 1048576) : Ev (fun k => impl_SureTick.f k t l c x e) (sureM t l c x e) := by
  simp only [impl_SureTick.f, sureM]
  refine Ev.bind (implSurely_ev c x e (by omega)) (ev_ite (fun h3 => ?_) (fun h3 => Ev.bind (implIsCue_ev t l hl) (ev_ite (fun h1 => Ev.bind (implIsFollower_ev t c x ht (by omega)) (ev_ite (fun h2 => ?_) (fun h2 => ?_))) (fun h1 => ?_))))
  · rw [if_neg (fun z => by omega)]; exact Ev.now _
  · have hi := sure_idx (e := e) h1 h2
    have hh : cueM t l = true ∧ folM t c x = true ∧ 1 ≤ (surelyM c e).1 := ⟨h1, h2, by omega⟩
    rw [if_pos hh]
    have w1 : Aside0 (wrap64 ((surelyM c e).1 - 1) = (surelyM c e).1 - 1) := ⟨wrap_id (by omega) (by omega)⟩
    simp only [w1.out]
    exact ev_pos (by omega) (ev_pos (by omega) (Ev.now _))
  · rw [if_neg (fun z => h2 z.2.1)]; exact Ev.now _
  · rw [if_neg (fun z => h1 z.1)]; exact Ev.now _

theorem FnExactSureTick : ∀ (l0_0 : List (Int)) (l0_1 : List (Int)) (l1_0 : List (Int)) (a1_1 : Int) (a2 : Int), (l0_0.length ≤ maxLen) → (∀ x ∈ l0_0, (Lit.int .i64 x).wf = true) → (l0_1.length ≤ maxLen) → (∀ x ∈ l0_1, (Lit.int .i64 x).wf = true) → (l1_0.length ≤ maxLen) → (∀ x ∈ l1_0, (Lit.int .i64 x).wf = true) → (Lit.int .i64 a1_1).wf = true → (Lit.int .i64 a2).wf = true → ∃ k, laws_FnExactSureTick.f k l0_0 l0_1 l1_0 a1_1 a2 = some true := by
  intro t l c x e ht _ hl _ hc _ _ _
  refine Ev.rounds ?_
  simp only [laws_FnExactSureTick.f]
  obtain ⟨r, hr, hr0, hb⟩ := szCue_some t l 1048576 (by omega) (by omega) ht hl
  refine ev_val hr (ev_ite (fun _ => Ev.now _) (fun h => ?_))
  obtain ⟨hr1, h1, h2⟩ := hb h
  obtain ⟨r', hr', _, hb'⟩ := szFollower_some c x r hr1 hr0 hc
  refine ev_val hr' (ev_ite (fun _ => Ev.now _) (fun h' => ?_))
  obtain ⟨_, h3⟩ := hb' h'
  have tc := toCue_ev t l (by omega) (by omega)
  have tf := toFollower_ev c x (by omega)
  refine Ev.bind tc (Ev.bind tf (Ev.bind (specSureTick_ev t l c x e (by omega) (by omega) (by omega)) ?_))
  refine Ev.bind tc (Ev.bind tf (Ev.bind (implSureTick_ev t l c x e (by omega) (by omega) (by omega)) (ev_pos (by trivial) ?_)))
  refine Ev.bind tc (Ev.bind (eqCue_ev t l (by omega) (by omega)) (ev_pos (by trivial) ?_))
  exact Ev.bind tf (Ev.bind (eqFollower_ev c x (by omega)) (ev_pos (by trivial) (Ev.now _)))
end Go.Proofs.Ytnaoogkklkhpnaa.Pure
