/-
IsSteady of the program and of the reference: the same answer.
Conditions: none.
-/
import Derived.Test.YtoigficcabmoeaaPFnExactIsSteadyx6
import Derived.Test.YtoigficcabmoeaaBase
namespace Go.Proofs.Ytoigficcabmoeaa.Pure
open Go.RowKit Go.Proofs.Ytoigficcabmoeaa.PFnExactIsSteady Go.Proofs.YtoigficcabmoeaaW.PrintWords Go.Proofs.YtoigficcabmoeaaW.PrintLast Go.Proofs.YtoigficcabmoeaaW.PrintMore Go.Proofs.Ytoigficcabmoeaa.Base
set_option linter.unusedVariables false
set_option linter.unusedSimpArgs false

theorem l1In_eq (a b c : Int) : spec_l1In.f a b c = some (decide (b ≤ a ∧ a ≤ c)) := by
  unfold spec_l1In.f
  by_cases h1 : b ≤ a <;> by_cases h2 : a ≤ c <;> simp [h1, h2]
theorem InRange_eq (a b c : Int) : impl_InRange.f a b c = some (decide (b ≤ a ∧ a ≤ c)) := by
  unfold impl_InRange.f
  by_cases h1 : b ≤ a <;> by_cases h2 : a ≤ c <;> simp [h1, h2]

def cvPoint (x : S94) : S92 := ⟨x.f0, x.f1⟩
theorem rdLPoint (pre : List S94) (x : S94) (t : List S94) : rd_T94 (pre ++ x :: t) ((pre.length : Nat) : Int) = x := getD_mid pre x t z94
theorem rdIPoint (pre : List S92) (x : S92) (t : List S92) : rd_T92 (pre ++ x :: t) ((pre.length : Nat) : Int) = x := getD_mid pre x t z92
theorem toPointS_l0 (suf : List S94) : ∀ pre : List S94, (pre ++ suf).length ≤ 1048576 → Ev (fun k => laws_toPointS.l0 k (pre ++ suf) (pre.map cvPoint ++ List.replicate suf.length z92) (pre.length : Int)) ((pre ++ suf).map cvPoint) := by
  induction suf with
  | nil =>
    intro pre h
    refine ev_tail ?_
    simp only [laws_toPointS.l0]
    refine ev_neg (by simp) ?_
    exact ev_eq (Ev.now _) (by simp)
  | cons x t ih =>
    intro pre h
    have e := ih (pre ++ [x]) (by simpa using h)
    simp only [List.length_append, List.length_cons] at h
    refine ev_tail ?_
    simp only [laws_toPointS.l0, laws_toPoint.f, Option.bind_some]
    refine ev_pos (by simp; omega) (ev_pos (by omega) (ev_pos (by simp; omega) ?_))
    rw [rdLPoint, List.length_cons, List.replicate_succ]
    have e1 : (pre.map cvPoint ++ z92 :: List.replicate t.length z92).set ((pre.length : Nat) : Int).toNat (⟨x.f0, x.f1⟩ : S92) = (pre ++ [x]).map cvPoint ++ List.replicate t.length z92 := by
      simp [cvPoint]
    rw [e1, wrap_succ (by omega), snoc_cons pre x t, ← length_snoc pre x]
    exact e
theorem toPointS_ev (l : List S94) (h : l.length ≤ 1048576) : Ev (fun k => laws_toPointS.f k l) (l.map cvPoint) := by
  simp only [laws_toPointS.f]
  refine ev_pos (by omega) (ev_pos (by omega) ?_)
  exact toPointS_l0 l [] (by simpa using h)

theorem eqPointS_l0 (suf : List S92) : ∀ pre : List S92, (pre ++ suf).length ≤ 1048576 → Ev (fun k => laws_eqPointS.l0 k (pre ++ suf) (pre ++ suf) (pre.length : Int)) true := by
  induction suf with
  | nil =>
    intro pre h
    refine ev_tail ?_
    simp only [laws_eqPointS.l0]
    exact ev_neg (by simp) (Ev.now true)
  | cons x t ih =>
    intro pre h
    have e := ih (pre ++ [x]) (by simpa using h)
    simp only [List.length_append, List.length_cons] at h
    refine ev_tail ?_
    simp only [laws_eqPointS.l0, laws_eqPoint.f, if_true, Option.bind_some]
    refine ev_pos (by simp; omega) (ev_pos (by omega) (ev_pos (by simp; omega) ?_))
    rw [wrap_succ (by omega), snoc_cons pre x t, ← length_snoc pre x]
    exact e
theorem eqPointS_ev (l : List S92) (h : l.length ≤ 1048576) : Ev (fun k => laws_eqPointS.f k l l) true := by
  simp only [laws_eqPointS.f]
  refine ev_pos (by trivial) ?_
  exact eqPointS_l0 l [] (by simpa using h)

theorem szPointS_some (l : List S94) (h : l.length ≤ maxLen) : ∃ r, laws_szPointS.f l 1048576 = some r ∧ (¬ r < 0 → l.length ≤ 1048576) := by
  have hm : maxLen = 9223372036854775807 := rfl
  unfold laws_szPointS.f
  rw [wrap_id (by omega) (by omega)]
  by_cases h0 : (1048576 : Int) - (l.length : Int) < 0
  · exact ⟨-1, by rw [if_pos h0], fun h => absurd (by omega) h⟩
  · exact ⟨_, by rw [if_neg h0], fun _ => by omega⟩

def apC (l : List S92) (i : Int) : Bool := decide (0 ≤ (rd_T92 l i).f0 ∧ (rd_T92 l i).f0 ≤ 2000 ∧ 0 ≤ (rd_T92 l i).f1 ∧ (rd_T92 l i).f1 ≤ 10000000 ∧ (0 < i → (rd_T92 l (i - 1)).f0 < (rd_T92 l i).f0 ∧ (rd_T92 l (i - 1)).f1 < (rd_T92 l i).f1))
def arePM (l : List S92) : Bool := allF (apC l) (decide ((l.length : Int) ≤ 60)) l.length 0
theorem specArePoints_ev (l : List S92) (h : l.length ≤ 1048576) : Ev (fun k => spec_ArePoints.f k l) (arePM l) := by
  simp only [spec_ArePoints.f]
  refine ev_all (L := fun k i => spec_ArePoints.l0 k l i) (n := l.length) (fun i hi => ?_) ?_ l.length 0 (by omega)
  · have w1 : wrap64 ((i : Int) + 1) = (i : Int) + 1 := wrap_id (by omega) (by omega)
    have w2 : wrap64 ((i : Int) - 1) = (i : Int) - 1 := wrap_id (by omega) (by omega)
    constructor
    · intro hc r e
      simp only [apC, decide_eq_true_eq] at hc
      obtain ⟨h1, h2, h3, h4, h5⟩ := hc
      refine ev_tail ?_
      simp only [spec_ArePoints.l0, l1In_eq, Option.bind_some, w1, w2]
      refine ev_pos (by omega) (ev_pos (by omega) (ev_pos (by simpa using ⟨h1, h2⟩) (ev_pos (by simpa using ⟨h3, h4⟩) ?_)))
      refine ev_ite (fun h0 => ?_) (fun _ => e)
      have := h5 h0
      exact ev_pos (by omega) (ev_pos (by omega) (ev_neg (by omega) (ev_neg (by omega) e)))
    · intro hc
      simp only [apC, decide_eq_false_iff_not] at hc
      refine ev_tail ?_
      simp only [spec_ArePoints.l0, l1In_eq, Option.bind_some, w1, w2]
      refine ev_pos (by omega) (ev_pos (by omega) (ev_ite (fun h1 => ev_ite (fun h2 => ?_) (fun _ => Ev.now _)) (fun _ => Ev.now _)))
      simp only [decide_eq_true_eq] at h1 h2
      refine ev_ite (fun h0 => ?_) (fun h0 => absurd ⟨h1.1, h1.2, h2.1, h2.2, fun h => absurd h h0⟩ hc)
      refine ev_pos (by omega) (ev_pos (by omega) (ev_ite (fun _ => Ev.now _) (fun h3 => ev_ite (fun _ => Ev.now _) (fun h4 => ?_))))
      exact absurd ⟨h1.1, h1.2, h2.1, h2.2, fun _ => ⟨by omega, by omega⟩⟩ hc
  · refine ev_tail ?_
    simp only [spec_ArePoints.l0]
    exact ev_neg (by omega) (Ev.now _)
theorem implArePoints_ev (l : List S92) (h : l.length ≤ 1048576) : Ev (fun k => impl_ArePoints.f k l) (arePM l) := by
  simp only [impl_ArePoints.f]
  refine ev_all (L := fun k i => impl_ArePoints.l0 k l l (l.length : Int) i) (n := l.length) (fun i hi => ?_) ?_ l.length 0 (by omega)
  · have w1 : wrap64 ((i : Int) + 1) = (i : Int) + 1 := wrap_id (by omega) (by omega)
    have w2 : wrap64 ((i : Int) - 1) = (i : Int) - 1 := wrap_id (by omega) (by omega)
    constructor
    · intro hc r e
      simp only [apC, decide_eq_true_eq] at hc
      obtain ⟨h1, h2, h3, h4, h5⟩ := hc
      refine ev_tail ?_
      simp only [impl_ArePoints.l0, InRange_eq, Option.bind_some, w1, w2]
      refine ev_pos (by omega) (ev_pos (by omega) (ev_pos (by omega) (ev_pos (by simpa using ⟨h1, h2⟩) (ev_pos (by simpa using ⟨h3, h4⟩) ?_))))
      refine ev_ite (fun h0 => ?_) (fun _ => e)
      have := h5 h0
      exact ev_pos (by omega) (ev_pos (by omega) (ev_neg (by omega) (ev_neg (by omega) e)))
    · intro hc
      simp only [apC, decide_eq_false_iff_not] at hc
      refine ev_tail ?_
      simp only [impl_ArePoints.l0, InRange_eq, Option.bind_some, w1, w2]
      refine ev_pos (by omega) (ev_pos (by omega) (ev_pos (by omega) (ev_ite (fun h1 => ev_ite (fun h2 => ?_) (fun _ => Ev.now _)) (fun _ => Ev.now _))))
      simp only [decide_eq_true_eq] at h1 h2
      refine ev_ite (fun h0 => ?_) (fun h0 => absurd ⟨h1.1, h1.2, h2.1, h2.2, fun h => absurd h h0⟩ hc)
      refine ev_pos (by omega) (ev_pos (by omega) (ev_ite (fun _ => Ev.now _) (fun h3 => ev_ite (fun _ => Ev.now _) (fun h4 => ?_))))
      exact absurd ⟨h1.1, h1.2, h2.1, h2.2, fun _ => ⟨by omega, by omega⟩⟩ hc
  · refine ev_tail ?_
    simp only [impl_ArePoints.l0]
    exact ev_neg (by omega) (Ev.now _)

theorem mul_bd {a b A B : Int} (h1 : 0 ≤ a) (h2 : a ≤ A) (h3 : 0 ≤ b) (h4 : b ≤ B) : 0 ≤ a * b ∧ a * b ≤ A * B :=
  ⟨Int.mul_nonneg h1 h3, Int.mul_le_mul h2 h4 h3 (by omega)⟩
theorem arePM_facts {l : List S92} (h : arePM l = true) : l.length ≤ 60 ∧ ∀ j : Nat, j < l.length → apC l (j : Int) = true := by
  unfold arePM at h
  rw [allF_iff] at h
  obtain ⟨h1, h2⟩ := h
  simp only [decide_eq_true_eq] at h1
  exact ⟨by omega, fun j hj => h2 j (by omega) (by omega)⟩
/-- The ticks and the time between a point and the one before it. -/
def dT (l : List S92) (i : Int) : Int := (rd_T92 l i).f0 - (rd_T92 l (i - 1)).f0
def dM (l : List S92) (i : Int) : Int := (rd_T92 l i).f1 - (rd_T92 l (i - 1)).f1
theorem gap_bd {l : List S92} (h : arePM l = true) (i : Nat) (h1 : 1 ≤ i) (h2 : i < l.length) : 0 ≤ dT l (i : Int) ∧ dT l (i : Int) ≤ 2000 ∧ 0 ≤ dM l (i : Int) ∧ dM l (i : Int) ≤ 10000000 := by
  obtain ⟨_, hf⟩ := arePM_facts h
  have a := hf i h2
  have b := hf (i - 1) (by omega)
  rw [show ((i - 1 : Nat) : Int) = (i : Int) - 1 by omega] at b
  simp only [apC, decide_eq_true_eq] at a b
  unfold dT dM
  have := a.2.2.2.2 (by omega)
  omega
def stC (l : List S92) (p : Int) (i k : Int) : Bool := decide (100 * (dM l i * dT l k) ≤ (dM l k * dT l i) * (100 + p))
def steadyM (l : List S92) (p : Int) : Bool := arePM l && (decide (0 ≤ p ∧ p ≤ 1000) && allG (stC l p) (l.length - 1) 1 (l.length - 1) 1)
/-- What is reckoned of two gaps, without a wrap. -/
theorem gaps_small {l : List S92} {p : Int} (h : arePM l = true) (hp : 0 ≤ p ∧ p ≤ 1000) (i k : Nat) (hi : 1 ≤ i) (hi2 : i < l.length) (hk : 1 ≤ k) (hk2 : k < l.length) :
    (0 ≤ dM l i * dT l k ∧ dM l i * dT l k ≤ 20000000000) ∧ (0 ≤ dM l k * dT l i ∧ dM l k * dT l i ≤ 20000000000) ∧ (0 ≤ dM l k * dT l i * (100 + p) ∧ dM l k * dT l i * (100 + p) ≤ 22000000000000) := by
  obtain ⟨a1, a2, a3, a4⟩ := gap_bd h i hi hi2
  obtain ⟨b1, b2, b3, b4⟩ := gap_bd h k hk hk2
  have m1 := mul_bd a3 a4 b1 b2
  have m2 := mul_bd b3 b4 a1 a2
  have m3 := mul_bd m2.1 m2.2 (show 0 ≤ 100 + p by omega) (show 100 + p ≤ 1100 by omega)
  omega
theorem specSteady_l1 (l : List S92) (p : Int) (h : arePM l = true) (hp : 0 ≤ p ∧ p ≤ 1000) (i : Nat) (hi : 1 ≤ i) (hi2 : i < l.length) {r : Bool} (e : Ev (fun k => spec_IsSteady.l0 k l p ((i : Int) + 1)) r) :
    Ev (fun k => spec_IsSteady.l1 k l p (i : Int) 1) (allF (stC l p (i : Int)) r (l.length - 1) 1) := by
  have hn := (arePM_facts h).1
  refine ev_all_from (L := fun k j => spec_IsSteady.l1 k l p (i : Int) j) (n := l.length) (s := 1) (fun k hk1 hk => ?_) ?_ (l.length - 1) 1 (by omega) (by omega)
  · have w1 : Aside0 (wrap64 ((k : Int) + 1) = (k : Int) + 1) := ⟨wrap_id (by omega) (by omega)⟩
    have w2 : Aside0 (wrap64 ((k : Int) - 1) = (k : Int) - 1) := ⟨wrap_id (by omega) (by omega)⟩
    have w3 : Aside0 (wrap64 ((i : Int) - 1) = (i : Int) - 1) := ⟨wrap_id (by omega) (by omega)⟩
    · obtain ⟨a1, a2, a3, a4⟩ := gap_bd h i hi hi2
      obtain ⟨b1, b2, b3, b4⟩ := gap_bd h k hk1 hk
      obtain ⟨s1, s2, s3⟩ := gaps_small h hp i k hi hi2 hk1 hk
      have e1 : Aside0 (wrap64 (100 * (wrap64 ((wrap64 (((rd_T92 l (i : Int)).f1) - ((rd_T92 l ((i : Int) - 1)).f1))) * (wrap64 (((rd_T92 l (k : Int)).f0) - ((rd_T92 l ((k : Int) - 1)).f0)))))) = 100 * (dM l i * dT l k)) := ⟨by
        have x1 : wrap64 (((rd_T92 l (i : Int)).f1) - ((rd_T92 l ((i : Int) - 1)).f1)) = dM l i := wrap_id (by unfold dM at a3; omega) (by unfold dM at a4; omega)
        have x2 : wrap64 (((rd_T92 l (k : Int)).f0) - ((rd_T92 l ((k : Int) - 1)).f0)) = dT l k := wrap_id (by unfold dT at b1; omega) (by unfold dT at b2; omega)
        rw [x1, x2]
        clear x1 x2 w1 w2 w3
        rw [wrap_id (n := dM l i * dT l k) (by omega) (by omega), wrap_id (by omega) (by omega)]⟩
      have e2 : Aside0 (wrap64 ((wrap64 ((wrap64 (((rd_T92 l (k : Int)).f1) - ((rd_T92 l ((k : Int) - 1)).f1))) * (wrap64 (((rd_T92 l (i : Int)).f0) - ((rd_T92 l ((i : Int) - 1)).f0))))) * (wrap64 (100 + p))) = dM l k * dT l i * (100 + p)) := ⟨by
        have x1 : wrap64 (((rd_T92 l (k : Int)).f1) - ((rd_T92 l ((k : Int) - 1)).f1)) = dM l k := wrap_id (by unfold dM at b3; omega) (by unfold dM at b4; omega)
        have x2 : wrap64 (((rd_T92 l (i : Int)).f0) - ((rd_T92 l ((i : Int) - 1)).f0)) = dT l i := wrap_id (by unfold dT at a1; omega) (by unfold dT at a2; omega)
        rw [x1, x2]
        clear x1 x2 w1 w2 w3
        rw [wrap_id (n := dM l k * dT l i) (by omega) (by omega), wrap_id (n := 100 + p) (by omega) (by omega), wrap_id (by omega) (by omega)]⟩
      constructor
      · intro hc r' e'
        simp only [stC, decide_eq_true_eq] at hc
        refine ev_tail ?_
        simp only [spec_IsSteady.l1, w1.out, w2.out, w3.out, e1.out, e2.out]
        exact ev_pos (by omega) (ev_pos (by omega) (ev_pos (by omega) (ev_pos (by omega) (ev_pos (by omega) (ev_pos (by omega) (ev_pos (by omega) (ev_pos (by omega) (ev_neg (by omega) e'))))))))
      · intro hc
        simp only [stC, decide_eq_false_iff_not] at hc
        refine ev_tail ?_
        simp only [spec_IsSteady.l1, w1.out, w2.out, w3.out, e1.out, e2.out]
        exact ev_pos (by omega) (ev_pos (by omega) (ev_pos (by omega) (ev_pos (by omega) (ev_pos (by omega) (ev_pos (by omega) (ev_pos (by omega) (ev_pos (by omega) (ev_pos (by omega) (Ev.now _)))))))))
  · refine ev_tail ?_
    simp only [spec_IsSteady.l1]
    refine ev_neg (by omega) ?_
    rw [wrap_id (by omega) (by omega)]
    exact e
theorem specSteady_l0 (l : List S92) (p : Int) (h : arePM l = true) (hp : 0 ≤ p ∧ p ≤ 1000) (d : Nat) : ∀ i : Nat, 1 ≤ i → i + d = l.length → Ev (fun k => spec_IsSteady.l0 k l p (i : Int)) (allG (stC l p) (l.length - 1) 1 d i) := by
  induction d with
  | zero =>
    intro i hi hd
    refine ev_tail ?_
    simp only [spec_IsSteady.l0, allG]
    exact ev_neg (by omega) (Ev.now _)
  | succ d ih =>
    intro i hi hd
    have e := ih (i + 1) (by omega) (by omega)
    refine ev_tail ?_
    simp only [spec_IsSteady.l0, allG]
    refine ev_pos (by omega) ?_
    exact specSteady_l1 l p h hp i hi (by omega) (by simpa using e)
theorem specIsSteady_ev (l : List S92) (p : Int) (hl : l.length ≤ 1048576) : Ev (fun k => spec_IsSteady.f k l p) (steadyM l p) := by
  simp only [spec_IsSteady.f, l1In_eq, Option.bind_some, steadyM]
  refine Ev.bind (specArePoints_ev l hl) (ev_ite (fun h => ?_) (fun h => ?_))
  · rw [h, Bool.true_and]
    refine ev_tail ?_
    simp only [spec_IsSteady.j0]
    by_cases hp : 0 ≤ p ∧ p ≤ 1000
    · rw [decide_eq_true hp, Bool.true_and]
      refine ev_neg (by simp) ?_
      by_cases h0 : l.length = 0
      · refine ev_tail ?_
        simp only [spec_IsSteady.l0, h0, allG]
        exact ev_neg (by omega) (Ev.now _)
      · exact specSteady_l0 l p h hp (l.length - 1) 1 (by omega) (by omega)
    · rw [decide_eq_false hp, Bool.false_and]
      exact ev_pos (by simp) (Ev.now _)
  · rw [Bool.eq_false_iff.mpr h, Bool.false_and]
    refine ev_tail ?_
    simp only [spec_IsSteady.j0]
    exact ev_pos (by trivial) (Ev.now _)
/-- The gaps, a list. -/
def gapsU (l : List S92) (m : Nat) : List S92 := (List.range m).map fun j => ⟨dT l ((j + 1 : Nat) : Int), dM l ((j + 1 : Nat) : Int)⟩
theorem gapsU_length (l : List S92) (m : Nat) : (gapsU l m).length = m := by simp [gapsU]
theorem gapsU_at (l : List S92) (m j : Nat) (h : j < m) : rd_T92 (gapsU l m) (j : Int) = ⟨dT l ((j + 1 : Nat) : Int), dM l ((j + 1 : Nat) : Int)⟩ := by
  simp [rd_T92, gapsU, List.getD, h]
theorem gapsU_succ (l : List S92) (m : Nat) : gapsU l (m + 1) = gapsU l m ++ [⟨dT l ((m + 1 : Nat) : Int), dM l ((m + 1 : Nat) : Int)⟩] := by
  simp [gapsU, List.range_succ]
def stD (l : List S92) (p : Int) (i k : Int) : Bool := decide (100 * dM l (i + 1) * dT l (k + 1) ≤ (100 + p) * dM l (k + 1) * dT l (i + 1))
theorem implSteady_l2 (l : List S92) (p : Int) (h : arePM l = true) (hp : 0 ≤ p ∧ p ≤ 1000) (i : Nat) (hi2 : i + 1 < l.length) {r : Bool}
    (e : Ev (fun k => impl_IsSteady.l1 k p (gapsU l (l.length - 1)) (gapsU l (l.length - 1)) ((l.length - 1 : Nat) : Int) ((i : Int) + 1)) r) :
    Ev (fun k => impl_IsSteady.l2 k p (gapsU l (l.length - 1)) (gapsU l (l.length - 1)) ((l.length - 1 : Nat) : Int) (i : Int) (gapsU l (l.length - 1)) ((l.length - 1 : Nat) : Int) 0 (dT l ((i + 1 : Nat) : Int)) (dM l ((i + 1 : Nat) : Int)))
      (allF (stD l p (i : Int)) r (l.length - 1) 0) := by
  have hn := (arePM_facts h).1
  refine ev_all (L := fun k j => impl_IsSteady.l2 k p (gapsU l (l.length - 1)) (gapsU l (l.length - 1)) ((l.length - 1 : Nat) : Int) (i : Int) (gapsU l (l.length - 1)) ((l.length - 1 : Nat) : Int) j (dT l ((i + 1 : Nat) : Int)) (dM l ((i + 1 : Nat) : Int))) (n := l.length - 1) (fun k hk => ?_) ?_ (l.length - 1) 0 (by omega)
  · have w1 : Aside0 (wrap64 ((k : Int) + 1) = (k : Int) + 1) := ⟨wrap_id (by omega) (by omega)⟩
    have hg := gapsU_at l (l.length - 1) k hk
    obtain ⟨a1, a2, a3, a4⟩ := gap_bd h (i + 1) (by omega) hi2
    obtain ⟨b1, b2, b3, b4⟩ := gap_bd h (k + 1) (by omega) (by omega)
    obtain ⟨s1, s2, s3⟩ := gaps_small h hp (i + 1) (k + 1) (by omega) hi2 (by omega) (by omega)
    have t1 : 100 * dM l ((i + 1 : Nat) : Int) * dT l ((k + 1 : Nat) : Int) = 100 * (dM l ((i + 1 : Nat) : Int) * dT l ((k + 1 : Nat) : Int)) := Int.mul_assoc _ _ _
    have t2 : (100 + p) * dM l ((k + 1 : Nat) : Int) * dT l ((i + 1 : Nat) : Int) = dM l ((k + 1 : Nat) : Int) * dT l ((i + 1 : Nat) : Int) * (100 + p) := by
      rw [Int.mul_assoc, Int.mul_comm]
    have m4 := mul_bd (show 0 ≤ 100 + p by omega) (show 100 + p ≤ 1100 by omega) b3 b4
    have e1 : Aside0 (wrap64 ((wrap64 (100 * dM l ((i + 1 : Nat) : Int))) * dT l ((k + 1 : Nat) : Int)) = 100 * dM l ((i + 1 : Nat) : Int) * dT l ((k + 1 : Nat) : Int)) := ⟨by
      rw [wrap_id (n := 100 * dM l ((i + 1 : Nat) : Int)) (by omega) (by omega), wrap_id (by omega) (by omega)]⟩
    have e2 : Aside0 (wrap64 ((wrap64 ((wrap64 (100 + p)) * dM l ((k + 1 : Nat) : Int))) * dT l ((i + 1 : Nat) : Int)) = (100 + p) * dM l ((k + 1 : Nat) : Int) * dT l ((i + 1 : Nat) : Int)) := ⟨by
      rw [wrap_id (n := 100 + p) (by omega) (by omega), wrap_id (n := (100 + p) * dM l ((k + 1 : Nat) : Int)) (by omega) (by omega), wrap_id (by omega) (by omega)]⟩
    have c1 : ((i : Int) + 1) = ((i + 1 : Nat) : Int) := by omega
    have c2 : ((k : Int) + 1) = ((k + 1 : Nat) : Int) := by omega
    constructor
    · intro hc r' e'
      simp only [stD, c1, c2, decide_eq_true_eq] at hc
      refine ev_tail ?_
      simp only [impl_IsSteady.l2, w1.out, hg, e1.out, e2.out, gapsU_length]
      exact ev_pos (by omega) (ev_pos (by omega) (ev_pos (by omega) (ev_neg (by omega) e')))
    · intro hc
      simp only [stD, c1, c2, decide_eq_false_iff_not] at hc
      refine ev_tail ?_
      simp only [impl_IsSteady.l2, w1.out, hg, e1.out, e2.out, gapsU_length]
      exact ev_pos (by omega) (ev_pos (by omega) (ev_pos (by omega) (ev_pos (by omega) (Ev.now _))))
  · refine ev_tail ?_
    simp only [impl_IsSteady.l2]
    refine ev_neg (by omega) ?_
    rw [wrap_id (by omega) (by omega)]
    exact e
theorem implSteady_l1 (l : List S92) (p : Int) (h : arePM l = true) (hp : 0 ≤ p ∧ p ≤ 1000) (d : Nat) : ∀ i : Nat, i + d = l.length - 1 →
    Ev (fun k => impl_IsSteady.l1 k p (gapsU l (l.length - 1)) (gapsU l (l.length - 1)) ((l.length - 1 : Nat) : Int) (i : Int)) (allG (stD l p) (l.length - 1) 0 d i) := by
  induction d with
  | zero =>
    intro i hd
    refine ev_tail ?_
    simp only [impl_IsSteady.l1, allG]
    exact ev_neg (by omega) (Ev.now _)
  | succ d ih =>
    intro i hd
    have e := ih (i + 1) (by omega)
    have hg := gapsU_at l (l.length - 1) i (by omega)
    refine ev_tail ?_
    simp only [impl_IsSteady.l1, allG, hg, gapsU_length]
    refine ev_pos (by omega) (ev_pos (by omega) (ev_pos (by omega) ?_))
    exact implSteady_l2 l p h hp i (by omega) (by simpa using e)
theorem implSteady_l0 (l : List S92) (p : Int) (h : arePM l = true) (hp : 0 ≤ p ∧ p ≤ 1000) (d : Nat) : ∀ i : Nat, i + d = l.length - 1 →
    Ev (fun k => impl_IsSteady.l0 k l p (gapsU l i) ((i + 1 : Nat) : Int)) (allG (stD l p) (l.length - 1) 0 (l.length - 1) 0) := by
  have hn := (arePM_facts h).1
  induction d with
  | zero =>
    intro i hd
    obtain rfl : i = l.length - 1 := by omega
    refine ev_tail ?_
    simp only [impl_IsSteady.l0, gapsU_length]
    refine ev_neg (by omega) ?_
    exact implSteady_l1 l p h hp (l.length - 1) 0 (by omega)
  | succ d ih =>
    intro i hd
    have e := ih (i + 1) (by omega)
    obtain ⟨a1, a2, a3, a4⟩ := gap_bd h (i + 1) (by omega) (by omega)
    have w1 : Aside0 (wrap64 (((i + 1 : Nat) : Int) + 1) = ((i + 1 + 1 : Nat) : Int)) := ⟨wrap_succ (by omega)⟩
    have w2 : Aside0 (wrap64 (((i + 1 : Nat) : Int) - 1) = ((i + 1 : Nat) : Int) - 1) := ⟨wrap_id (by omega) (by omega)⟩
    have x1 : Aside0 (wrap64 (((rd_T92 l ((i + 1 : Nat) : Int)).f1) - ((rd_T92 l (((i + 1 : Nat) : Int) - 1)).f1)) = dM l ((i + 1 : Nat) : Int)) := ⟨wrap_id (by unfold dM at a3; omega) (by unfold dM at a4; omega)⟩
    have x2 : Aside0 (wrap64 (((rd_T92 l ((i + 1 : Nat) : Int)).f0) - ((rd_T92 l (((i + 1 : Nat) : Int) - 1)).f0)) = dT l ((i + 1 : Nat) : Int)) := ⟨wrap_id (by unfold dT at a1; omega) (by unfold dT at a2; omega)⟩
    refine ev_tail ?_
    simp only [impl_IsSteady.l0, w1.out, w2.out, x1.out, x2.out, gapsU_length]
    refine ev_pos (by omega) (ev_pos (by omega) (ev_pos (by omega) (ev_pos (by omega) (ev_pos (by omega) ?_))))
    rw [← gapsU_succ]
    exact e
theorem stD_eq (l : List S92) (p : Int) (n : Nat) : allG (stD l p) n 0 n 0 = allG (stC l p) n 1 n 1 := by
  rw [Bool.eq_iff_iff, allG_iff, allG_iff]
  have key : ∀ i k : Nat, stD l p (i : Int) (k : Int) = stC l p ((i + 1 : Nat) : Int) ((k + 1 : Nat) : Int) := by
    intro i k
    unfold stD stC
    rw [show ((i : Int) + 1) = ((i + 1 : Nat) : Int) by omega, show ((k : Int) + 1) = ((k + 1 : Nat) : Int) by omega, Int.mul_assoc 100, Int.mul_assoc (100 + p), Int.mul_comm (100 + p)]
  constructor
  · intro h a h1 h2 b h3 h4
    have := h (a - 1) (by omega) (by omega) (b - 1) (by omega) (by omega)
    rw [key, show a - 1 + 1 = a by omega, show b - 1 + 1 = b by omega] at this
    exact this
  · intro h a h1 h2 b h3 h4
    rw [key]
    exact h (a + 1) (by omega) (by omega) (b + 1) (by omega) (by omega)
theorem implIsSteady_ev (l : List S92) (p : Int) (hl : l.length ≤ 1048576) : Ev (fun k => impl_IsSteady.f k l p) (steadyM l p) := by
  simp only [impl_IsSteady.f, InRange_eq, Option.bind_some, steadyM]
  refine Ev.bind (implArePoints_ev l hl) (ev_ite (fun h => ?_) (fun h => ?_))
  · rw [h, Bool.true_and]
    refine ev_tail ?_
    simp only [impl_IsSteady.j0]
    by_cases hp : 0 ≤ p ∧ p ≤ 1000
    · rw [decide_eq_true hp, Bool.true_and, ← stD_eq]
      refine ev_neg (by simp) ?_
      exact implSteady_l0 l p h hp (l.length - 1) 0 (by omega)
    · rw [decide_eq_false hp, Bool.false_and]
      exact ev_pos (by simp) (Ev.now _)
  · rw [Bool.eq_false_iff.mpr h, Bool.false_and]
    refine ev_tail ?_
    simp only [impl_IsSteady.j0]
    exact ev_pos (by trivial) (Ev.now _)

theorem FnExactIsSteady : ∀ (l0 : List (S94)) (a1 : Int), (l0.length ≤ maxLen) → (∀ x ∈ l0, ((Lit.int .i64 x.f0).wf = true) ∧ ((Lit.int .i64 x.f1).wf = true)) → (Lit.int .i64 a1).wf = true → ∃ k, laws_FnExactIsSteady.f k l0 a1 = some true := by
  intro l p hl _ _
  refine Ev.rounds ?_
  simp only [laws_FnExactIsSteady.f]
  obtain ⟨r, hr, hb⟩ := szPointS_some l hl
  refine ev_val hr (ev_ite (fun _ => Ev.now _) (fun h => ?_))
  have hn := hb h
  have hm : (l.map cvPoint).length ≤ 1048576 := by rw [List.length_map]; exact hn
  refine Ev.bind (toPointS_ev l hn) (Ev.bind (specIsSteady_ev _ p hm) (Ev.bind (toPointS_ev l hn) (Ev.bind (implIsSteady_ev _ p hm) (ev_neg (by simp) ?_))))
  exact Ev.bind (toPointS_ev l hn) (Ev.bind (eqPointS_ev _ hm) (ev_pos (by trivial) (Ev.now _)))
end Go.Proofs.Ytoigficcabmoeaa.Pure
