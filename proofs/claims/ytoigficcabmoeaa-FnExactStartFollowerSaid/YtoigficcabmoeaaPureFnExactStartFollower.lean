/-
StartFollower of the program and of the reference: the same answer.
Conditions: none.
-/
import Derived.Test.YtoigficcabmoeaaPFnExactStartFollowerx2
import Derived.Test.YtoigficcabmoeaaBase
namespace Go.Proofs.Ytoigficcabmoeaa.Pure
open Go.RowKit Go.Proofs.Ytoigficcabmoeaa.PFnExactStartFollower Go.Proofs.YtoigficcabmoeaaW.PrintWords Go.Proofs.YtoigficcabmoeaaW.PrintLast Go.Proofs.YtoigficcabmoeaaW.PrintMore Go.Proofs.Ytoigficcabmoeaa.Base
set_option linter.unusedVariables false
set_option linter.unusedSimpArgs false

theorem toIntS_l0 (suf : List Int) : ∀ pre : List Int, (pre ++ suf).length ≤ 35184372088832 → Ev (fun k => laws_toIntS.l0 k (pre ++ suf) (pre ++ List.replicate suf.length 0) (pre.length : Int)) (pre ++ suf) := by
  induction suf with
  | nil =>
    intro pre h
    refine ev_tail ?_
    simp only [laws_toIntS.l0]
    refine ev_neg (by simp) ?_
    simpa using Ev.now pre
  | cons x t ih =>
    intro pre h
    have e := ih (pre ++ [x]) (by simpa using h)
    simp only [List.length_append, List.length_cons] at h
    refine ev_tail ?_
    simp only [laws_toIntS.l0]
    refine ev_pos (by simp; omega) (ev_pos (by omega) (ev_pos (by simp; omega) ?_))
    rw [rd_mid, List.length_cons, List.replicate_succ, set_mid, wrap_succ (by omega), snoc_cons pre x t, snoc_cons pre x (List.replicate t.length 0), ← length_snoc pre x]
    exact e
theorem toIntS_ev (l : List Int) (h : l.length ≤ 35184372088832) : Ev (fun k => laws_toIntS.f k l) l := by
  simp only [laws_toIntS.f]
  refine ev_pos (by omega) (ev_pos (by omega) ?_)
  exact toIntS_l0 l [] (by simpa using h)

theorem eqIntS_l0 (suf : List Int) : ∀ pre : List Int, (pre ++ suf).length ≤ 35184372088832 → Ev (fun k => laws_eqIntS.l0 k (pre ++ suf) (pre ++ suf) (pre.length : Int)) true := by
  induction suf with
  | nil =>
    intro pre h
    refine ev_tail ?_
    simp only [laws_eqIntS.l0]
    exact ev_neg (by simp) (Ev.now true)
  | cons x t ih =>
    intro pre h
    have e := ih (pre ++ [x]) (by simpa using h)
    simp only [List.length_append, List.length_cons] at h
    refine ev_tail ?_
    simp only [laws_eqIntS.l0]
    refine ev_pos (by simp; omega) (ev_pos (by omega) (ev_pos (by simp; omega) (ev_pos (by trivial) ?_)))
    rw [wrap_succ (by omega), snoc_cons pre x t, ← length_snoc pre x]
    exact e
theorem eqIntS_ev (l : List Int) (h : l.length ≤ 35184372088832) : Ev (fun k => laws_eqIntS.f k l l) true := by
  simp only [laws_eqIntS.f]
  refine ev_pos (by trivial) ?_
  exact eqIntS_l0 l [] (by simpa using h)

theorem eqFollower_ev (l : List Int) (x : Int) (h : l.length ≤ 35184372088832) : Ev (fun k => laws_eqFollower.f k l x l x) true := by
  simp only [laws_eqFollower.f]
  exact Ev.bind (eqIntS_ev l h) (ev_pos (by trivial) (ev_pos (by trivial) (Ev.now _)))

theorem markIntS_l0 (suf : List Int) : ∀ (pre : List Int) (m : Int), (pre ++ suf).length ≤ 35184372088832 → 0 ≤ m → m + suf.length ≤ 9223372036854775807 → Ev (fun k => laws_markIntS.l0 k (pre ++ suf) m (pre.length : Int)) (m + suf.length, pre ++ marks suf.length m) := by
  induction suf with
  | nil =>
    intro pre m h h0 h1
    refine ev_tail ?_
    simp only [laws_markIntS.l0]
    refine ev_neg (by simp) ?_
    simpa [marks] using Ev.now _
  | cons y t ih =>
    intro pre m h h0 h1
    simp only [List.length_cons] at h1
    have e := ih (pre ++ [m]) (m + 1) (by simpa using h) (by omega) (by omega)
    simp only [List.length_append, List.length_cons] at h
    refine ev_tail ?_
    simp only [laws_markIntS.l0]
    refine ev_pos (by simp; omega) (ev_pos (by omega) ?_)
    rw [set_mid, wrap_succ (by omega), wrap_id (n := m + 1) (by omega) (by omega), snoc_cons pre m t, ← length_snoc pre m]
    refine ev_eq e ?_
    simp only [marks, List.length_cons, List.append_assoc, List.singleton_append]
    congr 1
    omega
theorem markIntS_ev (l : List Int) (m : Int) (h : l.length ≤ 35184372088832) (h0 : 0 ≤ m) (h1 : m + l.length ≤ 9223372036854775807) : Ev (fun k => laws_markIntS.f k l m) (m + l.length, marks l.length m) := by
  simp only [laws_markIntS.f]
  exact markIntS_l0 l [] m (by simpa using h) h0 h1

theorem heldIntS_l0 (n : Nat) : ∀ (pre : List Int) (m : Int), pre.length + n ≤ 35184372088832 → 0 ≤ m → m + n ≤ 9223372036854775807 → Ev (fun k => laws_heldIntS.l0 k (pre ++ marks n m) m (pre.length : Int)) (m + n) := by
  induction n with
  | zero =>
    intro pre m h h0 h1
    refine ev_tail ?_
    simp only [laws_heldIntS.l0]
    refine ev_neg (by simp [marks]) ?_
    simpa using Ev.now m
  | succ n ih =>
    intro pre m h h0 h1
    have e := ih (pre ++ [m]) (m + 1) (by simp; omega) (by omega) (by omega)
    refine ev_tail ?_
    simp only [laws_heldIntS.l0, marks]
    refine ev_pos (by simp [marks_length]; omega) (ev_pos (by omega) (ev_pos (rd_mid pre m _) ?_))
    rw [wrap_succ (by omega), wrap_id (n := m + 1) (by omega) (by omega), snoc_cons pre m (marks n (m + 1)), ← length_snoc pre m]
    exact ev_eq e (by omega)
theorem heldIntS_ev (n : Nat) (m : Int) (h : n ≤ 35184372088832) (h0 : 0 ≤ m) (h1 : m + n ≤ 9223372036854775807) : Ev (fun k => laws_heldIntS.f k (marks n m) m) (m + n) := by
  simp only [laws_heldIntS.f]
  exact heldIntS_l0 n [] m (by simpa using h) h0 h1

theorem markFollower_ev (l : List Int) (x m : Int) (h : l.length ≤ 35184372088832) (h0 : 0 ≤ m) (h1 : m + l.length ≤ 9223372036854775807) : Ev (fun k => laws_markFollower.f k l x m) (m + l.length, marks l.length m) := by
  simp only [laws_markFollower.f]
  exact Ev.bind (markIntS_ev l m h h0 h1) (Ev.now _)
theorem heldFollower_ev (n : Nat) (x m : Int) (h : n ≤ 35184372088832) (h0 : 0 ≤ m) (h1 : m + n ≤ 9223372036854775807) : Ev (fun k => laws_heldFollower.f k (marks n m) x m) (m + n) := by
  simp only [laws_heldFollower.f]
  exact Ev.bind (heldIntS_ev n m h h0 h1) (ev_neg (by omega) (Ev.now _))

/-- 0, 1, .. -/
def countI (n : Nat) : List Int := (List.range n).map fun (j : Nat) => (j : Int)
theorem countI_succ (n : Nat) : countI (n + 1) = countI n ++ [(n : Int)] := by simp [countI, List.range_succ]
theorem countI_length (n : Nat) : (countI n).length = n := by simp [countI]
def startM (t : List Int) : List Int × Int × Bool := if t.length ≤ 40 then (countI (t.length + 1), 0, true) else ([], 0, false)
theorem specStart_l0 (t : List Int) (h : t.length ≤ 40) (d : Nat) : ∀ i, i + d = t.length + 1 → Ev (fun k => spec_StartFollower.l0 k t (i : Int) (countI i) 0) (countI (t.length + 1), 0, true) := by
  induction d with
  | zero =>
    intro i hi
    refine ev_tail ?_
    simp only [spec_StartFollower.l0]
    obtain rfl : i = t.length + 1 := by omega
    exact ev_neg (by omega) (Ev.now _)
  | succ d ih =>
    intro i hi
    have e := ih (i + 1) (by omega)
    refine ev_tail ?_
    simp only [spec_StartFollower.l0]
    refine ev_pos (by omega) (ev_pos (by rw [countI_length]; omega) ?_)
    rw [wrap_succ (by omega), ← countI_succ]
    exact e
theorem implStart_l0 (n : Nat) (h : n ≤ 41) (d : Nat) : ∀ i, i + d = n → Ev (fun k => impl_StartFollower.l0 k (n : Int) (i : Int) (countI i) 0) (countI n, 0, true) := by
  induction d with
  | zero =>
    intro i hi
    refine ev_tail ?_
    simp only [impl_StartFollower.l0]
    obtain rfl : i = n := by omega
    exact ev_neg (by omega) (Ev.now _)
  | succ d ih =>
    intro i hi
    have e := ih (i + 1) (by omega)
    refine ev_tail ?_
    simp only [impl_StartFollower.l0]
    refine ev_pos (by omega) (ev_pos (by rw [countI_length]; omega) ?_)
    rw [wrap_succ (by omega), ← countI_succ]
    exact e
theorem specStartFollower_ev (t : List Int) : Ev (fun k => spec_StartFollower.f k t) (startM t) := by
  simp only [spec_StartFollower.f, startM]
  by_cases h : t.length ≤ 40
  · rw [if_pos h]
    have e := specStart_l0 t h (t.length + 1) 0 (by omega)
    exact ev_neg (by omega) (by simpa [countI] using e)
  · rw [if_neg h]
    exact ev_pos (by omega) (Ev.now _)
theorem implStartFollower_ev (t : List Int) : Ev (fun k => impl_StartFollower.f k t) (startM t) := by
  simp only [impl_StartFollower.f, startM]
  by_cases h : t.length ≤ 40
  · rw [if_pos h]
    refine ev_neg (by omega) ?_
    rw [wrap_succ (by omega)]
    have e := implStart_l0 (t.length + 1) (by omega) (t.length + 1) 0 (by omega)
    simpa [countI] using e
  · rw [if_neg h]
    exact ev_pos (by omega) (Ev.now _)
theorem startM_length (t : List Int) : (startM t).1.length ≤ 41 := by
  unfold startM
  split
  · simp [countI_length]; omega
  · simp

theorem FnExactStartFollower : ∀ (l0 : List (Int)), (l0.length ≤ maxLen) → (∀ x ∈ l0, (Lit.int .i64 x).wf = true) → ∃ k, laws_FnExactStartFollower.f k l0 = some true := by
  intro t _ _
  refine Ev.rounds ?_
  simp only [laws_FnExactStartFollower.f]
  refine ev_ite (fun _ => Ev.now _) (fun h => ?_)
  have ht : t.length ≤ 35184372088832 := by omega
  have hs := startM_length t
  have hc : (startM t).1.length ≤ 35184372088832 := by omega
  refine Ev.bind (toIntS_ev t ht) (Ev.bind (specStartFollower_ev t) (Ev.bind (toIntS_ev t ht) (Ev.bind (implStartFollower_ev t) ?_)))
  refine Ev.bind (eqFollower_ev _ _ hc) (ev_pos (by trivial) (ev_tail ?_))
  simp only [laws_FnExactStartFollower.j0]
  refine ev_neg (by simp) (Ev.bind (toIntS_ev t ht) (Ev.bind (eqIntS_ev t ht) (ev_pos (by trivial) ?_)))
  refine Ev.bind (markIntS_ev t 1 ht (by omega) (by omega)) (ev_neg (by simp; omega) ?_)
  refine Ev.bind (eqFollower_ev _ _ hc) (ev_pos (by trivial) (ev_tail ?_))
  simp only [laws_FnExactStartFollower.j1]
  refine ev_neg (by simp) (Ev.bind (markFollower_ev _ _ 1 hc (by omega) (by omega)) ?_)
  refine Ev.bind (heldFollower_ev _ _ 1 hc (by omega) (by omega)) (ev_neg (by omega) (ev_pos (by trivial) ?_))
  refine Ev.bind (toIntS_ev t ht) (Ev.bind (implStartFollower_ev t) (Ev.bind (eqFollower_ev _ _ hc) (ev_pos (by trivial) (ev_tail ?_))))
  simp only [laws_FnExactStartFollower.j2]
  refine ev_neg (by simp) (Ev.bind (heldFollower_ev _ _ 1 hc (by omega) (by omega)) (ev_neg (by omega) (ev_pos (by trivial) (Ev.now _))))
end Go.Proofs.Ytoigficcabmoeaa.Pure
