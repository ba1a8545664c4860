/-
PathCost of the program and of the reference: the same answer.
Conditions: none.
-/
import Derived.Test.YtoigficcabmoeaaPFnExactPathCostx4
import Derived.Test.YtoigficcabmoeaaBase
namespace Go.Proofs.Ytoigficcabmoeaa.Pure
open Go.RowKit Go.Proofs.Ytoigficcabmoeaa.PFnExactPathCost Go.Proofs.YtoigficcabmoeaaW.PrintWords Go.Proofs.YtoigficcabmoeaaW.PrintLast Go.Proofs.YtoigficcabmoeaaW.PrintMore Go.Proofs.Ytoigficcabmoeaa.Base
set_option linter.unusedVariables false
set_option linter.unusedSimpArgs false

theorem toIntS_l0 (suf : List Int) : ∀ pre : List Int, (pre ++ suf).length ≤ 35184372088832 → Ev (fun k => laws_toIntS.l0 k (pre ++ suf) (pre ++ List.replicate suf.length 0) (pre.length : Int)) (pre ++ suf) := by
  induction suf with
  | nil =>
    intro pre h
    refine ev_tail ?_
    simp only [laws_toIntS.l0]
    refine ev_neg (by simp) ?_
    simpa using Ev.now pre
  | cons x t ih =>
    intro pre h
    have e := ih (pre ++ [x]) (by simpa using h)
    simp only [List.length_append, List.length_cons] at h
    refine ev_tail ?_
    simp only [laws_toIntS.l0]
    refine ev_pos (by simp; omega) (ev_pos (by omega) (ev_pos (by simp; omega) ?_))
    rw [rd_mid, List.length_cons, List.replicate_succ, set_mid, wrap_succ (by omega), snoc_cons pre x t, snoc_cons pre x (List.replicate t.length 0), ← length_snoc pre x]
    exact e
theorem toIntS_ev (l : List Int) (h : l.length ≤ 35184372088832) : Ev (fun k => laws_toIntS.f k l) l := by
  simp only [laws_toIntS.f]
  refine ev_pos (by omega) (ev_pos (by omega) ?_)
  exact toIntS_l0 l [] (by simpa using h)

theorem eqIntS_l0 (suf : List Int) : ∀ pre : List Int, (pre ++ suf).length ≤ 35184372088832 → Ev (fun k => laws_eqIntS.l0 k (pre ++ suf) (pre ++ suf) (pre.length : Int)) true := by
  induction suf with
  | nil =>
    intro pre h
    refine ev_tail ?_
    simp only [laws_eqIntS.l0]
    exact ev_neg (by simp) (Ev.now true)
  | cons x t ih =>
    intro pre h
    have e := ih (pre ++ [x]) (by simpa using h)
    simp only [List.length_append, List.length_cons] at h
    refine ev_tail ?_
    simp only [laws_eqIntS.l0]
    refine ev_pos (by simp; omega) (ev_pos (by omega) (ev_pos (by simp; omega) (ev_pos (by trivial) ?_)))
    rw [wrap_succ (by omega), snoc_cons pre x t, ← length_snoc pre x]
    exact e
theorem eqIntS_ev (l : List Int) (h : l.length ≤ 35184372088832) : Ev (fun k => laws_eqIntS.f k l l) true := by
  simp only [laws_eqIntS.f]
  refine ev_pos (by trivial) ?_
  exact eqIntS_l0 l [] (by simpa using h)

def cvPair (x : S99) : S97 := ⟨x.f0, x.f1⟩
theorem rdLPair (pre : List S99) (x : S99) (t : List S99) : rd_T99 (pre ++ x :: t) ((pre.length : Nat) : Int) = x := getD_mid pre x t z99
theorem rdIPair (pre : List S97) (x : S97) (t : List S97) : rd_T97 (pre ++ x :: t) ((pre.length : Nat) : Int) = x := getD_mid pre x t z97
theorem toPairS_l0 (suf : List S99) : ∀ pre : List S99, (pre ++ suf).length ≤ 1048576 → Ev (fun k => laws_toPairS.l0 k (pre ++ suf) (pre.map cvPair ++ List.replicate suf.length z97) (pre.length : Int)) ((pre ++ suf).map cvPair) := by
  induction suf with
  | nil =>
    intro pre h
    refine ev_tail ?_
    simp only [laws_toPairS.l0]
    refine ev_neg (by simp) ?_
    exact ev_eq (Ev.now _) (by simp)
  | cons x t ih =>
    intro pre h
    have e := ih (pre ++ [x]) (by simpa using h)
    simp only [List.length_append, List.length_cons] at h
    refine ev_tail ?_
    simp only [laws_toPairS.l0, laws_toPair.f, Option.bind_some]
    refine ev_pos (by simp; omega) (ev_pos (by omega) (ev_pos (by simp; omega) ?_))
    rw [rdLPair, List.length_cons, List.replicate_succ]
    have e1 : (pre.map cvPair ++ z97 :: List.replicate t.length z97).set ((pre.length : Nat) : Int).toNat (⟨x.f0, x.f1⟩ : S97) = (pre ++ [x]).map cvPair ++ List.replicate t.length z97 := by
      simp [cvPair]
    rw [e1, wrap_succ (by omega), snoc_cons pre x t, ← length_snoc pre x]
    exact e
theorem toPairS_ev (l : List S99) (h : l.length ≤ 1048576) : Ev (fun k => laws_toPairS.f k l) (l.map cvPair) := by
  simp only [laws_toPairS.f]
  refine ev_pos (by omega) (ev_pos (by omega) ?_)
  exact toPairS_l0 l [] (by simpa using h)

theorem eqPairS_l0 (suf : List S97) : ∀ pre : List S97, (pre ++ suf).length ≤ 1048576 → Ev (fun k => laws_eqPairS.l0 k (pre ++ suf) (pre ++ suf) (pre.length : Int)) true := by
  induction suf with
  | nil =>
    intro pre h
    refine ev_tail ?_
    simp only [laws_eqPairS.l0]
    exact ev_neg (by simp) (Ev.now true)
  | cons x t ih =>
    intro pre h
    have e := ih (pre ++ [x]) (by simpa using h)
    simp only [List.length_append, List.length_cons] at h
    refine ev_tail ?_
    simp only [laws_eqPairS.l0, laws_eqPair.f, if_true, Option.bind_some]
    refine ev_pos (by simp; omega) (ev_pos (by omega) (ev_pos (by simp; omega) ?_))
    rw [wrap_succ (by omega), snoc_cons pre x t, ← length_snoc pre x]
    exact e
theorem eqPairS_ev (l : List S97) (h : l.length ≤ 1048576) : Ev (fun k => laws_eqPairS.f k l l) true := by
  simp only [laws_eqPairS.f]
  refine ev_pos (by trivial) ?_
  exact eqPairS_l0 l [] (by simpa using h)

theorem szPairS_some (l : List S99) (h : l.length ≤ maxLen) : ∃ r, laws_szPairS.f l 1048576 = some r ∧ (¬ r < 0 → l.length ≤ 1048576) := by
  have hm : maxLen = 9223372036854775807 := rfl
  unfold laws_szPairS.f
  rw [wrap_id (by omega) (by omega)]
  by_cases h0 : (1048576 : Int) - (l.length : Int) < 0
  · exact ⟨-1, by rw [if_pos h0], fun h => absurd (by omega) h⟩
  · exact ⟨_, by rw [if_neg h0], fun _ => by omega⟩

/-- The cost of the rest of a path, from the places i and j on; -1: it is none. -/
def pcGo (a b : List Int) : List S97 → Nat → Nat → Nat → Int
  | [], i, j, n => if i = a.length ∧ j = b.length then (n : Int) else -1
  | x :: t, i, j, n =>
    if x.f0 = (i : Int) ∧ x.f1 = (j : Int) ∧ i < a.length ∧ j < b.length then pcGo a b t (i + 1) (j + 1) (if a.getD i 0 = b.getD j 0 then n else n + 1)
    else if x.f0 = (i : Int) ∧ x.f1 = -1 ∧ i < a.length then pcGo a b t (i + 1) j (n + 1)
    else if x.f0 = -1 ∧ x.f1 = (j : Int) ∧ j < b.length then pcGo a b t i (j + 1) (n + 1)
    else -1
def pathM (a b : List Int) (l : List S97) : Int := pcGo a b l 0 0 0
theorem specPath_j1_true (a b : List Int) (l : List S97) (n i j q p0 p1 : Int) : Ev (fun k => spec_PathCost.j1 k a b l n i j q true p0 p1) (-1) := by
  refine ev_tail ?_
  simp only [spec_PathCost.j1]
  exact ev_pos (by trivial) (Ev.now _)
theorem specPath_l0 (a b : List Int) (ha : a.length ≤ 1048576) (hb : b.length ≤ 1048576) (suf : List S97) : ∀ (pre : List S97) (i j n : Nat), (pre ++ suf).length ≤ 1048576 → i ≤ a.length → j ≤ b.length → n ≤ i + j →
    Ev (fun k => spec_PathCost.l0 k a b (pre ++ suf) (n : Int) (i : Int) (j : Int) (pre.length : Int)) (pcGo a b suf i j n) := by
  induction suf with
  | nil =>
    intro pre i j n h hi hj hn
    refine ev_tail ?_
    simp only [spec_PathCost.l0, pcGo]
    refine ev_neg (by simp) (ev_ite (fun h1 => ev_ite (fun h2 => ?_) (fun h2 => ?_)) (fun h1 => ?_))
    · rw [if_pos (by omega)]; exact Ev.now _
    · rw [if_neg (by omega)]; exact Ev.now _
    · rw [if_neg (by omega)]; exact Ev.now _
  | cons x t ih =>
    intro pre i j n h hi hj hn
    have e := fun i' j' n' => ih (pre ++ [x]) i' j' n' (by simpa using h)
    have hlen : pre.length + (t.length + 1) ≤ 1048576 := by simpa using h
    have w1 : Aside0 (wrap64 ((pre.length : Int) + 1) = ((pre.length + 1 : Nat) : Int)) := ⟨wrap_succ (by omega)⟩
    have wi : Aside0 (wrap64 ((i : Int) + 1) = ((i + 1 : Nat) : Int)) := ⟨wrap_succ (by omega)⟩
    have wj : Aside0 (wrap64 ((j : Int) + 1) = ((j + 1 : Nat) : Int)) := ⟨wrap_succ (by omega)⟩
    have wn : Aside0 (wrap64 ((n : Int) + 1) = ((n + 1 : Nat) : Int)) := ⟨wrap_succ (by omega)⟩
    have hr : Aside0 (rd_T97 (pre ++ x :: t) ((pre.length : Nat) : Int) = x) := ⟨getD_mid pre x t _⟩
    refine ev_tail ?_
    simp only [spec_PathCost.l0, pcGo, hr.out]
    refine ev_pos (by simp; omega) (ev_pos (by omega) ?_)
    by_cases hA : x.f0 = (i : Int) ∧ x.f1 = (j : Int) ∧ i < a.length ∧ j < b.length
    · obtain ⟨h0, h1, h2, h3⟩ := hA
      rw [if_pos ⟨h0, h1, h2, h3⟩]
      refine ev_neg (by omega) (ev_pos h0 (ev_neg (by omega) (ev_pos h1 (ev_neg (by omega) (ev_tail ?_)))))
      simp only [spec_PathCost.j1]
      refine ev_neg (by simp; omega) (ev_neg (by omega) (ev_neg (by omega) (ev_pos (by omega) (ev_pos (by omega) (ev_pos (by omega) (ev_pos (by omega) (ev_tail ?_)))))))
      simp only [spec_PathCost.j2, rd_nat]
      by_cases heq : a.getD i 0 = b.getD j 0
      · rw [if_pos heq]
        refine ev_neg (by rw [heq]; simp) (ev_tail ?_)
        simp only [spec_PathCost.j3]
        refine ev_neg (by omega) (ev_neg (by omega) ?_)
        rw [w1.out, wi.out, wj.out, snoc_cons pre x t, ← length_snoc pre x]
        exact e _ _ _ (by omega) (by omega) (by omega)
      · rw [if_neg heq]
        refine ev_pos (by simpa using heq) (ev_tail ?_)
        simp only [spec_PathCost.j3]
        refine ev_neg (by omega) (ev_neg (by omega) ?_)
        rw [w1.out, wi.out, wj.out, wn.out, snoc_cons pre x t, ← length_snoc pre x]
        exact e _ _ _ (by omega) (by omega) (by omega)
    · rw [if_neg hA]
      by_cases hB : x.f0 = (i : Int) ∧ x.f1 = -1 ∧ i < a.length
      · obtain ⟨h0, h1, h2⟩ := hB
        rw [if_pos ⟨h0, h1, h2⟩]
        refine ev_neg (by omega) (ev_pos h0 (ev_pos h1 (ev_neg (by omega) (ev_tail ?_))))
        simp only [spec_PathCost.j1]
        refine ev_neg (by simp) (ev_neg (by omega) (ev_pos h1 (ev_tail ?_)))
        simp only [spec_PathCost.j2]
        refine ev_pos (by trivial) (ev_tail ?_)
        simp only [spec_PathCost.j3]
        refine ev_neg (by omega) (ev_pos h1 ?_)
        rw [w1.out, wi.out, wn.out, snoc_cons pre x t, ← length_snoc pre x]
        exact e _ _ _ (by omega) (by omega) (by omega)
      · rw [if_neg hB]
        by_cases hC : x.f0 = -1 ∧ x.f1 = (j : Int) ∧ j < b.length
        · obtain ⟨h0, h1, h2⟩ := hC
          rw [if_pos ⟨h0, h1, h2⟩]
          refine ev_pos h0 (ev_neg (by omega) (ev_pos h1 (ev_tail ?_)))
          simp only [spec_PathCost.j1]
          refine ev_neg (by simp; omega) (ev_pos h0 (ev_tail ?_))
          simp only [spec_PathCost.j2]
          refine ev_pos (by trivial) (ev_tail ?_)
          simp only [spec_PathCost.j3]
          refine ev_pos h0 (ev_neg (by omega) ?_)
          rw [w1.out, wj.out, wn.out, snoc_cons pre x t, ← length_snoc pre x]
          exact e _ _ _ (by omega) (by omega) (by omega)
        · rw [if_neg hC]
          have tr := fun p0 p1 => specPath_j1_true a b (pre ++ x :: t) (n : Int) (i : Int) (j : Int) (pre.length : Int) p0 p1
          refine ev_ite (fun h0 => ev_ite (fun h1 => tr _ _) (fun h1 => ev_ite (fun h2 => ?_) (fun h2 => tr _ _))) (fun h0 => ev_ite (fun h1 => ev_ite (fun h2 => ev_ite (fun h3 => tr _ _) (fun h3 => ?_)) (fun h2 => ev_ite (fun h3 => ev_ite (fun h4 => tr _ _) (fun h4 => ?_)) (fun h3 => tr _ _))) (fun h1 => tr _ _))
          · rw [show decide ((j : Int) ≥ (b.length : Int)) = true by simp; omega]; exact tr _ _
          · exact absurd ⟨h1, h2, by omega⟩ hB
          · rw [show decide ((j : Int) ≥ (b.length : Int)) = true by simp; omega]; exact tr _ _
theorem specPathCost_ev (a b : List Int) (l : List S97) (ha : a.length ≤ 1048576) (hb : b.length ≤ 1048576) (hl : l.length ≤ 1048576) : Ev (fun k => spec_PathCost.f k a b l) (pathM a b l) := by
  simp only [spec_PathCost.f]
  exact specPath_l0 a b ha hb l [] 0 0 0 (by simpa using hl) (by omega) (by omega) (by omega)
theorem implPath_l0 (a b : List Int) (ha : a.length ≤ 1048576) (hb : b.length ≤ 1048576) (suf : List S97) : ∀ (pre : List S97) (i j n : Nat), (pre ++ suf).length ≤ 1048576 → i ≤ a.length → j ≤ b.length → n ≤ i + j →
    Ev (fun k => impl_PathCost.l0 k a b (i : Int) (j : Int) (n : Int) (pre ++ suf) ((pre ++ suf).length : Int) (pre.length : Int)) (pcGo a b suf i j n) := by
  induction suf with
  | nil =>
    intro pre i j n h hi hj hn
    refine ev_tail ?_
    simp only [impl_PathCost.l0, pcGo]
    refine ev_neg (by simp) (ev_ite (fun h1 => ev_ite (fun h2 => ?_) (fun h2 => ?_)) (fun h1 => ?_))
    · rw [if_pos (by omega)]; exact Ev.now _
    · rw [if_neg (by omega)]; exact Ev.now _
    · rw [if_neg (by omega)]; exact Ev.now _
  | cons x t ih =>
    intro pre i j n h hi hj hn
    have e := fun i' j' n' => ih (pre ++ [x]) i' j' n' (by simpa using h)
    have hlen : pre.length + (t.length + 1) ≤ 1048576 := by simpa using h
    have w1 : Aside0 (wrap64 ((pre.length : Int) + 1) = ((pre.length + 1 : Nat) : Int)) := ⟨wrap_succ (by omega)⟩
    have wi : Aside0 (wrap64 ((i : Int) + 1) = ((i + 1 : Nat) : Int)) := ⟨wrap_succ (by omega)⟩
    have wj : Aside0 (wrap64 ((j : Int) + 1) = ((j + 1 : Nat) : Int)) := ⟨wrap_succ (by omega)⟩
    have wn : Aside0 (wrap64 ((n : Int) + 1) = ((n + 1 : Nat) : Int)) := ⟨wrap_succ (by omega)⟩
    have wn0 : Aside0 (wrap64 ((n : Int) + 0) = (n : Int)) := ⟨by rw [Int.add_zero]; exact wrap_id (by omega) (by omega)⟩
    have hr : Aside0 (rd_T97 (pre ++ x :: t) ((pre.length : Nat) : Int) = x) := ⟨getD_mid pre x t _⟩
    refine ev_tail ?_
    simp only [impl_PathCost.l0, pcGo, hr.out]
    refine ev_pos (by simp; omega) (ev_pos (by omega) (ev_pos (by simp; omega) ?_))
    by_cases hA : x.f0 = (i : Int) ∧ x.f1 = (j : Int) ∧ i < a.length ∧ j < b.length
    · obtain ⟨h0, h1, h2, h3⟩ := hA
      rw [if_pos ⟨h0, h1, h2, h3⟩]
      refine ev_pos h0 (ev_pos h1 (ev_pos (by omega) (ev_tail ?_)))
      simp only [impl_PathCost.j1, rd_nat, impl_unlike.f]
      refine ev_pos (by simp; omega) (ev_pos (by omega) (ev_pos (by omega) (ev_pos (by omega) (ev_pos (by omega) ?_))))
      by_cases heq : a.getD i 0 = b.getD j 0
      · rw [if_pos heq, if_pos heq]
        simp only [Option.bind_some]
        rw [w1.out, wi.out, wj.out, wn0.out, snoc_cons pre x t, ← length_snoc pre x]
        exact e _ _ _ (by omega) (by omega) (by omega)
      · rw [if_neg heq, if_neg heq]
        simp only [Option.bind_some]
        rw [w1.out, wi.out, wj.out, wn.out, snoc_cons pre x t, ← length_snoc pre x]
        exact e _ _ _ (by omega) (by omega) (by omega)
    · rw [if_neg hA]
      have hj1 : Ev (fun k => impl_PathCost.j1 k a b (i : Int) (j : Int) (n : Int) (pre ++ x :: t) ((pre ++ x :: t).length : Int) (pre.length : Int) false x.f0 x.f1)
          (if x.f0 = (i : Int) ∧ x.f1 = -1 ∧ i < a.length then pcGo a b t (i + 1) j (n + 1) else if x.f0 = -1 ∧ x.f1 = (j : Int) ∧ j < b.length then pcGo a b t i (j + 1) (n + 1) else -1) := by
        refine ev_tail ?_
        simp only [impl_PathCost.j1]
        refine ev_neg (by simp) ?_
        by_cases hB : x.f0 = (i : Int) ∧ x.f1 = -1 ∧ i < a.length
        · obtain ⟨h0, h1, h2⟩ := hB
          rw [if_pos ⟨h0, h1, h2⟩]
          refine ev_pos h0 (ev_pos h1 (ev_tail ?_))
          simp only [impl_PathCost.j2]
          refine ev_pos (by simp; omega) ?_
          rw [w1.out, wi.out, wn.out, snoc_cons pre x t, ← length_snoc pre x]
          exact e _ _ _ (by omega) (by omega) (by omega)
        · rw [if_neg hB]
          have hj2 : Ev (fun k => impl_PathCost.j2 k a b (i : Int) (j : Int) (n : Int) (pre ++ x :: t) ((pre ++ x :: t).length : Int) (pre.length : Int) false x.f0 x.f1)
              (if x.f0 = -1 ∧ x.f1 = (j : Int) ∧ j < b.length then pcGo a b t i (j + 1) (n + 1) else -1) := by
            refine ev_tail ?_
            simp only [impl_PathCost.j2]
            refine ev_neg (by simp) ?_
            by_cases hC : x.f0 = -1 ∧ x.f1 = (j : Int) ∧ j < b.length
            · obtain ⟨h0, h1, h2⟩ := hC
              rw [if_pos ⟨h0, h1, h2⟩]
              refine ev_pos h0 (ev_pos h1 (ev_pos (by omega) ?_))
              rw [w1.out, wj.out, wn.out, snoc_cons pre x t, ← length_snoc pre x]
              exact e _ _ _ (by omega) (by omega) (by omega)
            · rw [if_neg hC]
              exact ev_ite (fun h0 => ev_ite (fun h1 => ev_ite (fun h2 => absurd ⟨h0, h1, by omega⟩ hC) (fun _ => Ev.now _)) (fun _ => Ev.now _)) (fun _ => Ev.now _)
          refine ev_ite (fun h0 => ev_ite (fun h1 => ?_) (fun _ => hj2)) (fun _ => hj2)
          rw [show decide ((i : Int) < (a.length : Int)) = false by simp; omega]
          exact hj2
      refine ev_ite (fun h0 => ev_ite (fun h1 => ev_ite (fun h2 => ?_) (fun _ => hj1)) (fun _ => hj1)) (fun _ => hj1)
      rw [show decide ((j : Int) < (b.length : Int)) = false by simp; omega]
      exact hj1
theorem implPathCost_ev (a b : List Int) (l : List S97) (ha : a.length ≤ 1048576) (hb : b.length ≤ 1048576) (hl : l.length ≤ 1048576) : Ev (fun k => impl_PathCost.f k a b l) (pathM a b l) := by
  simp only [impl_PathCost.f]
  exact implPath_l0 a b ha hb l [] 0 0 0 (by simpa using hl) (by omega) (by omega) (by omega)

theorem FnExactPathCost : ∀ (l0 : List (Int)) (l1 : List (Int)) (l2 : List (S99)), (l0.length ≤ maxLen) → (∀ x ∈ l0, (Lit.int .i64 x).wf = true) → (l1.length ≤ maxLen) → (∀ x ∈ l1, (Lit.int .i64 x).wf = true) → (l2.length ≤ maxLen) → (∀ x ∈ l2, ((Lit.int .i64 x.f0).wf = true) ∧ ((Lit.int .i64 x.f1).wf = true)) → ∃ k, laws_FnExactPathCost.f k l0 l1 l2 = some true := by
  intro a b l _ _ _ _ hl _
  refine Ev.rounds ?_
  simp only [laws_FnExactPathCost.f]
  refine ev_ite (fun _ => Ev.now _) (fun h1 => ev_ite (fun _ => Ev.now _) (fun h2 => ?_))
  have ha : a.length ≤ 35184372088832 := by omega
  have hb : b.length ≤ 35184372088832 := by omega
  obtain ⟨r, hr, hs⟩ := szPairS_some l hl
  refine ev_val hr (ev_ite (fun _ => Ev.now _) (fun h => ?_))
  have hn := hs h
  have hm : (l.map cvPair).length ≤ 1048576 := by rw [List.length_map]; exact hn
  refine Ev.bind (toIntS_ev a ha) (Ev.bind (toIntS_ev b hb) (Ev.bind (toPairS_ev l hn) (Ev.bind (specPathCost_ev a b _ (by omega) (by omega) hm) ?_)))
  refine Ev.bind (toIntS_ev a ha) (Ev.bind (toIntS_ev b hb) (Ev.bind (toPairS_ev l hn) (Ev.bind (implPathCost_ev a b _ (by omega) (by omega) hm) (ev_pos (by trivial) ?_))))
  refine Ev.bind (toIntS_ev a ha) (Ev.bind (eqIntS_ev a ha) (ev_pos (by trivial) ?_))
  refine Ev.bind (toIntS_ev b hb) (Ev.bind (eqIntS_ev b hb) (ev_pos (by trivial) ?_))
  exact Ev.bind (toPairS_ev l hn) (Ev.bind (eqPairS_ev _ hm) (ev_pos (by trivial) (Ev.now _)))
end Go.Proofs.Ytoigficcabmoeaa.Pure
