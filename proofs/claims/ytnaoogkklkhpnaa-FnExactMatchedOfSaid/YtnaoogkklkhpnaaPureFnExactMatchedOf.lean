/-
MatchedOf of the program and of the reference: the same answer.
Conditions: none.
-/
import Derived.Test.YtnaoogkklkhpnaaPFnExactMatchedOfx6
import Derived.Test.YtnaoogkklkhpnaaBase
namespace Go.Proofs.Ytnaoogkklkhpnaa.Pure
open Go.RowKit Go.Proofs.Ytnaoogkklkhpnaa.PFnExactMatchedOf Go.Proofs.YtnaoogkklkhpnaaW.PrintWords Go.Proofs.YtnaoogkklkhpnaaW.PrintLast Go.Proofs.YtnaoogkklkhpnaaW.PrintMore Go.Proofs.Ytnaoogkklkhpnaa.Base
set_option linter.unusedVariables false
set_option linter.unusedSimpArgs false

theorem toIntS_l0 (suf : List Int) : ∀ pre : List Int, (pre ++ suf).length ≤ 35184372088832 → Ev (fun k => laws_toIntS.l0 k (pre ++ suf) (pre ++ List.replicate suf.length 0) (pre.length : Int)) (pre ++ suf) := by
  induction suf with
  | nil =>
    intro pre h
    refine ev_tail ?_
    simp only [laws_toIntS.l0]
    refine ev_neg (by simp) ?_
    simpa using Ev.now pre
  | cons x t ih =>
    intro pre h
    have e := ih (pre ++ [x]) (by simpa using h)
    simp only [List.length_append, List.length_cons] at h
    refine ev_tail ?_
    simp only [laws_toIntS.l0]
    refine ev_pos (by simp; omega) (ev_pos (by omega) (ev_pos (by simp; omega) ?_))
    rw [rd_mid, List.length_cons, List.replicate_succ, set_mid, wrap_succ (by omega), snoc_cons pre x t, snoc_cons pre x (List.replicate t.length 0), ← length_snoc pre x]
    exact e
theorem toIntS_ev (l : List Int) (h : l.length ≤ 35184372088832) : Ev (fun k => laws_toIntS.f k l) l := by
  simp only [laws_toIntS.f]
  refine ev_pos (by omega) (ev_pos (by omega) ?_)
  exact toIntS_l0 l [] (by simpa using h)

theorem eqIntS_l0 (suf : List Int) : ∀ pre : List Int, (pre ++ suf).length ≤ 35184372088832 → Ev (fun k => laws_eqIntS.l0 k (pre ++ suf) (pre ++ suf) (pre.length : Int)) true := by
  induction suf with
  | nil =>
    intro pre h
    refine ev_tail ?_
    simp only [laws_eqIntS.l0]
    exact ev_neg (by simp) (Ev.now true)
  | cons x t ih =>
    intro pre h
    have e := ih (pre ++ [x]) (by simpa using h)
    simp only [List.length_append, List.length_cons] at h
    refine ev_tail ?_
    simp only [laws_eqIntS.l0]
    refine ev_pos (by simp; omega) (ev_pos (by omega) (ev_pos (by simp; omega) (ev_pos (by trivial) ?_)))
    rw [wrap_succ (by omega), snoc_cons pre x t, ← length_snoc pre x]
    exact e
theorem eqIntS_ev (l : List Int) (h : l.length ≤ 35184372088832) : Ev (fun k => laws_eqIntS.f k l l) true := by
  simp only [laws_eqIntS.f]
  refine ev_pos (by trivial) ?_
  exact eqIntS_l0 l [] (by simpa using h)

theorem markIntS_l0 (suf : List Int) : ∀ (pre : List Int) (m : Int), (pre ++ suf).length ≤ 35184372088832 → 0 ≤ m → m + suf.length ≤ 9223372036854775807 → Ev (fun k => laws_markIntS.l0 k (pre ++ suf) m (pre.length : Int)) (m + suf.length, pre ++ marks suf.length m) := by
  induction suf with
  | nil =>
    intro pre m h h0 h1
    refine ev_tail ?_
    simp only [laws_markIntS.l0]
    refine ev_neg (by simp) ?_
    simpa [marks] using Ev.now _
  | cons y t ih =>
    intro pre m h h0 h1
    simp only [List.length_cons] at h1
    have e := ih (pre ++ [m]) (m + 1) (by simpa using h) (by omega) (by omega)
    simp only [List.length_append, List.length_cons] at h
    refine ev_tail ?_
    simp only [laws_markIntS.l0]
    refine ev_pos (by simp; omega) (ev_pos (by omega) ?_)
    rw [set_mid, wrap_succ (by omega), wrap_id (n := m + 1) (by omega) (by omega), snoc_cons pre m t, ← length_snoc pre m]
    refine ev_eq e ?_
    simp only [marks, List.length_cons, List.append_assoc, List.singleton_append]
    congr 1
    omega
theorem markIntS_ev (l : List Int) (m : Int) (h : l.length ≤ 35184372088832) (h0 : 0 ≤ m) (h1 : m + l.length ≤ 9223372036854775807) : Ev (fun k => laws_markIntS.f k l m) (m + l.length, marks l.length m) := by
  simp only [laws_markIntS.f]
  exact markIntS_l0 l [] m (by simpa using h) h0 h1

def cvPair (x : S116) : S114 := ⟨x.f0, x.f1⟩
theorem rdLPair (pre : List S116) (x : S116) (t : List S116) : rd_T116 (pre ++ x :: t) ((pre.length : Nat) : Int) = x := getD_mid pre x t z116
theorem rdIPair (pre : List S114) (x : S114) (t : List S114) : rd_T114 (pre ++ x :: t) ((pre.length : Nat) : Int) = x := getD_mid pre x t z114
theorem toPairS_l0 (suf : List S116) : ∀ pre : List S116, (pre ++ suf).length ≤ 1048576 → Ev (fun k => laws_toPairS.l0 k (pre ++ suf) (pre.map cvPair ++ List.replicate suf.length z114) (pre.length : Int)) ((pre ++ suf).map cvPair) := by
  induction suf with
  | nil =>
    intro pre h
    refine ev_tail ?_
    simp only [laws_toPairS.l0]
    refine ev_neg (by simp) ?_
    exact ev_eq (Ev.now _) (by simp)
  | cons x t ih =>
    intro pre h
    have e := ih (pre ++ [x]) (by simpa using h)
    simp only [List.length_append, List.length_cons] at h
    refine ev_tail ?_
    simp only [laws_toPairS.l0, laws_toPair.f, Option.bind_some]
    refine ev_pos (by simp; omega) (ev_pos (by omega) (ev_pos (by simp; omega) ?_))
    rw [rdLPair, List.length_cons, List.replicate_succ]
    have e1 : (pre.map cvPair ++ z114 :: List.replicate t.length z114).set ((pre.length : Nat) : Int).toNat (⟨x.f0, x.f1⟩ : S114) = (pre ++ [x]).map cvPair ++ List.replicate t.length z114 := by
      simp [cvPair]
    rw [e1, wrap_succ (by omega), snoc_cons pre x t, ← length_snoc pre x]
    exact e
theorem toPairS_ev (l : List S116) (h : l.length ≤ 1048576) : Ev (fun k => laws_toPairS.f k l) (l.map cvPair) := by
  simp only [laws_toPairS.f]
  refine ev_pos (by omega) (ev_pos (by omega) ?_)
  exact toPairS_l0 l [] (by simpa using h)

theorem eqPairS_l0 (suf : List S114) : ∀ pre : List S114, (pre ++ suf).length ≤ 1048576 → Ev (fun k => laws_eqPairS.l0 k (pre ++ suf) (pre ++ suf) (pre.length : Int)) true := by
  induction suf with
  | nil =>
    intro pre h
    refine ev_tail ?_
    simp only [laws_eqPairS.l0]
    exact ev_neg (by simp) (Ev.now true)
  | cons x t ih =>
    intro pre h
    have e := ih (pre ++ [x]) (by simpa using h)
    simp only [List.length_append, List.length_cons] at h
    refine ev_tail ?_
    simp only [laws_eqPairS.l0, laws_eqPair.f, if_true, Option.bind_some]
    refine ev_pos (by simp; omega) (ev_pos (by omega) (ev_pos (by simp; omega) ?_))
    rw [wrap_succ (by omega), snoc_cons pre x t, ← length_snoc pre x]
    exact e
theorem eqPairS_ev (l : List S114) (h : l.length ≤ 1048576) : Ev (fun k => laws_eqPairS.f k l l) true := by
  simp only [laws_eqPairS.f]
  refine ev_pos (by trivial) ?_
  exact eqPairS_l0 l [] (by simpa using h)

def marksPair : Nat → Int → List S114
  | 0, _ => []
  | n + 1, m => ⟨m, m + 1⟩ :: marksPair n (m + 1 + 1)
theorem marksPair_length (n : Nat) : ∀ m, (marksPair n m).length = n := by
  induction n with
  | zero => intro m; rfl
  | succ n ih => intro m; simp [marksPair, ih]
theorem markPairS_l0 (suf : List S114) : ∀ (pre : List S114) (m : Int), (pre ++ suf).length ≤ 8388608 → 0 ≤ m → m ≤ 1099511627776 - 2 * suf.length → Ev (fun k => laws_markPairS.l0 k (pre ++ suf) m (pre.length : Int)) (m + 2 * suf.length, pre ++ marksPair suf.length m) := by
  induction suf with
  | nil =>
    intro pre m h h0 h1
    refine ev_tail ?_
    simp only [laws_markPairS.l0]
    refine ev_neg (by simp) (ev_eq (Ev.now _) (by simp [marksPair]))
  | cons y t ih =>
    intro pre m h h0 h1
    simp only [List.length_cons] at h1
    have e := ih (pre ++ [⟨m, m + 1⟩]) (m + 1 + 1) (by simpa using h) (by omega) (by omega)
    simp only [List.length_append, List.length_cons] at h
    refine ev_tail ?_
    simp only [laws_markPairS.l0, Option.bind_some, set_mid, rdIPair]
    refine ev_pos (by simp; omega) (ev_pos (by omega) ?_)
    rw [wrap_id (n := m + 1) (by omega) (by omega), wrap_id (n := m + 1 + 1) (by omega) (by omega), wrap_succ (by omega), snoc_cons pre _ t, ← length_snoc pre (⟨m, m + 1⟩ : S114)]
    refine ev_eq e ?_
    simp only [marksPair, List.length_cons, List.append_assoc, List.singleton_append]
    congr 1
    omega
theorem markPairS_ev (l : List S114) (m : Int) (h : l.length ≤ 8388608) (h0 : 0 ≤ m) (h1 : m ≤ 1099511627776 - 2 * l.length) : Ev (fun k => laws_markPairS.f k l m) (m + 2 * l.length, marksPair l.length m) := by
  simp only [laws_markPairS.f]
  exact markPairS_l0 l [] m (by simpa using h) h0 h1

theorem heldPairS_l0 (n : Nat) : ∀ (pre : List S114) (m : Int), pre.length + n ≤ 8388608 → 0 ≤ m → m ≤ 1099511627776 - 2 * n → Ev (fun k => laws_heldPairS.l0 k (pre ++ marksPair n m) m (pre.length : Int)) (m + 2 * n) := by
  induction n with
  | zero =>
    intro pre m h h0 h1
    refine ev_tail ?_
    simp only [laws_heldPairS.l0]
    refine ev_neg (by simp [marksPair]) (ev_eq (Ev.now _) (by omega))
  | succ n ih =>
    intro pre m h h0 h1
    have e := ih (pre ++ [⟨m, m + 1⟩]) (m + 1 + 1) (by simp; omega) (by omega) (by omega)
    refine ev_tail ?_
    have hm : marksPair (n + 1) m = ⟨m, m + 1⟩ :: marksPair n (m + 1 + 1) := rfl
    rw [hm]
    simp only [laws_heldPairS.l0, rdIPair]
    refine ev_pos (by simp [marksPair_length]; omega) (ev_pos (by omega) ?_)
    rw [wrap_id (n := m + 1) (by omega) (by omega), wrap_id (n := m + 1 + 1) (by omega) (by omega), wrap_succ (by omega), snoc_cons pre _ (marksPair n (m + 1 + 1)), ← length_snoc pre (⟨m, m + 1⟩ : S114)]
    simp only [if_true]
    exact ev_eq e (by omega)
theorem heldPairS_ev (n : Nat) (m : Int) (h : n ≤ 8388608) (h0 : 0 ≤ m) (h1 : m ≤ 1099511627776 - 2 * n) : Ev (fun k => laws_heldPairS.f k (marksPair n m) m) (m + 2 * n) := by
  simp only [laws_heldPairS.f]
  exact heldPairS_l0 n [] m (by simpa using h) h0 h1

theorem szPairS_some (l : List S116) (h : l.length ≤ maxLen) : ∃ r, laws_szPairS.f l 1048576 = some r ∧ (¬ r < 0 → l.length ≤ 1048576) := by
  have hm : maxLen = 9223372036854775807 := rfl
  unfold laws_szPairS.f
  rw [wrap_id (by omega) (by omega)]
  by_cases h0 : (1048576 : Int) - (l.length : Int) < 0
  · exact ⟨-1, by rw [if_pos h0], fun h => absurd (by omega) h⟩
  · exact ⟨_, by rw [if_neg h0], fun _ => by omega⟩

/-- The cost of the rest of a path, from the places i and j on; -1: it is none. -/
def pcGo (a b : List Int) : List S114 → Nat → Nat → Nat → Int
  | [], i, j, n => if i = a.length ∧ j = b.length then (n : Int) else -1
  | x :: t, i, j, n =>
    if x.f0 = (i : Int) ∧ x.f1 = (j : Int) ∧ i < a.length ∧ j < b.length then pcGo a b t (i + 1) (j + 1) (if a.getD i 0 = b.getD j 0 then n else n + 1)
    else if x.f0 = (i : Int) ∧ x.f1 = -1 ∧ i < a.length then pcGo a b t (i + 1) j (n + 1)
    else if x.f0 = -1 ∧ x.f1 = (j : Int) ∧ j < b.length then pcGo a b t i (j + 1) (n + 1)
    else -1
def pathM (a b : List Int) (l : List S114) : Int := pcGo a b l 0 0 0
theorem specPath_j1_true (a b : List Int) (l : List S114) (n i j q p0 p1 : Int) : Ev (fun k => spec_PathCost.j1 k a b l n i j q true p0 p1) (-1) := by
  refine ev_tail ?_
  simp only [spec_PathCost.j1]
  exact ev_pos (by trivial) (Ev.now _)
theorem specPath_l0 (a b : List Int) (ha : a.length ≤ 1048576) (hb : b.length ≤ 1048576) (suf : List S114) : ∀ (pre : List S114) (i j n : Nat), (pre ++ suf).length ≤ 1048576 → i ≤ a.length → j ≤ b.length → n ≤ i + j →
    Ev (fun k => spec_PathCost.l0 k a b (pre ++ suf) (n : Int) (i : Int) (j : Int) (pre.length : Int)) (pcGo a b suf i j n) := by
  induction suf with
  | nil =>
    intro pre i j n h hi hj hn
    refine ev_tail ?_
    simp only [spec_PathCost.l0, pcGo]
    refine ev_neg (by simp) (ev_ite (fun h1 => ev_ite (fun h2 => ?_) (fun h2 => ?_)) (fun h1 => ?_))
    · rw [if_pos (by omega)]; exact Ev.now _
    · rw [if_neg (by omega)]; exact Ev.now _
    · rw [if_neg (by omega)]; exact Ev.now _
  | cons x t ih =>
    intro pre i j n h hi hj hn
    have e := fun i' j' n' => ih (pre ++ [x]) i' j' n' (by simpa using h)
    have hlen : pre.length + (t.length + 1) ≤ 1048576 := by simpa using h
    have w1 : Aside0 (wrap64 ((pre.length : Int) + 1) = ((pre.length + 1 : Nat) : Int)) := ⟨wrap_succ (by omega)⟩
    have wi : Aside0 (wrap64 ((i : Int) + 1) = ((i + 1 : Nat) : Int)) := ⟨wrap_succ (by omega)⟩
    have wj : Aside0 (wrap64 ((j : Int) + 1) = ((j + 1 : Nat) : Int)) := ⟨wrap_succ (by omega)⟩
    have wn : Aside0 (wrap64 ((n : Int) + 1) = ((n + 1 : Nat) : Int)) := ⟨wrap_succ (by omega)⟩
    have hr : Aside0 (rd_T114 (pre ++ x :: t) ((pre.length : Nat) : Int) = x) := ⟨getD_mid pre x t _⟩
    refine ev_tail ?_
    simp only [spec_PathCost.l0, pcGo, hr.out]
    refine ev_pos (by simp; omega) (ev_pos (by omega) ?_)
    by_cases hA : x.f0 = (i : Int) ∧ x.f1 = (j : Int) ∧ i < a.length ∧ j < b.length
    · obtain ⟨h0, h1, h2, h3⟩ := hA
      rw [if_pos ⟨h0, h1, h2, h3⟩]
      refine ev_neg (by omega) (ev_pos h0 (ev_neg (by omega) (ev_pos h1 (ev_neg (by omega) (ev_tail ?_)))))
      simp only [spec_PathCost.j1]
      refine ev_neg (by simp; omega) (ev_neg (by omega) (ev_neg (by omega) (ev_pos (by omega) (ev_pos (by omega) (ev_pos (by omega) (ev_pos (by omega) (ev_tail ?_)))))))
      simp only [spec_PathCost.j2, rd_nat]
      by_cases heq : a.getD i 0 = b.getD j 0
      · rw [if_pos heq]
        refine ev_neg (by rw [heq]; simp) (ev_tail ?_)
        simp only [spec_PathCost.j3]
        refine ev_neg (by omega) (ev_neg (by omega) ?_)
        rw [w1.out, wi.out, wj.out, snoc_cons pre x t, ← length_snoc pre x]
        exact e _ _ _ (by omega) (by omega) (by omega)
      · rw [if_neg heq]
        refine ev_pos (by simpa using heq) (ev_tail ?_)
        simp only [spec_PathCost.j3]
        refine ev_neg (by omega) (ev_neg (by omega) ?_)
        rw [w1.out, wi.out, wj.out, wn.out, snoc_cons pre x t, ← length_snoc pre x]
        exact e _ _ _ (by omega) (by omega) (by omega)
    · rw [if_neg hA]
      by_cases hB : x.f0 = (i : Int) ∧ x.f1 = -1 ∧ i < a.length
      · obtain ⟨h0, h1, h2⟩ := hB
        rw [if_pos ⟨h0, h1, h2⟩]
        refine ev_neg (by omega) (ev_pos h0 (ev_pos h1 (ev_neg (by omega) (ev_tail ?_))))
        simp only [spec_PathCost.j1]
        refine ev_neg (by simp) (ev_neg (by omega) (ev_pos h1 (ev_tail ?_)))
        simp only [spec_PathCost.j2]
        refine ev_pos (by trivial) (ev_tail ?_)
        simp only [spec_PathCost.j3]
        refine ev_neg (by omega) (ev_pos h1 ?_)
        rw [w1.out, wi.out, wn.out, snoc_cons pre x t, ← length_snoc pre x]
        exact e _ _ _ (by omega) (by omega) (by omega)
      · rw [if_neg hB]
        by_cases hC : x.f0 = -1 ∧ x.f1 = (j : Int) ∧ j < b.length
        · obtain ⟨h0, h1, h2⟩ := hC
          rw [if_pos ⟨h0, h1, h2⟩]
          refine ev_pos h0 (ev_neg (by omega) (ev_pos h1 (ev_tail ?_)))
          simp only [spec_PathCost.j1]
          refine ev_neg (by simp; omega) (ev_pos h0 (ev_tail ?_))
          simp only [spec_PathCost.j2]
          refine ev_pos (by trivial) (ev_tail ?_)
          simp only [spec_PathCost.j3]
          refine ev_pos h0 (ev_neg (by omega) ?_)
          rw [w1.out, wj.out, wn.out, snoc_cons pre x t, ← length_snoc pre x]
          exact e _ _ _ (by omega) (by omega) (by omega)
        · rw [if_neg hC]
          have tr := fun p0 p1 => specPath_j1_true a b (pre ++ x :: t) (n : Int) (i : Int) (j : Int) (pre.length : Int) p0 p1
          refine ev_ite (fun h0 => ev_ite (fun h1 => tr _ _) (fun h1 => ev_ite (fun h2 => ?_) (fun h2 => tr _ _))) (fun h0 => ev_ite (fun h1 => ev_ite (fun h2 => ev_ite (fun h3 => tr _ _) (fun h3 => ?_)) (fun h2 => ev_ite (fun h3 => ev_ite (fun h4 => tr _ _) (fun h4 => ?_)) (fun h3 => tr _ _))) (fun h1 => tr _ _))
          · rw [show decide ((j : Int) ≥ (b.length : Int)) = true by simp; omega]; exact tr _ _
          · exact absurd ⟨h1, h2, by omega⟩ hB
          · rw [show decide ((j : Int) ≥ (b.length : Int)) = true by simp; omega]; exact tr _ _
theorem specPathCost_ev (a b : List Int) (l : List S114) (ha : a.length ≤ 1048576) (hb : b.length ≤ 1048576) (hl : l.length ≤ 1048576) : Ev (fun k => spec_PathCost.f k a b l) (pathM a b l) := by
  simp only [spec_PathCost.f]
  exact specPath_l0 a b ha hb l [] 0 0 0 (by simpa using hl) (by omega) (by omega) (by omega)
theorem implPath_l0 (a b : List Int) (ha : a.length ≤ 1048576) (hb : b.length ≤ 1048576) (suf : List S114) : ∀ (pre : List S114) (i j n : Nat), (pre ++ suf).length ≤ 1048576 → i ≤ a.length → j ≤ b.length → n ≤ i + j →
    Ev (fun k => impl_PathCost.l0 k a b (i : Int) (j : Int) (n : Int) (pre ++ suf) ((pre ++ suf).length : Int) (pre.length : Int)) (pcGo a b suf i j n) := by
  induction suf with
  | nil =>
    intro pre i j n h hi hj hn
    refine ev_tail ?_
    simp only [impl_PathCost.l0, pcGo]
    refine ev_neg (by simp) (ev_ite (fun h1 => ev_ite (fun h2 => ?_) (fun h2 => ?_)) (fun h1 => ?_))
    · rw [if_pos (by omega)]; exact Ev.now _
    · rw [if_neg (by omega)]; exact Ev.now _
    · rw [if_neg (by omega)]; exact Ev.now _
  | cons x t ih =>
    intro pre i j n h hi hj hn
    have e := fun i' j' n' => ih (pre ++ [x]) i' j' n' (by simpa using h)
    have hlen : pre.length + (t.length + 1) ≤ 1048576 := by simpa using h
    have w1 : Aside0 (wrap64 ((pre.length : Int) + 1) = ((pre.length + 1 : Nat) : Int)) := ⟨wrap_succ (by omega)⟩
    have wi : Aside0 (wrap64 ((i : Int) + 1) = ((i + 1 : Nat) : Int)) := ⟨wrap_succ (by omega)⟩
    have wj : Aside0 (wrap64 ((j : Int) + 1) = ((j + 1 : Nat) : Int)) := ⟨wrap_succ (by omega)⟩
    have wn : Aside0 (wrap64 ((n : Int) + 1) = ((n + 1 : Nat) : Int)) := ⟨wrap_succ (by omega)⟩
    have wn0 : Aside0 (wrap64 ((n : Int) + 0) = (n : Int)) := ⟨by rw [Int.add_zero]; exact wrap_id (by omega) (by omega)⟩
    have hr : Aside0 (rd_T114 (pre ++ x :: t) ((pre.length : Nat) : Int) = x) := ⟨getD_mid pre x t _⟩
    refine ev_tail ?_
    simp only [impl_PathCost.l0, pcGo, hr.out]
    refine ev_pos (by simp; omega) (ev_pos (by omega) (ev_pos (by simp; omega) ?_))
    by_cases hA : x.f0 = (i : Int) ∧ x.f1 = (j : Int) ∧ i < a.length ∧ j < b.length
    · obtain ⟨h0, h1, h2, h3⟩ := hA
      rw [if_pos ⟨h0, h1, h2, h3⟩]
      refine ev_pos h0 (ev_pos h1 (ev_pos (by omega) (ev_tail ?_)))
      simp only [impl_PathCost.j1, rd_nat, impl_unlike.f]
      refine ev_pos (by simp; omega) (ev_pos (by omega) (ev_pos (by omega) (ev_pos (by omega) (ev_pos (by omega) ?_))))
      by_cases heq : a.getD i 0 = b.getD j 0
      · rw [if_pos heq, if_pos heq]
        simp only [Option.bind_some]
        rw [w1.out, wi.out, wj.out, wn0.out, snoc_cons pre x t, ← length_snoc pre x]
        exact e _ _ _ (by omega) (by omega) (by omega)
      · rw [if_neg heq, if_neg heq]
        simp only [Option.bind_some]
        rw [w1.out, wi.out, wj.out, wn.out, snoc_cons pre x t, ← length_snoc pre x]
        exact e _ _ _ (by omega) (by omega) (by omega)
    · rw [if_neg hA]
      have hj1 : Ev (fun k => impl_PathCost.j1 k a b (i : Int) (j : Int) (n : Int) (pre ++ x :: t) ((pre ++ x :: t).length : Int) (pre.length : Int) false x.f0 x.f1)
          (if x.f0 = (i : Int) ∧ x.f1 = -1 ∧ i < a.length then pcGo a b t (i + 1) j (n + 1) else if x.f0 = -1 ∧ x.f1 = (j : Int) ∧ j < b.length then pcGo a b t i (j + 1) (n + 1) else -1) := by
        refine ev_tail ?_
        simp only [impl_PathCost.j1]
        refine ev_neg (by simp) ?_
        by_cases hB : x.f0 = (i : Int) ∧ x.f1 = -1 ∧ i < a.length
        · obtain ⟨h0, h1, h2⟩ := hB
          rw [if_pos ⟨h0, h1, h2⟩]
          refine ev_pos h0 (ev_pos h1 (ev_tail ?_))
          simp only [impl_PathCost.j2]
          refine ev_pos (by simp; omega) ?_
          rw [w1.out, wi.out, wn.out, snoc_cons pre x t, ← length_snoc pre x]
          exact e _ _ _ (by omega) (by omega) (by omega)
        · rw [if_neg hB]
          have hj2 : Ev (fun k => impl_PathCost.j2 k a b (i : Int) (j : Int) (n : Int) (pre ++ x :: t) ((pre ++ x :: t).length : Int) (pre.length : Int) false x.f0 x.f1)
              (if x.f0 = -1 ∧ x.f1 = (j : Int) ∧ j < b.length then pcGo a b t i (j + 1) (n + 1) else -1) := by
            refine ev_tail ?_
            simp only [impl_PathCost.j2]
            refine ev_neg (by simp) ?_
            by_cases hC : x.f0 = -1 ∧ x.f1 = (j : Int) ∧ j < b.length
            · obtain ⟨h0, h1, h2⟩ := hC
              rw [if_pos ⟨h0, h1, h2⟩]
              refine ev_pos h0 (ev_pos h1 (ev_pos (by omega) ?_))
              rw [w1.out, wj.out, wn.out, snoc_cons pre x t, ← length_snoc pre x]
              exact e _ _ _ (by omega) (by omega) (by omega)
            · rw [if_neg hC]
              exact ev_ite (fun h0 => ev_ite (fun h1 => ev_ite (fun h2 => absurd ⟨h0, h1, by omega⟩ hC) (fun _ => Ev.now _)) (fun _ => Ev.now _)) (fun _ => Ev.now _)
          refine ev_ite (fun h0 => ev_ite (fun h1 => ?_) (fun _ => hj2)) (fun _ => hj2)
          rw [show decide ((i : Int) < (a.length : Int)) = false by simp; omega]
          exact hj2
      refine ev_ite (fun h0 => ev_ite (fun h1 => ev_ite (fun h2 => ?_) (fun _ => hj1)) (fun _ => hj1)) (fun _ => hj1)
      rw [show decide ((j : Int) < (b.length : Int)) = false by simp; omega]
      exact hj1
theorem implPathCost_ev (a b : List Int) (l : List S114) (ha : a.length ≤ 1048576) (hb : b.length ≤ 1048576) (hl : l.length ≤ 1048576) : Ev (fun k => impl_PathCost.f k a b l) (pathM a b l) := by
  simp only [impl_PathCost.f]
  exact implPath_l0 a b ha hb l [] 0 0 0 (by simpa using hl) (by omega) (by omega) (by omega)

/-- Every step of a path has its places. -/
def okP (a b : List Int) (x : S114) : Prop := (x.f0 = -1 ∨ (0 ≤ x.f0 ∧ x.f0 < (a.length : Int))) ∧ (x.f1 = -1 ∨ (0 ≤ x.f1 ∧ x.f1 < (b.length : Int)))
theorem pcGo_ok (a b : List Int) (l : List S114) : ∀ i j n : Nat, 0 ≤ pcGo a b l i j n → ∀ x ∈ l, okP a b x := by
  induction l with
  | nil => intro i j n _ x hx; cases hx
  | cons y t ih =>
    intro i j n h x hx
    simp only [pcGo] at h
    by_cases hA : y.f0 = (i : Int) ∧ y.f1 = (j : Int) ∧ i < a.length ∧ j < b.length
    · rw [if_pos hA] at h
      rcases List.mem_cons.1 hx with rfl | hx
      · exact ⟨Or.inr ⟨by omega, by omega⟩, Or.inr ⟨by omega, by omega⟩⟩
      · exact ih _ _ _ h x hx
    · rw [if_neg hA] at h
      by_cases hB : y.f0 = (i : Int) ∧ y.f1 = -1 ∧ i < a.length
      · rw [if_pos hB] at h
        rcases List.mem_cons.1 hx with rfl | hx
        · exact ⟨Or.inr ⟨by omega, by omega⟩, Or.inl hB.2.1⟩
        · exact ih _ _ _ h x hx
      · rw [if_neg hB] at h
        by_cases hC : y.f0 = -1 ∧ y.f1 = (j : Int) ∧ j < b.length
        · rw [if_pos hC] at h
          rcases List.mem_cons.1 hx with rfl | hx
          · exact ⟨Or.inl hC.1, Or.inr ⟨by omega, by omega⟩⟩
          · exact ih _ _ _ h x hx
        · rw [if_neg hC] at h
          omega
def mtG (a b : List Int) (x : S114) : Option S114 := if x.f0 ≥ 0 ∧ x.f1 ≥ 0 ∧ rd a x.f0 = rd b x.f1 then some x else none
def matchedM (a b : List Int) (l : List S114) : List S114 := if 0 ≤ pathM a b l then l.filterMap (mtG a b) else []
theorem matchedM_length (a b : List Int) (l : List S114) : (matchedM a b l).length ≤ l.length := by
  unfold matchedM
  split
  · exact List.length_filterMap_le _ _
  · simp
theorem specMatched_l0 (a b : List Int) (ha : a.length ≤ 1048576) (hb : b.length ≤ 1048576) (l : List S114) (hp : 0 ≤ pathM a b l) (hl : l.length ≤ 1048576) (suf : List S114) : ∀ (pre out : List S114), l = pre ++ suf → out.length ≤ pre.length →
    Ev (fun k => spec_MatchedOf.l0 k a b l out (pre.length : Int)) (out ++ suf.filterMap (mtG a b)) := by
  induction suf with
  | nil =>
    intro pre out h ho
    subst h
    refine ev_tail ?_
    simp only [spec_MatchedOf.l0]
    refine ev_neg (by simp) (ev_tail ?_)
    simp only [spec_MatchedOf.j1]
    exact ev_neg (by simp) (ev_eq (Ev.now _) (by simp))
  | cons x t ih =>
    intro pre out h ho
    have ok := pcGo_ok a b l 0 0 0 hp x (by rw [h]; simp)
    have hlen : l.length = pre.length + (t.length + 1) := by rw [h]; simp
    have w1 : Aside0 (wrap64 ((pre.length : Int) + 1) = (((pre ++ [x]).length : Nat) : Int)) := ⟨by rw [wrap_succ (by omega), length_snoc]⟩
    have hr : Aside0 (rd_T114 l ((pre.length : Nat) : Int) = x) := ⟨by rw [h]; exact getD_mid pre x t _⟩
    have hs : l = (pre ++ [x]) ++ t := by rw [h]; simp
    refine ev_tail ?_
    simp only [spec_MatchedOf.l0]
    refine ev_pos (by omega) (Ev.bind (specPathCost_ev a b l ha hb hl) ?_)
    rw [show decide (pathM a b l ≥ 0) = true by simpa using hp]
    refine ev_tail ?_
    simp only [spec_MatchedOf.j1, hr.out, w1.out]
    refine ev_pos (by trivial) (ev_pos (by omega) (ev_pos (by omega) ?_))
    obtain ⟨k0, k1⟩ := ok
    have skip : mtG a b x = none → Ev (fun k => spec_MatchedOf.l0 k a b l out (((pre ++ [x]).length : Nat) : Int)) (out ++ (x :: t).filterMap (mtG a b)) := by
      intro hn
      have e := ih (pre ++ [x]) out hs (by rw [length_snoc]; omega)
      rw [List.filterMap_cons_none hn]
      exact e
    refine ev_ite (fun h0 => skip (by unfold mtG; rw [if_neg (by omega)])) (fun h0 => ev_ite (fun h1 => skip (by unfold mtG; rw [if_neg (by omega)])) (fun h1 => ?_))
    refine ev_pos (by omega) (ev_pos (by omega) (ev_pos (by omega) (ev_pos (by omega) ?_)))
    refine ev_ite (fun h2 => ev_pos (by omega) ?_) (fun h2 => skip (by unfold mtG; rw [if_neg (fun hh => h2 hh.2.2)]))
    have e := ih (pre ++ [x]) (out ++ [x]) hs (by rw [length_snoc, length_snoc]; omega)
    have hg : mtG a b x = some x := by unfold mtG; rw [if_pos ⟨by omega, by omega, h2⟩]
    rw [List.filterMap_cons_some hg]
    simpa using e
theorem specMatched_ev (a b : List Int) (l : List S114) (ha : a.length ≤ 1048576) (hb : b.length ≤ 1048576) (hl : l.length ≤ 1048576) : Ev (fun k => spec_MatchedOf.f k a b l) (matchedM a b l) := by
  simp only [spec_MatchedOf.f, matchedM]
  by_cases hp : 0 ≤ pathM a b l
  · rw [if_pos hp]
    have e := specMatched_l0 a b ha hb l hp hl l [] [] rfl (Nat.le_refl _)
    simpa using e
  · rw [if_neg hp]
    refine ev_tail ?_
    simp only [spec_MatchedOf.l0]
    refine ev_ite (fun h => Ev.bind (specPathCost_ev a b l ha hb hl) ?_) (fun h => ?_)
    · rw [show decide (pathM a b l ≥ 0) = false by simpa using hp]
      refine ev_tail ?_
      simp only [spec_MatchedOf.j1]
      exact ev_neg (by simp) (Ev.now _)
    · refine ev_tail ?_
      simp only [spec_MatchedOf.j1]
      exact ev_neg (by simp) (Ev.now _)
theorem implMatched_l0 (a b : List Int) (l : List S114) (hp : 0 ≤ pathM a b l) (hl : l.length ≤ 1048576) (suf : List S114) : ∀ (pre out : List S114), l = pre ++ suf → out.length ≤ pre.length →
    Ev (fun k => impl_MatchedOf.l0 k a b out l (l.length : Int) (pre.length : Int)) (out ++ suf.filterMap (mtG a b)) := by
  induction suf with
  | nil =>
    intro pre out h ho
    subst h
    refine ev_tail ?_
    simp only [impl_MatchedOf.l0]
    exact ev_neg (by simp) (ev_eq (Ev.now _) (by simp))
  | cons x t ih =>
    intro pre out h ho
    have ok := pcGo_ok a b l 0 0 0 hp x (by rw [h]; simp)
    have hlen : l.length = pre.length + (t.length + 1) := by rw [h]; simp
    have w1 : Aside0 (wrap64 ((pre.length : Int) + 1) = (((pre ++ [x]).length : Nat) : Int)) := ⟨by rw [wrap_succ (by omega), length_snoc]⟩
    have hr : Aside0 (rd_T114 l ((pre.length : Nat) : Int) = x) := ⟨by rw [h]; exact getD_mid pre x t _⟩
    have hs : l = (pre ++ [x]) ++ t := by rw [h]; simp
    refine ev_tail ?_
    simp only [impl_MatchedOf.l0, hr.out, w1.out]
    refine ev_pos (by omega) (ev_pos (by omega) (ev_pos (by omega) ?_))
    obtain ⟨k0, k1⟩ := ok
    have skip : mtG a b x = none → Ev (fun k => impl_MatchedOf.l0 k a b out l (l.length : Int) (((pre ++ [x]).length : Nat) : Int)) (out ++ (x :: t).filterMap (mtG a b)) := by
      intro hn
      have e := ih (pre ++ [x]) out hs (by rw [length_snoc]; omega)
      rw [List.filterMap_cons_none hn]
      exact e
    refine ev_ite (fun h0 => ev_ite (fun h1 => ?_) (fun h1 => skip (by unfold mtG; rw [if_neg (by omega)]))) (fun h0 => skip (by unfold mtG; rw [if_neg (by omega)]))
    refine ev_pos (by omega) (ev_pos (by omega) (ev_pos (by omega) (ev_pos (by omega) ?_)))
    refine ev_ite (fun h2 => ev_pos (by omega) ?_) (fun h2 => skip (by unfold mtG; rw [if_neg (fun hh => h2 hh.2.2)]))
    have e := ih (pre ++ [x]) (out ++ [x]) hs (by rw [length_snoc, length_snoc]; omega)
    have hg : mtG a b x = some x := by unfold mtG; rw [if_pos ⟨by omega, by omega, h2⟩]
    rw [List.filterMap_cons_some hg]
    simpa using e
theorem implMatched_ev (a b : List Int) (l : List S114) (ha : a.length ≤ 1048576) (hb : b.length ≤ 1048576) (hl : l.length ≤ 1048576) : Ev (fun k => impl_MatchedOf.f k a b l) (matchedM a b l) := by
  simp only [impl_MatchedOf.f, matchedM, Option.bind_some]
  refine Ev.bind (implPathCost_ev a b l ha hb hl) ?_
  by_cases hp : 0 ≤ pathM a b l
  · rw [if_pos hp]
    refine ev_neg (by omega) ?_
    have e := implMatched_l0 a b l hp hl l [] [] rfl (Nat.le_refl _)
    simpa using e
  · rw [if_neg hp]
    exact ev_pos (by omega) (Ev.now _)

theorem FnExactMatchedOf : ∀ (l0 : List (Int)) (l1 : List (Int)) (l2 : List (S116)), (l0.length ≤ maxLen) → (∀ x ∈ l0, (Lit.int .i64 x).wf = true) → (l1.length ≤ maxLen) → (∀ x ∈ l1, (Lit.int .i64 x).wf = true) → (l2.length ≤ maxLen) → (∀ x ∈ l2, ((Lit.int .i64 x.f0).wf = true) ∧ ((Lit.int .i64 x.f1).wf = true)) → ∃ k, laws_FnExactMatchedOf.f k l0 l1 l2 = some true := by
  intro a b l _ _ _ _ hl _
  refine Ev.rounds ?_
  simp only [laws_FnExactMatchedOf.f]
  refine ev_ite (fun _ => Ev.now _) (fun h1 => ev_ite (fun _ => Ev.now _) (fun h2 => ?_))
  have ha : a.length ≤ 35184372088832 := by omega
  have hb : b.length ≤ 35184372088832 := by omega
  obtain ⟨r, hr, hs⟩ := szPairS_some l hl
  refine ev_val hr (ev_ite (fun _ => Ev.now _) (fun h => ?_))
  have hn := hs h
  have hm : (l.map cvPair).length ≤ 1048576 := by rw [List.length_map]; exact hn
  have hq := matchedM_length a b (l.map cvPair)
  have ta := toIntS_ev a ha
  have tb := toIntS_ev b hb
  have tl := toPairS_ev l hn
  have ie := implMatched_ev a b _ (by omega) (by omega) hm
  have ep := eqPairS_ev (matchedM a b (l.map cvPair)) (by omega)
  have hd := heldPairS_ev (matchedM a b (l.map cvPair)).length 1 (by omega) (by omega) (by omega)
  refine Ev.bind ta (Ev.bind tb (Ev.bind tl (Ev.bind (specMatched_ev a b _ (by omega) (by omega) hm) ?_)))
  refine Ev.bind ta (Ev.bind tb (Ev.bind tl (Ev.bind ie (Ev.bind ep (ev_pos (by trivial) ?_)))))
  refine Ev.bind ta (Ev.bind (eqIntS_ev a ha) (ev_pos (by trivial) ?_))
  refine Ev.bind tb (Ev.bind (eqIntS_ev b hb) (ev_pos (by trivial) ?_))
  refine Ev.bind tl (Ev.bind (eqPairS_ev _ hm) (ev_pos (by trivial) ?_))
  refine Ev.bind (markIntS_ev a 1 (by omega) (by omega) (by omega)) (Ev.bind (markIntS_ev b _ (by omega) (by omega) (by omega)) (Ev.bind (markPairS_ev _ _ (by omega) (by omega) (by omega)) (ev_neg (by simp; omega) (Ev.bind ep (ev_tail ?_)))))
  simp only [laws_FnExactMatchedOf.j0]
  refine ev_neg (by simp) (Ev.bind (markPairS_ev _ 1 (by omega) (by omega) (by omega)) (Ev.bind hd (ev_neg (by omega) (ev_pos (by trivial) ?_))))
  exact Ev.bind ta (Ev.bind tb (Ev.bind tl (Ev.bind ie (Ev.bind ep (ev_pos (by trivial) (Ev.bind hd (ev_neg (by omega) (ev_pos (by trivial) (Ev.now _)))))))))
end Go.Proofs.Ytnaoogkklkhpnaa.Pure
