/-
ErrBy of the program and of the reference: the same answer.
Conditions: none.
-/
import Derived.Test.YtlkcbmcbmanmiaaPFnExactErrByx7
import Derived.Test.YtlkcbmcbmanmiaaBase
namespace Go.Proofs.Ytlkcbmcbmanmiaa.Pure
open Go.RowKit Go.Proofs.Ytlkcbmcbmanmiaa.PFnExactErrBy Go.Proofs.YtlkcbmcbmanmiaaW.PrintWords Go.Proofs.YtlkcbmcbmanmiaaW.PrintLast Go.Proofs.YtlkcbmcbmanmiaaW.PrintMore Go.Proofs.Ytlkcbmcbmanmiaa.Base
set_option linter.unusedVariables false
set_option linter.unusedSimpArgs false

theorem l1In_eq (a b c : Int) : spec_l1In.f a b c = some (decide (b ≤ a ∧ a ≤ c)) := by
  unfold spec_l1In.f
  by_cases h1 : b ≤ a <;> by_cases h2 : a ≤ c <;> simp [h1, h2]
theorem InRange_eq (a b c : Int) : impl_InRange.f a b c = some (decide (b ≤ a ∧ a ≤ c)) := by
  unfold impl_InRange.f
  by_cases h1 : b ≤ a <;> by_cases h2 : a ≤ c <;> simp [h1, h2]

theorem toIntS_l0 (suf : List Int) : ∀ pre : List Int, (pre ++ suf).length ≤ 35184372088832 → Ev (fun k => laws_toIntS.l0 k (pre ++ suf) (pre ++ List.replicate suf.length 0) (pre.length : Int)) (pre ++ suf) := by
  induction suf with
  | nil =>
    intro pre h
    refine ev_tail ?_
    simp only [laws_toIntS.l0]
    refine ev_neg (by simp) ?_
    simpa using Ev.now pre
  | cons x t ih =>
    intro pre h
    have e := ih (pre ++ [x]) (by simpa using h)
    simp only [List.length_append, List.length_cons] at h
    refine ev_tail ?_
    simp only [laws_toIntS.l0]
    refine ev_pos (by simp; omega) (ev_pos (by omega) (ev_pos (by simp; omega) ?_))
    rw [rd_mid, List.length_cons, List.replicate_succ, set_mid, wrap_succ (by omega), snoc_cons pre x t, snoc_cons pre x (List.replicate t.length 0), ← length_snoc pre x]
    exact e
theorem toIntS_ev (l : List Int) (h : l.length ≤ 35184372088832) : Ev (fun k => laws_toIntS.f k l) l := by
  simp only [laws_toIntS.f]
  refine ev_pos (by omega) (ev_pos (by omega) ?_)
  exact toIntS_l0 l [] (by simpa using h)

theorem eqIntS_l0 (suf : List Int) : ∀ pre : List Int, (pre ++ suf).length ≤ 35184372088832 → Ev (fun k => laws_eqIntS.l0 k (pre ++ suf) (pre ++ suf) (pre.length : Int)) true := by
  induction suf with
  | nil =>
    intro pre h
    refine ev_tail ?_
    simp only [laws_eqIntS.l0]
    exact ev_neg (by simp) (Ev.now true)
  | cons x t ih =>
    intro pre h
    have e := ih (pre ++ [x]) (by simpa using h)
    simp only [List.length_append, List.length_cons] at h
    refine ev_tail ?_
    simp only [laws_eqIntS.l0]
    refine ev_pos (by simp; omega) (ev_pos (by omega) (ev_pos (by simp; omega) (ev_pos (by trivial) ?_)))
    rw [wrap_succ (by omega), snoc_cons pre x t, ← length_snoc pre x]
    exact e
theorem eqIntS_ev (l : List Int) (h : l.length ≤ 35184372088832) : Ev (fun k => laws_eqIntS.f k l l) true := by
  simp only [laws_eqIntS.f]
  refine ev_pos (by trivial) ?_
  exact eqIntS_l0 l [] (by simpa using h)

theorem markIntS_l0 (suf : List Int) : ∀ (pre : List Int) (m : Int), (pre ++ suf).length ≤ 35184372088832 → 0 ≤ m → m + suf.length ≤ 9223372036854775807 → Ev (fun k => laws_markIntS.l0 k (pre ++ suf) m (pre.length : Int)) (m + suf.length, pre ++ marks suf.length m) := by
  induction suf with
  | nil =>
    intro pre m h h0 h1
    refine ev_tail ?_
    simp only [laws_markIntS.l0]
    refine ev_neg (by simp) ?_
    simpa [marks] using Ev.now _
  | cons y t ih =>
    intro pre m h h0 h1
    simp only [List.length_cons] at h1
    have e := ih (pre ++ [m]) (m + 1) (by simpa using h) (by omega) (by omega)
    simp only [List.length_append, List.length_cons] at h
    refine ev_tail ?_
    simp only [laws_markIntS.l0]
    refine ev_pos (by simp; omega) (ev_pos (by omega) ?_)
    rw [set_mid, wrap_succ (by omega), wrap_id (n := m + 1) (by omega) (by omega), snoc_cons pre m t, ← length_snoc pre m]
    refine ev_eq e ?_
    simp only [marks, List.length_cons, List.append_assoc, List.singleton_append]
    congr 1
    omega
theorem markIntS_ev (l : List Int) (m : Int) (h : l.length ≤ 35184372088832) (h0 : 0 ≤ m) (h1 : m + l.length ≤ 9223372036854775807) : Ev (fun k => laws_markIntS.f k l m) (m + l.length, marks l.length m) := by
  simp only [laws_markIntS.f]
  exact markIntS_l0 l [] m (by simpa using h) h0 h1

theorem heldIntS_l0 (n : Nat) : ∀ (pre : List Int) (m : Int), pre.length + n ≤ 35184372088832 → 0 ≤ m → m + n ≤ 9223372036854775807 → Ev (fun k => laws_heldIntS.l0 k (pre ++ marks n m) m (pre.length : Int)) (m + n) := by
  induction n with
  | zero =>
    intro pre m h h0 h1
    refine ev_tail ?_
    simp only [laws_heldIntS.l0]
    refine ev_neg (by simp [marks]) ?_
    simpa using Ev.now m
  | succ n ih =>
    intro pre m h h0 h1
    have e := ih (pre ++ [m]) (m + 1) (by simp; omega) (by omega) (by omega)
    refine ev_tail ?_
    simp only [laws_heldIntS.l0, marks]
    refine ev_pos (by simp [marks_length]; omega) (ev_pos (by omega) (ev_pos (rd_mid pre m _) ?_))
    rw [wrap_succ (by omega), wrap_id (n := m + 1) (by omega) (by omega), snoc_cons pre m (marks n (m + 1)), ← length_snoc pre m]
    exact ev_eq e (by omega)
theorem heldIntS_ev (n : Nat) (m : Int) (h : n ≤ 35184372088832) (h0 : 0 ≤ m) (h1 : m + n ≤ 9223372036854775807) : Ev (fun k => laws_heldIntS.f k (marks n m) m) (m + n) := by
  simp only [laws_heldIntS.f]
  exact heldIntS_l0 n [] m (by simpa using h) h0 h1

def cvSlip (x : S110) : S108 := ⟨x.f0, x.f1, x.f2⟩
theorem rdLSlip (pre : List S110) (x : S110) (t : List S110) : rd_T110 (pre ++ x :: t) ((pre.length : Nat) : Int) = x := getD_mid pre x t z110
theorem rdISlip (pre : List S108) (x : S108) (t : List S108) : rd_T108 (pre ++ x :: t) ((pre.length : Nat) : Int) = x := getD_mid pre x t z108
theorem toSlipS_l0 (suf : List S110) : ∀ pre : List S110, (pre ++ suf).length ≤ 1048576 → Ev (fun k => laws_toSlipS.l0 k (pre ++ suf) (pre.map cvSlip ++ List.replicate suf.length z108) (pre.length : Int)) ((pre ++ suf).map cvSlip) := by
  induction suf with
  | nil =>
    intro pre h
    refine ev_tail ?_
    simp only [laws_toSlipS.l0]
    refine ev_neg (by simp) ?_
    exact ev_eq (Ev.now _) (by simp)
  | cons x t ih =>
    intro pre h
    have e := ih (pre ++ [x]) (by simpa using h)
    simp only [List.length_append, List.length_cons] at h
    refine ev_tail ?_
    simp only [laws_toSlipS.l0, laws_toSlip.f, Option.bind_some]
    refine ev_pos (by simp; omega) (ev_pos (by omega) (ev_pos (by simp; omega) ?_))
    rw [rdLSlip, List.length_cons, List.replicate_succ]
    have e1 : (pre.map cvSlip ++ z108 :: List.replicate t.length z108).set ((pre.length : Nat) : Int).toNat (⟨x.f0, x.f1, x.f2⟩ : S108) = (pre ++ [x]).map cvSlip ++ List.replicate t.length z108 := by
      simp [cvSlip]
    rw [e1, wrap_succ (by omega), snoc_cons pre x t, ← length_snoc pre x]
    exact e
theorem toSlipS_ev (l : List S110) (h : l.length ≤ 1048576) : Ev (fun k => laws_toSlipS.f k l) (l.map cvSlip) := by
  simp only [laws_toSlipS.f]
  refine ev_pos (by omega) (ev_pos (by omega) ?_)
  exact toSlipS_l0 l [] (by simpa using h)

theorem eqSlipS_l0 (suf : List S108) : ∀ pre : List S108, (pre ++ suf).length ≤ 1048576 → Ev (fun k => laws_eqSlipS.l0 k (pre ++ suf) (pre ++ suf) (pre.length : Int)) true := by
  induction suf with
  | nil =>
    intro pre h
    refine ev_tail ?_
    simp only [laws_eqSlipS.l0]
    exact ev_neg (by simp) (Ev.now true)
  | cons x t ih =>
    intro pre h
    have e := ih (pre ++ [x]) (by simpa using h)
    simp only [List.length_append, List.length_cons] at h
    refine ev_tail ?_
    simp only [laws_eqSlipS.l0, laws_eqSlip.f, if_true, Option.bind_some]
    refine ev_pos (by simp; omega) (ev_pos (by omega) (ev_pos (by simp; omega) ?_))
    rw [wrap_succ (by omega), snoc_cons pre x t, ← length_snoc pre x]
    exact e
theorem eqSlipS_ev (l : List S108) (h : l.length ≤ 1048576) : Ev (fun k => laws_eqSlipS.f k l l) true := by
  simp only [laws_eqSlipS.f]
  refine ev_pos (by trivial) ?_
  exact eqSlipS_l0 l [] (by simpa using h)

def marksSlip : Nat → Int → List S108
  | 0, _ => []
  | n + 1, m => ⟨m, m + 1, m + 1 + 1⟩ :: marksSlip n (m + 1 + 1 + 1)
theorem marksSlip_length (n : Nat) : ∀ m, (marksSlip n m).length = n := by
  induction n with
  | zero => intro m; rfl
  | succ n ih => intro m; simp [marksSlip, ih]
theorem markSlipS_l0 (suf : List S108) : ∀ (pre : List S108) (m : Int), (pre ++ suf).length ≤ 8388608 → 0 ≤ m → m ≤ 1099511627776 - 3 * suf.length → Ev (fun k => laws_markSlipS.l0 k (pre ++ suf) m (pre.length : Int)) (m + 3 * suf.length, pre ++ marksSlip suf.length m) := by
  induction suf with
  | nil =>
    intro pre m h h0 h1
    refine ev_tail ?_
    simp only [laws_markSlipS.l0]
    refine ev_neg (by simp) (ev_eq (Ev.now _) (by simp [marksSlip]))
  | cons y t ih =>
    intro pre m h h0 h1
    simp only [List.length_cons] at h1
    have e := ih (pre ++ [⟨m, m + 1, m + 1 + 1⟩]) (m + 1 + 1 + 1) (by simpa using h) (by omega) (by omega)
    simp only [List.length_append, List.length_cons] at h
    refine ev_tail ?_
    simp only [laws_markSlipS.l0, Option.bind_some, set_mid, rdISlip]
    refine ev_pos (by simp; omega) (ev_pos (by omega) ?_)
    rw [wrap_id (n := m + 1) (by omega) (by omega), wrap_id (n := m + 1 + 1) (by omega) (by omega), wrap_id (n := m + 1 + 1 + 1) (by omega) (by omega), wrap_succ (by omega), snoc_cons pre _ t, ← length_snoc pre (⟨m, m + 1, m + 1 + 1⟩ : S108)]
    refine ev_eq e ?_
    simp only [marksSlip, List.length_cons, List.append_assoc, List.singleton_append]
    congr 1
    omega
theorem markSlipS_ev (l : List S108) (m : Int) (h : l.length ≤ 8388608) (h0 : 0 ≤ m) (h1 : m ≤ 1099511627776 - 3 * l.length) : Ev (fun k => laws_markSlipS.f k l m) (m + 3 * l.length, marksSlip l.length m) := by
  simp only [laws_markSlipS.f]
  exact markSlipS_l0 l [] m (by simpa using h) h0 h1

theorem szSlipS_some (l : List S110) (h : l.length ≤ maxLen) : ∃ r, laws_szSlipS.f l 1048576 = some r ∧ (¬ r < 0 → l.length ≤ 1048576) := by
  have hm : maxLen = 9223372036854775807 := rfl
  unfold laws_szSlipS.f
  rw [wrap_id (by omega) (by omega)]
  by_cases h0 : (1048576 : Int) - (l.length : Int) < 0
  · exact ⟨-1, by rw [if_pos h0], fun h => absurd (by omega) h⟩
  · exact ⟨_, by rw [if_neg h0], fun _ => by omega⟩

/-! ### slips -/
def slP (n : Int) (x : S108) : Prop := 1 ≤ x.f0 ∧ x.f0 ≤ 3 ∧ 0 ≤ x.f1 ∧ x.f1 ≤ (if x.f0 = 3 then n else n - 1) ∧ 0 ≤ x.f2 ∧ x.f2 ≤ 127 ∧ (x.f0 = 2 → x.f2 = 0)
instance (n : Int) (x : S108) : Decidable (slP n x) := by unfold slP; exact inferInstance
def slC (l : List S108) (n : Int) (i : Int) : Bool := decide (slP n (rd_T108 l i) ∧ (0 < i → (rd_T108 l i).f1 < (rd_T108 l (i - 1)).f1))
def slipsM (l : List S108) (n : Int) : Bool := decide (0 ≤ n ∧ n ≤ 1000) && allF (slC l n) (decide ((l.length : Int) ≤ 8)) l.length 0
theorem allF_fin (c : Int → Bool) (fin : Bool) (d : Nat) : ∀ i, allF c fin d i = (allF c true d i && fin) := by
  induction d with
  | zero => intro i; simp [allF]
  | succ d ih => intro i; simp only [allF]; rw [ih, Bool.and_assoc]
theorem specSl_j1 (l : List S108) (n m : Int) (i : Nat) (hi : i < l.length) (hl : l.length ≤ 1048576) (hm : m = if (rd_T108 l (i : Int)).f0 = 3 then n else n - 1) :
    (slC l n (i : Int) = true → ∀ r, Ev (fun k => spec_AreSlips.l0 k l n ((i : Int) + 1)) r → Ev (fun k => spec_AreSlips.j1 k l n (i : Int) m (rd_T108 l (i : Int)).f0 (rd_T108 l (i : Int)).f1 (rd_T108 l (i : Int)).f2) r) ∧
    (slC l n (i : Int) = false → Ev (fun k => spec_AreSlips.j1 k l n (i : Int) m (rd_T108 l (i : Int)).f0 (rd_T108 l (i : Int)).f1 (rd_T108 l (i : Int)).f2) false) := by
  have w1 : wrap64 ((i : Int) + 1) = (i : Int) + 1 := wrap_id (by omega) (by omega)
  have w2 : wrap64 ((i : Int) - 1) = (i : Int) - 1 := wrap_id (by omega) (by omega)
  constructor
  · intro hc r e
    simp only [slC, slP, decide_eq_true_eq, ← hm] at hc
    obtain ⟨⟨h1, h2, h3, h4, h5, h6, h7⟩, h8⟩ := hc
    refine ev_tail ?_
    simp only [spec_AreSlips.j1, l1In_eq, Option.bind_some, w1, w2]
    refine ev_pos (decide_eq_true ⟨h1, h2⟩) (ev_pos (decide_eq_true ⟨h3, h4⟩) (ev_pos (decide_eq_true ⟨h5, h6⟩) ?_))
    refine ev_ite (fun hk => ev_pos (h7 hk) ?_) (fun _ => ?_)
    all_goals exact ev_ite (fun h0 => ev_pos (by omega) (ev_pos (by omega) (ev_neg (by have := h8 h0; omega) e))) (fun _ => e)
  · intro hc
    simp only [slC, slP, decide_eq_false_iff_not, ← hm] at hc
    refine ev_tail ?_
    simp only [spec_AreSlips.j1, l1In_eq, Option.bind_some, w1, w2]
    refine ev_ite (fun a1 => ev_ite (fun a2 => ev_ite (fun a3 => ?_) (fun _ => Ev.now _)) (fun _ => Ev.now _)) (fun _ => Ev.now _)
    simp only [decide_eq_true_eq] at a1 a2 a3
    refine ev_ite (fun hk => ev_ite (fun h => ?_) (fun _ => Ev.now _)) (fun hk => ?_)
    · exact ev_ite (fun h0 => ev_pos (by omega) (ev_pos (by omega) (ev_ite (fun _ => Ev.now _) (fun h8 => absurd ⟨⟨a1.1, a1.2, a2.1, a2.2, a3.1, a3.2, fun _ => h⟩, fun _ => by omega⟩ hc)))) (fun h0 => absurd ⟨⟨a1.1, a1.2, a2.1, a2.2, a3.1, a3.2, fun _ => h⟩, fun z => absurd z h0⟩ hc)
    · exact ev_ite (fun h0 => ev_pos (by omega) (ev_pos (by omega) (ev_ite (fun _ => Ev.now _) (fun h8 => absurd ⟨⟨a1.1, a1.2, a2.1, a2.2, a3.1, a3.2, fun z => absurd z hk⟩, fun _ => by omega⟩ hc)))) (fun h0 => absurd ⟨⟨a1.1, a1.2, a2.1, a2.2, a3.1, a3.2, fun z => absurd z hk⟩, fun z => absurd z h0⟩ hc)
theorem specAreSlips_ev (l : List S108) (n : Int) (hl : l.length ≤ 1048576) : Ev (fun k => spec_AreSlips.f k l n) (slipsM l n) := by
  simp only [spec_AreSlips.f, l1In_eq, Option.bind_some, slipsM]
  refine ev_ite (fun hn => ?_) (fun hn => ev_eq (Ev.now _) (by simp only [Bool.not_eq_true] at hn; rw [hn, Bool.false_and]))
  rw [hn, Bool.true_and]
  simp only [decide_eq_true_eq] at hn
  refine ev_all (L := fun k i => spec_AreSlips.l0 k l n i) (n := l.length) (fun i hi => ?_) ?_ l.length 0 (by omega)
  · have w2 : wrap64 (n - 1) = n - 1 := wrap_id (by omega) (by omega)
    constructor
    · intro hc r e
      refine ev_tail ?_
      simp only [spec_AreSlips.l0, w2]
      exact ev_pos (by omega) (ev_pos (by omega) (ev_ite (fun h => (specSl_j1 l n n i hi hl (by rw [if_pos h])).1 hc r e) (fun h => (specSl_j1 l n (n - 1) i hi hl (by rw [if_neg h])).1 hc r e)))
    · intro hc
      refine ev_tail ?_
      simp only [spec_AreSlips.l0, w2]
      exact ev_pos (by omega) (ev_pos (by omega) (ev_ite (fun h => (specSl_j1 l n n i hi hl (by rw [if_pos h])).2 hc) (fun h => (specSl_j1 l n (n - 1) i hi hl (by rw [if_neg h])).2 hc)))
  · refine ev_tail ?_
    simp only [spec_AreSlips.l0]
    exact ev_neg (by omega) (Ev.now _)

theorem implSl_j2 (l : List S108) (n m : Int) (i : Nat) (hi : i < l.length) (hl : l.length ≤ 1048576) (hm : m = if (rd_T108 l (i : Int)).f0 = 3 then n else n - 1) :
    (slC l n (i : Int) = true → ∀ r, Ev (fun k => impl_AreSlips.l0 k l n l (l.length : Int) ((i : Int) + 1)) r → Ev (fun k => impl_AreSlips.j2 k l n (i : Int) m l (l.length : Int) (i : Int) (rd_T108 l (i : Int)).f0 (rd_T108 l (i : Int)).f1 (rd_T108 l (i : Int)).f2) r) ∧
    (slC l n (i : Int) = false → Ev (fun k => impl_AreSlips.j2 k l n (i : Int) m l (l.length : Int) (i : Int) (rd_T108 l (i : Int)).f0 (rd_T108 l (i : Int)).f1 (rd_T108 l (i : Int)).f2) false) := by
  have w1 : wrap64 ((i : Int) + 1) = (i : Int) + 1 := wrap_id (by omega) (by omega)
  have w2 : wrap64 ((i : Int) - 1) = (i : Int) - 1 := wrap_id (by omega) (by omega)
  constructor
  · intro hc r e
    simp only [slC, slP, decide_eq_true_eq, ← hm] at hc
    obtain ⟨⟨h1, h2, h3, h4, h5, h6, h7⟩, h8⟩ := hc
    refine ev_tail ?_
    simp only [impl_AreSlips.j2, InRange_eq, Option.bind_some, w1, w2]
    refine ev_pos (decide_eq_true ⟨h1, h2⟩) (ev_pos (decide_eq_true ⟨h3, h4⟩) (ev_pos (decide_eq_true ⟨h5, h6⟩) ?_))
    refine ev_ite (fun hk => ev_pos (h7 hk) ?_) (fun _ => ?_)
    all_goals exact ev_ite (fun h0 => ev_pos (by omega) (ev_pos (by omega) (ev_neg (by have := h8 h0; omega) e))) (fun _ => e)
  · intro hc
    simp only [slC, slP, decide_eq_false_iff_not, ← hm] at hc
    refine ev_tail ?_
    simp only [impl_AreSlips.j2, InRange_eq, Option.bind_some, w1, w2]
    refine ev_ite (fun a1 => ev_ite (fun a2 => ev_ite (fun a3 => ?_) (fun _ => Ev.now _)) (fun _ => Ev.now _)) (fun _ => Ev.now _)
    simp only [decide_eq_true_eq] at a1 a2 a3
    refine ev_ite (fun hk => ev_ite (fun h => ?_) (fun _ => Ev.now _)) (fun hk => ?_)
    · exact ev_ite (fun h0 => ev_pos (by omega) (ev_pos (by omega) (ev_ite (fun _ => Ev.now _) (fun h8 => absurd ⟨⟨a1.1, a1.2, a2.1, a2.2, a3.1, a3.2, fun _ => h⟩, fun _ => by omega⟩ hc)))) (fun h0 => absurd ⟨⟨a1.1, a1.2, a2.1, a2.2, a3.1, a3.2, fun _ => h⟩, fun z => absurd z h0⟩ hc)
    · exact ev_ite (fun h0 => ev_pos (by omega) (ev_pos (by omega) (ev_ite (fun _ => Ev.now _) (fun h8 => absurd ⟨⟨a1.1, a1.2, a2.1, a2.2, a3.1, a3.2, fun z => absurd z hk⟩, fun _ => by omega⟩ hc)))) (fun h0 => absurd ⟨⟨a1.1, a1.2, a2.1, a2.2, a3.1, a3.2, fun z => absurd z hk⟩, fun z => absurd z h0⟩ hc)
theorem implAreSlips_ev (l : List S108) (n : Int) (hl : l.length ≤ 1048576) : Ev (fun k => impl_AreSlips.f k l n) (slipsM l n) := by
  simp only [impl_AreSlips.f, InRange_eq, Option.bind_some, slipsM]
  refine ev_ite (fun h8 => ev_tail ?_) (fun h8 => ev_tail ?_)
  · simp only [impl_AreSlips.j0]
    refine ev_pos (by trivial) (ev_eq (Ev.now _) ?_)
    rw [allF_fin, decide_eq_false (show ¬ ((l.length : Int) ≤ 8) by omega), Bool.and_false, Bool.and_false]
  · simp only [impl_AreSlips.j0]
    refine ev_ite (fun hn => ev_eq (Ev.now _) (by simp only [Bool.not_eq_true'] at hn; rw [hn, Bool.false_and])) (fun hn => ?_)
    simp only [Bool.not_eq_true', Bool.not_eq_false] at hn
    rw [hn, Bool.true_and]
    simp only [decide_eq_true_eq] at hn
    rw [decide_eq_true (show (l.length : Int) ≤ 8 by omega)]
    refine ev_all (L := fun k i => impl_AreSlips.l0 k l n l (l.length : Int) i) (n := l.length) (fun i hi => ?_) ?_ l.length 0 (by omega)
    · have w2 : wrap64 (n - 1) = n - 1 := wrap_id (by omega) (by omega)
      constructor
      · intro hc r e
        refine ev_tail ?_
        simp only [impl_AreSlips.l0, w2]
        exact ev_pos (by omega) (ev_pos (by omega) (ev_pos (by omega) (ev_ite (fun h => (implSl_j2 l n n i hi hl (by rw [if_pos h])).1 hc r e) (fun h => (implSl_j2 l n (n - 1) i hi hl (by rw [if_neg h])).1 hc r e))))
      · intro hc
        refine ev_tail ?_
        simp only [impl_AreSlips.l0, w2]
        exact ev_pos (by omega) (ev_pos (by omega) (ev_pos (by omega) (ev_ite (fun h => (implSl_j2 l n n i hi hl (by rw [if_pos h])).2 hc) (fun h => (implSl_j2 l n (n - 1) i hi hl (by rw [if_neg h])).2 hc))))
    · refine ev_tail ?_
      simp only [impl_AreSlips.l0]
      exact ev_neg (by omega) (Ev.now _)

/-! ### errors -/
theorem slips_facts {l : List S108} {n : Int} (h : slipsM l n = true) : 0 ≤ n ∧ n ≤ 1000 ∧ l.length ≤ 8 ∧ (∀ x ∈ l, slP n x) ∧ l.Pairwise (fun a b => b.f1 < a.f1) := by
  simp only [slipsM, Bool.and_eq_true, decide_eq_true_eq] at h
  obtain ⟨⟨h1, h2⟩, h3⟩ := h
  obtain ⟨h4, h5⟩ := (allF_iff _ _ _ _).1 h3
  simp only [decide_eq_true_eq] at h4
  have at_ : ∀ (j : Nat) (hj : j < l.length), rd_T108 l (j : Int) = l[j] := fun j hj => by simp [rd_T108, List.getD, hj]
  have hx : ∀ (j : Nat) (hj : j < l.length), slP n l[j] := fun j hj => by
    have := h5 j (Nat.zero_le _) (by omega)
    simp only [slC, decide_eq_true_eq] at this
    rw [← at_ j hj]; exact this.1
  have adj : ∀ (j : Nat) (hj : j + 1 < l.length), l[j + 1].f1 < l[j].f1 := fun j hj => by
    have := h5 (j + 1) (Nat.zero_le _) (by omega)
    simp only [slC, decide_eq_true_eq] at this
    have h6 := this.2 (by omega)
    rw [at_ (j + 1) hj, show ((j + 1 : Nat) : Int) - 1 = (j : Int) by omega, at_ j (by omega)] at h6
    exact h6
  have far : ∀ (d i : Nat) (hd : i + d + 1 < l.length), l[i + d + 1].f1 < l[i].f1 := by
    intro d
    induction d with
    | zero => intro i hd; exact adj i hd
    | succ d ih =>
      intro i hd
      have a1 := ih i (by omega)
      have a2 := adj (i + d + 1) (by omega)
      have : l[i + (d + 1) + 1].f1 < l[i + d + 1].f1 := a2
      omega
  refine ⟨h1, h2, by omega, fun x hm => ?_, List.pairwise_iff_getElem.2 (fun i j hi hj hij => ?_)⟩
  · obtain ⟨j, hj, rfl⟩ := List.getElem_of_mem hm
    exact hx j hj
  · obtain ⟨d, rfl⟩ : ∃ d, j = i + d + 1 := ⟨j - i - 1, by omega⟩
    exact far d i hj
def errStep (o : List Int) (x : S108) : List Int := if x.f0 = 1 then o.set x.f1.toNat x.f2 else if x.f0 = 2 then o.take x.f1.toNat ++ o.drop (x.f1.toNat + 1) else o.take x.f1.toNat ++ [x.f2] ++ o.drop x.f1.toNat
def errM (p : List Int) (l : List S108) : List Int × Bool := if slipsM l (p.length : Int) = true then (l.foldl errStep p, true) else (p, false)
/-- The place of a slip in what is there. -/
def slOk (x : S108) (n : Nat) : Prop := (1 ≤ x.f0 ∧ x.f0 ≤ 3 ∧ 0 ≤ x.f1) ∧ (x.f1 < (n : Int) ∨ x.f0 = 3 ∧ x.f1 ≤ (n : Int))
theorem errStep_len {o : List Int} {x : S108} (h : slOk x o.length) : x.f1 ≤ ((errStep o x).length : Int) ∧ (errStep o x).length ≤ o.length + 1 := by
  obtain ⟨⟨h1, h2, h3⟩, h4⟩ := h
  unfold errStep
  by_cases k1 : x.f0 = 1
  · rw [if_pos k1, List.length_set]; omega
  · rw [if_neg k1]
    by_cases k2 : x.f0 = 2
    · rw [if_pos k2]; simp only [List.length_append, List.length_take, List.length_drop]; omega
    · rw [if_neg k2]; simp only [List.length_append, List.length_take, List.length_drop, List.length_cons, List.length_nil]; omega
theorem slOk_next {o : List Int} {x : S108} {t : List S108} (hx : slOk x o.length) (hm : ∀ y ∈ x :: t, 1 ≤ y.f0 ∧ y.f0 ≤ 3 ∧ 0 ≤ y.f1) (hp : (x :: t).Pairwise (fun a b => b.f1 < a.f1)) : ∀ y, t.head? = some y → slOk y (errStep o x).length := by
  intro y hy
  have hyt : y ∈ t := List.mem_of_mem_head? hy
  have h1 := (List.pairwise_cons.1 hp).1 y hyt
  have h2 := (errStep_len hx).1
  exact ⟨hm y (List.mem_cons_of_mem _ hyt), .inl (by omega)⟩
theorem err_length (l : List S108) : ∀ o : List Int, (∀ y ∈ l, 1 ≤ y.f0 ∧ y.f0 ≤ 3 ∧ 0 ≤ y.f1) → l.Pairwise (fun a b => b.f1 < a.f1) → (∀ y, l.head? = some y → slOk y o.length) → (l.foldl errStep o).length ≤ o.length + l.length := by
  induction l with
  | nil => intro o _ _ _; simp
  | cons x t ih =>
    intro o hm hp hx
    have hx := hx x rfl
    have h1 := ih (errStep o x) (fun y hy => hm y (List.mem_cons_of_mem _ hy)) (List.pairwise_cons.1 hp).2 (slOk_next hx hm hp)
    have h2 := (errStep_len hx).2
    simp only [List.foldl_cons, List.length_cons]
    omega
theorem slips_head {l : List S108} {n : Nat} (h : slipsM l (n : Int) = true) : (∀ y ∈ l, 1 ≤ y.f0 ∧ y.f0 ≤ 3 ∧ 0 ≤ y.f1) ∧ l.Pairwise (fun a b => b.f1 < a.f1) ∧ (∀ y, l.head? = some y → slOk y n) := by
  obtain ⟨_, _, _, h1, h2⟩ := slips_facts h
  refine ⟨fun y hy => ⟨(h1 y hy).1, (h1 y hy).2.1, (h1 y hy).2.2.1⟩, h2, fun y hy => ?_⟩
  obtain ⟨a1, a2, a3, a4, _⟩ := h1 y (List.mem_of_mem_head? hy)
  refine ⟨⟨a1, a2, a3⟩, ?_⟩
  by_cases h3 : y.f0 = 3
  · rw [if_pos h3] at a4; exact .inr ⟨h3, a4⟩
  · rw [if_neg h3] at a4; exact .inl (by omega)
theorem errM_length (p : List Int) (l : List S108) : (errM p l).1.length ≤ p.length + 8 := by
  unfold errM
  split
  · rename_i h
    obtain ⟨h1, h2, h3⟩ := slips_head h
    have := err_length l p h1 h2 h3
    have := (slips_facts h).2.2.1
    show (l.foldl errStep p).length ≤ _
    omega
  · show p.length ≤ _; omega
theorem specErr_l0 (suf : List S108) : ∀ (pre : List S108) (o : List Int), (pre ++ suf).length ≤ 1048576 → o.length + suf.length ≤ 2097152 → (∀ y ∈ suf, 1 ≤ y.f0 ∧ y.f0 ≤ 3 ∧ 0 ≤ y.f1) → suf.Pairwise (fun a b => b.f1 < a.f1) → (∀ y, suf.head? = some y → slOk y o.length) →
    Ev (fun k => spec_ErrBy.l0 k (pre ++ suf) o (pre.length : Int)) (suf.foldl errStep o, true) := by
  induction suf with
  | nil =>
    intro pre o h _ _ _ _
    refine ev_tail ?_
    simp only [spec_ErrBy.l0]
    exact ev_neg (by simp) (Ev.now _)
  | cons x t ih =>
    intro pre o h ho hm hp hx
    have hx := hx x rfl
    have hlen := (errStep_len hx).2
    have e := ih (pre ++ [x]) (errStep o x) (by simpa using h) (by simp only [List.length_cons] at ho; omega) (fun y hy => hm y (List.mem_cons_of_mem _ hy)) (List.pairwise_cons.1 hp).2 (slOk_next hx hm hp)
    simp only [List.length_append, List.length_cons] at h ho
    obtain ⟨⟨h1, h2, h3⟩, h4⟩ := hx
    refine ev_tail ?_
    simp only [spec_ErrBy.l0]
    refine ev_pos (by simp; omega) (ev_pos (by omega) ?_)
    rw [show rd_T108 (pre ++ x :: t) ((pre.length : Nat) : Int) = x from getD_mid pre x t _, wrap_succ (by omega), snoc_cons pre x t, ← length_snoc pre x]
    have w : (wrap64 (x.f1 + 1)).toNat = x.f1.toNat + 1 := by rw [wrap_id (by omega) (by omega)]; omega
    refine ev_ite (fun k1 => ?_) (fun k1 => ev_ite (fun k2 => ?_) (fun k2 => ?_))
    · refine ev_pos h3 (ev_pos (by omega) ?_)
      rw [show errStep o x = o.set x.f1.toNat x.f2 by unfold errStep; rw [if_pos k1]] at e
      exact ev_eq e (by rw [List.foldl_cons, show errStep o x = o.set x.f1.toNat x.f2 by unfold errStep; rw [if_pos k1]])
    · have q : spec_cut.f o x.f1 = some (errStep o x) := by
        unfold spec_cut.f errStep
        rw [if_pos ⟨h3, by omega, by omega⟩, if_neg k1, if_pos k2, w]; simp
      exact ev_val q (ev_eq e rfl)
    · have q : spec_put.f o x.f1 x.f2 = some (errStep o x) := by
        unfold spec_put.f errStep
        rw [if_pos ⟨h3, by omega, by omega⟩, if_neg k1, if_neg k2]; simp
      exact ev_val q (ev_eq e rfl)
theorem specErrBy_ev (p : List Int) (l : List S108) (hp : p.length ≤ 1048576) (hl : l.length ≤ 1048576) : Ev (fun k => spec_ErrBy.f k p l) (errM p l) := by
  simp only [spec_ErrBy.f, Option.bind_some, List.length_nil, List.nil_append, errM]
  refine ev_pos (by omega) (Ev.bind (specAreSlips_ev l _ hl) (ev_ite (fun h => ?_) (fun h => ?_)))
  · rw [if_pos h]
    obtain ⟨h1, h2, h3⟩ := slips_head h
    exact specErr_l0 l [] p (by simpa using hl) (by omega) h1 h2 h3
  · rw [if_neg h]; exact Ev.now _

theorem implErr_l0 (suf : List S108) : ∀ (pre : List S108) (o : List Int), (pre ++ suf).length ≤ 1048576 → o.length + suf.length ≤ 2097152 → (∀ y ∈ suf, 1 ≤ y.f0 ∧ y.f0 ≤ 3 ∧ 0 ≤ y.f1) → suf.Pairwise (fun a b => b.f1 < a.f1) → (∀ y, suf.head? = some y → slOk y o.length) →
    Ev (fun k => impl_ErrBy.l0 k o (pre ++ suf) ((pre ++ suf).length : Int) (pre.length : Int)) (suf.foldl errStep o, true) := by
  induction suf with
  | nil =>
    intro pre o h _ _ _ _
    refine ev_tail ?_
    simp only [impl_ErrBy.l0]
    exact ev_neg (by simp) (Ev.now _)
  | cons x t ih =>
    intro pre o h ho hm hp hx
    have hx := hx x rfl
    have hlen := (errStep_len hx).2
    have e := ih (pre ++ [x]) (errStep o x) (by simpa using h) (by simp only [List.length_cons] at ho; omega) (fun y hy => hm y (List.mem_cons_of_mem _ hy)) (List.pairwise_cons.1 hp).2 (slOk_next hx hm hp)
    simp only [List.length_append, List.length_cons] at h ho
    obtain ⟨⟨h1, h2, h3⟩, h4⟩ := hx
    refine ev_tail ?_
    simp only [impl_ErrBy.l0]
    refine ev_pos (by simp; omega) (ev_pos (by omega) (ev_pos (by simp; omega) ?_))
    rw [show rd_T108 (pre ++ x :: t) ((pre.length : Nat) : Int) = x from getD_mid pre x t _, wrap_succ (by omega), snoc_cons pre x t, ← length_snoc pre x]
    have w : wrap64 (x.f1 + 1) = x.f1 + 1 := wrap_id (by omega) (by omega)
    refine ev_ite (fun k1 => ?_) (fun k1 => ev_ite (fun k2 => ?_) (fun k2 => ?_))
    · refine ev_pos h3 (ev_pos (by omega) ?_)
      rw [show errStep o x = o.set x.f1.toNat x.f2 by unfold errStep; rw [if_pos k1]] at e
      exact ev_eq e (by rw [List.foldl_cons, show errStep o x = o.set x.f1.toNat x.f2 by unfold errStep; rw [if_pos k1]])
    · have q : slices_Delete_int_int.f o x.f1 (wrap64 (x.f1 + 1)) = some (errStep o x) := by
        unfold slices_Delete_int_int.f errStep
        rw [w, if_pos ⟨h3, by omega, by omega⟩, if_neg k1, if_pos k2, show (x.f1 + 1).toNat = x.f1.toNat + 1 by omega]
      exact ev_val q (ev_eq e rfl)
    · have q : slices_Insert_int_int.f o x.f1 [x.f2] = some (errStep o x) := by
        unfold slices_Insert_int_int.f errStep
        rw [if_pos ⟨⟨h3, by omega⟩, rfl, by omega⟩, if_neg k1, if_neg k2]
      exact ev_val q (ev_eq e rfl)
theorem implErrBy_ev (p : List Int) (l : List S108) (hp : p.length ≤ 1048576) (hl : l.length ≤ 1048576) : Ev (fun k => impl_ErrBy.f k p l) (errM p l) := by
  have hc : impl_clone_int.f p = some p := by unfold impl_clone_int.f; simp; omega
  simp only [impl_ErrBy.f, hc, Option.bind_some, errM]
  refine Ev.bind (implAreSlips_ev l _ hl) (ev_ite (fun h => ?_) (fun h => ?_))
  · rw [if_pos h]
    obtain ⟨h1, h2, h3⟩ := slips_head h
    exact implErr_l0 l [] p (by simpa using hl) (by omega) h1 h2 h3
  · rw [if_neg h]; exact Ev.now _

theorem FnExactErrBy : ∀ (l0 : List (Int)) (l1 : List (S110)), (l0.length ≤ maxLen) → (∀ x ∈ l0, (Lit.int .i64 x).wf = true) → (l1.length ≤ maxLen) → (∀ x ∈ l1, ((Lit.int .i64 x.f0).wf = true) ∧ ((Lit.int .i64 x.f1).wf = true) ∧ ((Lit.int .i64 x.f2).wf = true)) → ∃ k, laws_FnExactErrBy.f k l0 l1 = some true := by
  intro p l _ _ hl _
  refine Ev.rounds ?_
  simp only [laws_FnExactErrBy.f]
  refine ev_ite (fun _ => Ev.now _) (fun hp => ?_)
  obtain ⟨r, hr, hb⟩ := szSlipS_some l hl
  refine ev_val hr (ev_ite (fun _ => Ev.now _) (fun h => ?_))
  have hn := hb h
  have hm : (l.map cvSlip).length ≤ 1048576 := by rw [List.length_map]; exact hn
  have hp' : p.length ≤ 1048576 := by omega
  have hq := errM_length p (l.map cvSlip)
  have tp := toIntS_ev p (by omega)
  have t1 := toSlipS_ev l hn
  have e1 := eqIntS_ev (errM p (l.map cvSlip)).1 (by omega)
  have i1 := implErrBy_ev p (l.map cvSlip) hp' hm
  have m1 := markIntS_ev (errM p (l.map cvSlip)).1 1 (by omega) (by omega) (by omega)
  have d1 := heldIntS_ev (errM p (l.map cvSlip)).1.length 1 (by omega) (by omega) (by omega)
  refine Ev.bind tp (Ev.bind t1 (Ev.bind (specErrBy_ev p _ hp' hm) (Ev.bind tp (Ev.bind t1 (Ev.bind i1 (Ev.bind e1 (ev_pos (by trivial) (ev_tail ?_))))))))
  simp only [laws_FnExactErrBy.j0, bne_self_eq_false]
  refine ev_neg (by simp) (Ev.bind tp (Ev.bind (eqIntS_ev p (by omega)) (ev_pos (by trivial) (Ev.bind t1 (Ev.bind (eqSlipS_ev _ hm) (ev_pos (by trivial) ?_))))))
  refine Ev.bind (markIntS_ev p 1 (by omega) (by omega) (by omega)) (Ev.bind (markSlipS_ev _ _ (by omega) (by omega) (by omega)) (ev_neg (by simp; omega) (Ev.bind e1 (ev_pos (by trivial) (ev_tail ?_)))))
  simp only [laws_FnExactErrBy.j1]
  refine ev_neg (by simp) (Ev.bind m1 (Ev.bind d1 (ev_neg (by omega) (ev_pos rfl ?_))))
  refine Ev.bind tp (Ev.bind t1 (Ev.bind i1 (Ev.bind e1 (ev_pos (by trivial) (ev_tail ?_)))))
  simp only [laws_FnExactErrBy.j2, bne_self_eq_false]
  exact ev_neg (by simp) (Ev.bind d1 (ev_neg (by omega) (ev_pos rfl (Ev.now _))))
end Go.Proofs.Ytlkcbmcbmanmiaa.Pure
