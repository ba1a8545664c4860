/-
PlayAlong of the program and of the reference: the same answer.
Conditions: none.
-/
import Derived.Test.YtlkcbmcbmanmiaaPFnExactPlayAlongx17
import Derived.Test.YtlkcbmcbmanmiaaBase
namespace Go.Proofs.Ytlkcbmcbmanmiaa.Pure
open Go.RowKit Go.Proofs.Ytlkcbmcbmanmiaa.PFnExactPlayAlong Go.Proofs.YtlkcbmcbmanmiaaW.PrintWords Go.Proofs.YtlkcbmcbmanmiaaW.PrintLast Go.Proofs.YtlkcbmcbmanmiaaW.PrintMore Go.Proofs.Ytlkcbmcbmanmiaa.Base
set_option linter.unusedVariables false
set_option linter.unusedSimpArgs false

theorem l1In_eq (a b c : Int) : spec_l1In.f a b c = some (decide (b ≤ a ∧ a ≤ c)) := by
  unfold spec_l1In.f
  by_cases h1 : b ≤ a <;> by_cases h2 : a ≤ c <;> simp [h1, h2]
theorem InRange_eq (a b c : Int) : impl_InRange.f a b c = some (decide (b ≤ a ∧ a ≤ c)) := by
  unfold impl_InRange.f
  by_cases h1 : b ≤ a <;> by_cases h2 : a ≤ c <;> simp [h1, h2]

theorem toIntS_l0 (suf : List Int) : ∀ pre : List Int, (pre ++ suf).length ≤ 35184372088832 → Ev (fun k => laws_toIntS.l0 k (pre ++ suf) (pre ++ List.replicate suf.length 0) (pre.length : Int)) (pre ++ suf) := by
  induction suf with
  | nil =>
    intro pre h
    refine ev_tail ?_
    simp only [laws_toIntS.l0]
    refine ev_neg (by simp) ?_
    simpa using Ev.now pre
  | cons x t ih =>
    intro pre h
    have e := ih (pre ++ [x]) (by simpa using h)
    simp only [List.length_append, List.length_cons] at h
    refine ev_tail ?_
    simp only [laws_toIntS.l0]
    refine ev_pos (by simp; omega) (ev_pos (by omega) (ev_pos (by simp; omega) ?_))
    rw [rd_mid, List.length_cons, List.replicate_succ, set_mid, wrap_succ (by omega), snoc_cons pre x t, snoc_cons pre x (List.replicate t.length 0), ← length_snoc pre x]
    exact e
theorem toIntS_ev (l : List Int) (h : l.length ≤ 35184372088832) : Ev (fun k => laws_toIntS.f k l) l := by
  simp only [laws_toIntS.f]
  refine ev_pos (by omega) (ev_pos (by omega) ?_)
  exact toIntS_l0 l [] (by simpa using h)

theorem eqIntS_l0 (suf : List Int) : ∀ pre : List Int, (pre ++ suf).length ≤ 35184372088832 → Ev (fun k => laws_eqIntS.l0 k (pre ++ suf) (pre ++ suf) (pre.length : Int)) true := by
  induction suf with
  | nil =>
    intro pre h
    refine ev_tail ?_
    simp only [laws_eqIntS.l0]
    exact ev_neg (by simp) (Ev.now true)
  | cons x t ih =>
    intro pre h
    have e := ih (pre ++ [x]) (by simpa using h)
    simp only [List.length_append, List.length_cons] at h
    refine ev_tail ?_
    simp only [laws_eqIntS.l0]
    refine ev_pos (by simp; omega) (ev_pos (by omega) (ev_pos (by simp; omega) (ev_pos (by trivial) ?_)))
    rw [wrap_succ (by omega), snoc_cons pre x t, ← length_snoc pre x]
    exact e
theorem eqIntS_ev (l : List Int) (h : l.length ≤ 35184372088832) : Ev (fun k => laws_eqIntS.f k l l) true := by
  simp only [laws_eqIntS.f]
  refine ev_pos (by trivial) ?_
  exact eqIntS_l0 l [] (by simpa using h)

theorem markIntS_l0 (suf : List Int) : ∀ (pre : List Int) (m : Int), (pre ++ suf).length ≤ 35184372088832 → 0 ≤ m → m + suf.length ≤ 9223372036854775807 → Ev (fun k => laws_markIntS.l0 k (pre ++ suf) m (pre.length : Int)) (m + suf.length, pre ++ marks suf.length m) := by
  induction suf with
  | nil =>
    intro pre m h h0 h1
    refine ev_tail ?_
    simp only [laws_markIntS.l0]
    refine ev_neg (by simp) ?_
    simpa [marks] using Ev.now _
  | cons y t ih =>
    intro pre m h h0 h1
    simp only [List.length_cons] at h1
    have e := ih (pre ++ [m]) (m + 1) (by simpa using h) (by omega) (by omega)
    simp only [List.length_append, List.length_cons] at h
    refine ev_tail ?_
    simp only [laws_markIntS.l0]
    refine ev_pos (by simp; omega) (ev_pos (by omega) ?_)
    rw [set_mid, wrap_succ (by omega), wrap_id (n := m + 1) (by omega) (by omega), snoc_cons pre m t, ← length_snoc pre m]
    refine ev_eq e ?_
    simp only [marks, List.length_cons, List.append_assoc, List.singleton_append]
    congr 1
    omega
theorem markIntS_ev (l : List Int) (m : Int) (h : l.length ≤ 35184372088832) (h0 : 0 ≤ m) (h1 : m + l.length ≤ 9223372036854775807) : Ev (fun k => laws_markIntS.f k l m) (m + l.length, marks l.length m) := by
  simp only [laws_markIntS.f]
  exact markIntS_l0 l [] m (by simpa using h) h0 h1

def cvEvent (x : S83) : S81 := ⟨x.f0, x.f1, x.f2, x.f3⟩
theorem rdLEvent (pre : List S83) (x : S83) (t : List S83) : rd_T83 (pre ++ x :: t) ((pre.length : Nat) : Int) = x := getD_mid pre x t z83
theorem rdIEvent (pre : List S81) (x : S81) (t : List S81) : rd_T81 (pre ++ x :: t) ((pre.length : Nat) : Int) = x := getD_mid pre x t z81
theorem toEventS_l0 (suf : List S83) : ∀ pre : List S83, (pre ++ suf).length ≤ 1048576 → Ev (fun k => laws_toEventS.l0 k (pre ++ suf) (pre.map cvEvent ++ List.replicate suf.length z81) (pre.length : Int)) ((pre ++ suf).map cvEvent) := by
  induction suf with
  | nil =>
    intro pre h
    refine ev_tail ?_
    simp only [laws_toEventS.l0]
    refine ev_neg (by simp) ?_
    exact ev_eq (Ev.now _) (by simp)
  | cons x t ih =>
    intro pre h
    have e := ih (pre ++ [x]) (by simpa using h)
    simp only [List.length_append, List.length_cons] at h
    refine ev_tail ?_
    simp only [laws_toEventS.l0, laws_toEvent.f, Option.bind_some]
    refine ev_pos (by simp; omega) (ev_pos (by omega) (ev_pos (by simp; omega) ?_))
    rw [rdLEvent, List.length_cons, List.replicate_succ]
    have e1 : (pre.map cvEvent ++ z81 :: List.replicate t.length z81).set ((pre.length : Nat) : Int).toNat (⟨x.f0, x.f1, x.f2, x.f3⟩ : S81) = (pre ++ [x]).map cvEvent ++ List.replicate t.length z81 := by
      simp [cvEvent]
    rw [e1, wrap_succ (by omega), snoc_cons pre x t, ← length_snoc pre x]
    exact e
theorem toEventS_ev (l : List S83) (h : l.length ≤ 1048576) : Ev (fun k => laws_toEventS.f k l) (l.map cvEvent) := by
  simp only [laws_toEventS.f]
  refine ev_pos (by omega) (ev_pos (by omega) ?_)
  exact toEventS_l0 l [] (by simpa using h)

theorem eqEventS_l0 (suf : List S81) : ∀ pre : List S81, (pre ++ suf).length ≤ 1048576 → Ev (fun k => laws_eqEventS.l0 k (pre ++ suf) (pre ++ suf) (pre.length : Int)) true := by
  induction suf with
  | nil =>
    intro pre h
    refine ev_tail ?_
    simp only [laws_eqEventS.l0]
    exact ev_neg (by simp) (Ev.now true)
  | cons x t ih =>
    intro pre h
    have e := ih (pre ++ [x]) (by simpa using h)
    simp only [List.length_append, List.length_cons] at h
    refine ev_tail ?_
    simp only [laws_eqEventS.l0, laws_eqEvent.f, if_true, Option.bind_some]
    refine ev_pos (by simp; omega) (ev_pos (by omega) (ev_pos (by simp; omega) ?_))
    rw [wrap_succ (by omega), snoc_cons pre x t, ← length_snoc pre x]
    exact e
theorem eqEventS_ev (l : List S81) (h : l.length ≤ 1048576) : Ev (fun k => laws_eqEventS.f k l l) true := by
  simp only [laws_eqEventS.f]
  refine ev_pos (by trivial) ?_
  exact eqEventS_l0 l [] (by simpa using h)

def marksEvent : Nat → Int → List S81
  | 0, _ => []
  | n + 1, m => ⟨m, m + 1, m + 1 + 1, m + 1 + 1 + 1⟩ :: marksEvent n (m + 1 + 1 + 1 + 1)
theorem marksEvent_length (n : Nat) : ∀ m, (marksEvent n m).length = n := by
  induction n with
  | zero => intro m; rfl
  | succ n ih => intro m; simp [marksEvent, ih]
theorem markEventS_l0 (suf : List S81) : ∀ (pre : List S81) (m : Int), (pre ++ suf).length ≤ 8388608 → 0 ≤ m → m ≤ 1099511627776 - 4 * suf.length → Ev (fun k => laws_markEventS.l0 k (pre ++ suf) m (pre.length : Int)) (m + 4 * suf.length, pre ++ marksEvent suf.length m) := by
  induction suf with
  | nil =>
    intro pre m h h0 h1
    refine ev_tail ?_
    simp only [laws_markEventS.l0]
    refine ev_neg (by simp) (ev_eq (Ev.now _) (by simp [marksEvent]))
  | cons y t ih =>
    intro pre m h h0 h1
    simp only [List.length_cons] at h1
    have e := ih (pre ++ [⟨m, m + 1, m + 1 + 1, m + 1 + 1 + 1⟩]) (m + 1 + 1 + 1 + 1) (by simpa using h) (by omega) (by omega)
    simp only [List.length_append, List.length_cons] at h
    refine ev_tail ?_
    simp only [laws_markEventS.l0, Option.bind_some, set_mid, rdIEvent]
    refine ev_pos (by simp; omega) (ev_pos (by omega) ?_)
    rw [wrap_id (n := m + 1) (by omega) (by omega), wrap_id (n := m + 1 + 1) (by omega) (by omega), wrap_id (n := m + 1 + 1 + 1) (by omega) (by omega), wrap_id (n := m + 1 + 1 + 1 + 1) (by omega) (by omega), wrap_succ (by omega), snoc_cons pre _ t, ← length_snoc pre (⟨m, m + 1, m + 1 + 1, m + 1 + 1 + 1⟩ : S81)]
    refine ev_eq e ?_
    simp only [marksEvent, List.length_cons, List.append_assoc, List.singleton_append]
    congr 1
    omega
theorem markEventS_ev (l : List S81) (m : Int) (h : l.length ≤ 8388608) (h0 : 0 ≤ m) (h1 : m ≤ 1099511627776 - 4 * l.length) : Ev (fun k => laws_markEventS.f k l m) (m + 4 * l.length, marksEvent l.length m) := by
  simp only [laws_markEventS.f]
  exact markEventS_l0 l [] m (by simpa using h) h0 h1

theorem heldEventS_l0 (n : Nat) : ∀ (pre : List S81) (m : Int), pre.length + n ≤ 8388608 → 0 ≤ m → m ≤ 1099511627776 - 4 * n → Ev (fun k => laws_heldEventS.l0 k (pre ++ marksEvent n m) m (pre.length : Int)) (m + 4 * n) := by
  induction n with
  | zero =>
    intro pre m h h0 h1
    refine ev_tail ?_
    simp only [laws_heldEventS.l0]
    refine ev_neg (by simp [marksEvent]) (ev_eq (Ev.now _) (by omega))
  | succ n ih =>
    intro pre m h h0 h1
    have e := ih (pre ++ [⟨m, m + 1, m + 1 + 1, m + 1 + 1 + 1⟩]) (m + 1 + 1 + 1 + 1) (by simp; omega) (by omega) (by omega)
    refine ev_tail ?_
    have hm : marksEvent (n + 1) m = ⟨m, m + 1, m + 1 + 1, m + 1 + 1 + 1⟩ :: marksEvent n (m + 1 + 1 + 1 + 1) := rfl
    rw [hm]
    simp only [laws_heldEventS.l0, rdIEvent]
    refine ev_pos (by simp [marksEvent_length]; omega) (ev_pos (by omega) ?_)
    rw [wrap_id (n := m + 1) (by omega) (by omega), wrap_id (n := m + 1 + 1) (by omega) (by omega), wrap_id (n := m + 1 + 1 + 1) (by omega) (by omega), wrap_id (n := m + 1 + 1 + 1 + 1) (by omega) (by omega), wrap_succ (by omega), snoc_cons pre _ (marksEvent n (m + 1 + 1 + 1 + 1)), ← length_snoc pre (⟨m, m + 1, m + 1 + 1, m + 1 + 1 + 1⟩ : S81)]
    simp only [if_true]
    exact ev_eq e (by omega)
theorem heldEventS_ev (n : Nat) (m : Int) (h : n ≤ 8388608) (h0 : 0 ≤ m) (h1 : m ≤ 1099511627776 - 4 * n) : Ev (fun k => laws_heldEventS.f k (marksEvent n m) m) (m + 4 * n) := by
  simp only [laws_heldEventS.f]
  exact heldEventS_l0 n [] m (by simpa using h) h0 h1

theorem szEventS_some (l : List S83) (h : l.length ≤ maxLen) : ∃ r, laws_szEventS.f l 1048576 = some r ∧ (¬ r < 0 → l.length ≤ 1048576) := by
  have hm : maxLen = 9223372036854775807 := rfl
  unfold laws_szEventS.f
  rw [wrap_id (by omega) (by omega)]
  by_cases h0 : (1048576 : Int) - (l.length : Int) < 0
  · exact ⟨-1, by rw [if_pos h0], fun h => absurd (by omega) h⟩
  · exact ⟨_, by rw [if_neg h0], fun _ => by omega⟩

def evOK (e : S81) : Bool := decide (0 ≤ e.f0 ∧ e.f0 ≤ 2000 ∧ 1 ≤ e.f1 ∧ e.f1 ≤ 96 ∧ 21 ≤ e.f2 ∧ e.f2 ≤ 108 ∧ 1 ≤ e.f3 ∧ e.f3 ≤ 4)
/-- In order: by At, then by Voice, then by Pitch. -/
def evLt (a b : S81) : Bool := decide (a.f0 < b.f0 ∨ (a.f0 = b.f0 ∧ (a.f3 < b.f3 ∨ (a.f3 = b.f3 ∧ a.f2 < b.f2))))
def scC (l : List S81) (i : Int) : Bool := evOK (rd_T81 l i) && (decide (i ≤ 0) || evLt (rd_T81 l (i - 1)) (rd_T81 l i))
def scoreM (l : List S81) : Bool := allF (scC l) (decide ((l.length : Int) ≤ 40)) l.length 0
theorem l8Ok_eq (e : S81) : spec_l8Ok.f e.f0 e.f1 e.f2 e.f3 = some (evOK e) := by
  simp only [spec_l8Ok.f, l1In_eq, Option.bind_some, evOK]
  by_cases h1 : 0 ≤ e.f0 ∧ e.f0 ≤ 2000 <;> by_cases h2 : 1 ≤ e.f1 ∧ e.f1 ≤ 96 <;> by_cases h3 : 21 ≤ e.f2 ∧ e.f2 ≤ 108 <;> simp [h1, h2, h3, and_assoc] <;> omega
theorem l8Before_eq (a b : S81) : spec_l8Before.f a.f0 a.f1 a.f2 a.f3 b.f0 b.f1 b.f2 b.f3 = some (evLt a b) := by
  simp only [spec_l8Before.f, evLt]
  by_cases h1 : a.f0 = b.f0
  · rw [if_pos h1]
    by_cases h2 : a.f3 = b.f3
    · rw [if_pos h2]; congr 1; exact decide_eq_decide.mpr (by omega)
    · rw [if_neg h2]; congr 1; exact decide_eq_decide.mpr (by omega)
  · rw [if_neg h1]; congr 1; exact decide_eq_decide.mpr (by omega)
theorem specIsScore_ev (l : List S81) (h : l.length ≤ 1048576) : Ev (fun k => spec_IsScore.f k l) (scoreM l) := by
  simp only [spec_IsScore.f]
  refine ev_all (L := fun k i => spec_IsScore.l0 k l i) (n := l.length) (fun i hi => ?_) ?_ l.length 0 (by omega)
  · have w1 : Aside0 (wrap64 ((i : Int) + 1) = (i : Int) + 1) := ⟨wrap_id (by omega) (by omega)⟩
    have w2 : Aside0 (wrap64 ((i : Int) - 1) = (i : Int) - 1) := ⟨wrap_id (by omega) (by omega)⟩
    constructor
    · intro hc r e
      simp only [scC, Bool.and_eq_true] at hc
      obtain ⟨h1, h2⟩ := hc
      refine ev_tail ?_
      simp only [spec_IsScore.l0, l8Ok_eq, l8Before_eq, Option.bind_some, w1.out, w2.out]
      refine ev_pos (by omega) (ev_pos (by omega) (ev_pos h1 (ev_ite (fun h0 => ?_) (fun _ => e))))
      rw [decide_eq_false (by omega), Bool.false_or] at h2
      exact ev_pos (by omega) (ev_pos (by omega) (ev_pos h2 e))
    · intro hc
      simp only [scC, Bool.and_eq_false_iff] at hc
      refine ev_tail ?_
      simp only [spec_IsScore.l0, l8Ok_eq, l8Before_eq, Option.bind_some, w1.out, w2.out]
      refine ev_pos (by omega) (ev_pos (by omega) (ev_ite (fun h1 => ?_) (fun _ => Ev.now _)))
      rcases hc with hc | hc
      · rw [hc] at h1; exact absurd h1 (by simp)
      · simp only [Bool.or_eq_false_iff, decide_eq_false_iff_not] at hc
        exact ev_pos (by omega) (ev_pos (by omega) (ev_pos (by omega) (ev_neg (by rw [hc.2]; simp) (Ev.now _))))
  · refine ev_tail ?_
    simp only [spec_IsScore.l0]
    exact ev_neg (by omega) (Ev.now _)
theorem cmp_eq (a b : Int) : cmp_Compare_int.f a b = some (if a < b then -1 else if a > b then 1 else 0) := by
  simp only [cmp_Compare_int.f, cmp_isNaN_int.f, Option.bind_some, bne_self_eq_false, Bool.false_eq_true, if_false]
  by_cases h1 : a < b
  · rw [if_pos h1, if_pos h1]
  · rw [if_neg h1, if_neg h1]
    by_cases h2 : a > b
    · rw [if_pos h2, if_pos h2]
    · rw [if_neg h2, if_neg h2]
theorem or_ev (a b c : Int) : Ev (fun k => cmp_Or_int.f k [a, b, c]) (if a = 0 then (if b = 0 then (if c = 0 then 0 else c) else b) else a) := by
  simp only [cmp_Or_int.f]
  have r0 : rd [a, b, c] 0 = a := rfl
  have r1 : rd [a, b, c] 1 = b := rfl
  have r2 : rd [a, b, c] 2 = c := rfl
  have w0 : wrap64 ((0 : Int) + 1) = 1 := by unfold wrap64; omega
  have w1 : wrap64 ((1 : Int) + 1) = 2 := by unfold wrap64; omega
  have w2 : wrap64 ((2 : Int) + 1) = 3 := by unfold wrap64; omega
  refine ev_tail ?_
  simp only [cmp_Or_int.l0, r0, w0]
  refine ev_pos (by simp) (ev_pos (by omega) (ev_pos (by simp) (ev_ite (fun h0 => ?_) (fun h0 => ?_))))
  · rw [if_pos h0]
    refine ev_tail ?_
    simp only [cmp_Or_int.l0, r1, w1]
    refine ev_pos (by simp) (ev_pos (by omega) (ev_pos (by simp) (ev_ite (fun h1 => ?_) (fun h1 => ?_))))
    · rw [if_pos h1]
      refine ev_tail ?_
      simp only [cmp_Or_int.l0, r2, w2]
      refine ev_pos (by simp) (ev_pos (by omega) (ev_pos (by simp) (ev_ite (fun h2 => ?_) (fun h2 => ?_))))
      · rw [if_pos h2]
        refine ev_tail ?_
        simp only [cmp_Or_int.l0]
        exact ev_neg (by simp) (Ev.now _)
      · rw [if_neg h2]; exact Ev.now _
    · rw [if_neg h1]; exact Ev.now _
  · rw [if_neg h0]; exact Ev.now _
theorem eventOrder_ev (a b : S81) : ∃ r, Ev (fun k => impl_eventOrder.f k a.f0 a.f1 a.f2 a.f3 b.f0 b.f1 b.f2 b.f3) r ∧ (evLt a b = true ↔ r < 0) := by
  simp only [impl_eventOrder.f, cmp_eq, Option.bind_some]
  refine ⟨_, Ev.bind (or_ev _ _ _) (Ev.now _), ?_⟩
  simp only [evLt, decide_eq_true_eq]
  repeat' split
  all_goals omega
theorem implIsScore_ev (l : List S81) (h : l.length ≤ 1048576) : Ev (fun k => impl_IsScore.f k l) (scoreM l) := by
  simp only [impl_IsScore.f]
  refine ev_all (L := fun k i => impl_IsScore.l0 k l l (l.length : Int) i) (n := l.length) (fun i hi => ?_) ?_ l.length 0 (by omega)
  · have w1 : Aside0 (wrap64 ((i : Int) + 1) = (i : Int) + 1) := ⟨wrap_id (by omega) (by omega)⟩
    have w2 : Aside0 (wrap64 ((i : Int) - 1) = (i : Int) - 1) := ⟨wrap_id (by omega) (by omega)⟩
    obtain ⟨q, hq, hl⟩ := eventOrder_ev (rd_T81 l ((i : Int) - 1)) (rd_T81 l (i : Int))
    constructor
    · intro hc r e
      simp only [scC, Bool.and_eq_true, evOK, decide_eq_true_eq] at hc
      obtain ⟨h1, h2⟩ := hc
      refine ev_tail ?_
      simp only [impl_IsScore.l0, InRange_eq, Option.bind_some, w1.out, w2.out]
      refine ev_pos (by omega) (ev_pos (by omega) (ev_pos (by omega) (ev_pos (by simp; omega) (ev_pos (by simp; omega) (ev_pos (by simp; omega) (ev_pos (by simp; omega) (ev_ite (fun h0 => ?_) (fun _ => e))))))))
      rw [decide_eq_false (by omega), Bool.false_or] at h2
      have := hl.mp h2
      exact ev_pos (by omega) (ev_pos (by omega) (Ev.bind hq (ev_neg (by omega) e)))
    · intro hc
      refine ev_tail ?_
      simp only [impl_IsScore.l0, InRange_eq, Option.bind_some, w1.out, w2.out]
      refine ev_pos (by omega) (ev_pos (by omega) (ev_pos (by omega) (ev_ite (fun h1 => ev_ite (fun h2 => ev_ite (fun h3 => ev_ite (fun h4 => ?_) (fun _ => Ev.now _)) (fun _ => Ev.now _)) (fun _ => Ev.now _)) (fun _ => Ev.now _))))
      simp only [decide_eq_true_eq] at h1 h2 h3 h4
      simp only [scC, Bool.and_eq_false_iff] at hc
      rcases hc with hc | hc
      · simp only [evOK, decide_eq_false_iff_not] at hc
        exact absurd ⟨h1.1, h1.2, h2.1, h2.2, h3.1, h3.2, h4.1, h4.2⟩ hc
      · simp only [Bool.or_eq_false_iff, decide_eq_false_iff_not] at hc
        have : ¬ q < 0 := fun hlt => by rw [hl.mpr hlt] at hc; exact absurd hc.2 (by simp)
        exact ev_pos (by omega) (ev_pos (by omega) (ev_pos (by omega) (Ev.bind hq (ev_pos (by omega) (Ev.now _)))))
  · refine ev_tail ?_
    simp only [impl_IsScore.l0]
    exact ev_neg (by omega) (Ev.now _)
theorem score_len {l : List S81} (h : scoreM l = true) : l.length ≤ 40 := by
  unfold scoreM at h
  rw [allF_iff] at h
  have := h.1
  simp only [decide_eq_true_eq] at this
  omega

theorem score_at {l : List S81} (h : scoreM l = true) (i : Nat) (hi : i < l.length) : evOK (rd_T81 l (i : Int)) = true := by
  unfold scoreM at h
  rw [allF_iff] at h
  have := h.2 i (by omega) (by omega)
  unfold scC at this
  rw [Bool.and_eq_true] at this
  exact this.1

/-- The events of one voice, in order. -/
def voiceM (l : List S81) (u : Int) : List S81 := l.filter fun e => !(e.f3 != u)
theorem voiceM_length (l : List S81) (u : Int) : (voiceM l u).length ≤ l.length := List.length_filter_le _ _
def voSt (l : List S81) (u : Int) (i : Int) (out : List S81) : List S81 := if (rd_T81 l i).f3 = u then out ++ [rd_T81 l i] else out
theorem voiceM_fold (l : List S81) (u : Int) : foldM (voSt l u) l.length 0 [] = voiceM l u := by
  have h := foldM_all (fun (x : S81) (s : List S81) => if x.f3 = u then s ++ [x] else s) z81 l []
  refine h.trans ?_
  have g : ∀ (t out : List S81), t.foldl (fun (s : List S81) x => if x.f3 = u then s ++ [x] else s) out = out ++ voiceM t u := by
    intro t
    induction t with
    | nil => intro out; simp [voiceM]
    | cons x t ih =>
      intro out
      rw [List.foldl_cons, ih]
      unfold voiceM
      by_cases hx : x.f3 = u
      · simp [hx]
      · simp [hx]
  rw [g, List.nil_append]
theorem specVoiceOf_ev (l : List S81) (u : Int) (h : l.length ≤ 1048576) : Ev (fun k => spec_VoiceOf.f k l u) (voiceM l u) := by
  simp only [spec_VoiceOf.f]
  rw [← voiceM_fold]
  refine ev_fold (L := fun k out i => spec_VoiceOf.l0 k l u out i) (st := voSt l u) (fin := id) (n := l.length) (s0 := 0) (fun i out => out.length ≤ i) (fun i out _ _ ho => ?_) (fun i out _ hi ho r e => ?_) (fun p _ => ?_) l.length 0 [] (by omega) (by omega) (by simp)
  · unfold voSt
    split
    · simp; omega
    · omega
  · refine ev_tail ?_
    simp only [spec_VoiceOf.l0]
    rw [wrap_id (n := (i : Int) + 1) (by omega) (by omega)]
    unfold voSt at e
    refine ev_pos (by omega) (ev_pos (by omega) (ev_ite (fun c => ev_pos (by omega) ?_) (fun c => ?_)))
    · rw [if_pos c] at e; exact e
    · rw [if_neg c] at e; exact e
  · refine ev_tail ?_
    simp only [spec_VoiceOf.l0]
    exact ev_neg (by omega) (Ev.now _)
theorem implVoiceOf_eq (l : List S81) (u : Int) (h : l.length ≤ 1048576) : impl_VoiceOf.f l u = some (voiceM l u) := by
  unfold impl_VoiceOf.f
  rw [if_pos (by omega)]
  rfl
theorem score_mem {l : List S81} (h : scoreM l = true) {e : S81} (he : e ∈ l) : evOK e = true := by
  obtain ⟨i, hi, rfl⟩ := List.getElem_of_mem he
  have := score_at h i hi
  have hr : rd_T81 l (i : Int) = l[i] := by simp [rd_T81, List.getD, List.getElem?_eq_getElem hi]
  rwa [hr] at this
theorem voice_at {l : List S81} (h : scoreM l = true) (u : Int) (i : Int) (h0 : 0 ≤ i) (hi : i < ((voiceM l u).length : Int)) : evOK (rd_T81 (voiceM l u) i) = true := by
  have hi' : i.toNat < (voiceM l u).length := by omega
  have hr : rd_T81 (voiceM l u) i = (voiceM l u)[i.toNat] := by simp [rd_T81, List.getD, List.getElem?_eq_getElem hi']
  rw [hr]
  exact score_mem h (List.mem_filter.1 (List.getElem_mem hi')).1

/-- A voice as a target and its ticks. -/
def cueFM (l : List S81) (u : Int) : List Int × List Int × Bool := if scoreM l = true then ((voiceM l u).map (fun e => e.f2), (voiceM l u).map (fun e => e.f0), true) else ([], [], false)
theorem cueFM_length (l : List S81) (u : Int) : (cueFM l u).1.length ≤ l.length ∧ (cueFM l u).2.1.length ≤ l.length := by
  have := voiceM_length l u
  unfold cueFM
  split
  · simp only [List.length_map]; omega
  · simp
theorem specCue_l0 (suf : List S81) : ∀ (pre : List S81) (p a : List Int), (pre ++ suf).length ≤ 1048576 → p.length ≤ pre.length → a.length ≤ pre.length →
    Ev (fun k => spec_CueFrom.l0 k (pre ++ suf) (pre.length : Int) p a) (p ++ suf.map (fun e => e.f2), a ++ suf.map (fun e => e.f0), true) := by
  induction suf with
  | nil =>
    intro pre p a h hp ha
    refine ev_tail ?_
    simp only [spec_CueFrom.l0]
    exact ev_neg (by simp) (ev_eq (Ev.now _) (by simp))
  | cons x t ih =>
    intro pre p a h hp ha
    have e := ih (pre ++ [x]) (p ++ [x.f2]) (a ++ [x.f0]) (by simpa using h) (by simp; omega) (by simp; omega)
    simp only [List.length_append, List.length_cons] at h
    refine ev_tail ?_
    simp only [spec_CueFrom.l0]
    refine ev_pos (by simp; omega) (ev_pos (by omega) (ev_pos (by omega) (ev_pos (by omega) ?_)))
    rw [show rd_T81 (pre ++ x :: t) ((pre.length : Nat) : Int) = x from getD_mid pre x t _, wrap_succ (by omega), snoc_cons pre x t, ← length_snoc pre x]
    exact ev_eq e (by simp)
theorem specCueFrom_ev (l : List S81) (u : Int) (h : l.length ≤ 1048576) : Ev (fun k => spec_CueFrom.f k l u) (cueFM l u) := by
  have hv := voiceM_length l u
  simp only [spec_CueFrom.f, cueFM]
  refine Ev.bind (specIsScore_ev l h) (ev_ite (fun hs => ?_) (fun hs => ?_))
  · rw [if_pos hs]
    refine Ev.bind (specVoiceOf_ev l u h) ?_
    exact specCue_l0 (voiceM l u) [] [] [] (by simp; omega) (Nat.le_refl _) (Nat.le_refl _)
  · rw [if_neg hs]; exact Ev.now _
theorem implCue_l0 (suf : List S81) : ∀ (pre : List S81) (p a : List Int), (pre ++ suf).length ≤ 1048576 → p.length ≤ pre.length → a.length ≤ pre.length →
    Ev (fun k => impl_CueFrom.l0 k (pre ++ suf) ((pre ++ suf).length : Int) (pre.length : Int) p a) (p ++ suf.map (fun e => e.f2), a ++ suf.map (fun e => e.f0), true) := by
  induction suf with
  | nil =>
    intro pre p a h hp ha
    refine ev_tail ?_
    simp only [impl_CueFrom.l0]
    exact ev_neg (by simp) (ev_eq (Ev.now _) (by simp))
  | cons x t ih =>
    intro pre p a h hp ha
    have e := ih (pre ++ [x]) (p ++ [x.f2]) (a ++ [x.f0]) (by simpa using h) (by simp; omega) (by simp; omega)
    simp only [List.length_append, List.length_cons] at h
    refine ev_tail ?_
    simp only [impl_CueFrom.l0, Option.bind_some, List.length_cons, List.length_nil]
    refine ev_pos (by simp; omega) (ev_pos (by omega) (ev_pos (by simp; omega) (ev_pos (by omega) (ev_pos (by omega) ?_))))
    rw [show rd_T81 (pre ++ x :: t) ((pre.length : Nat) : Int) = x from getD_mid pre x t _, wrap_succ (by omega), snoc_cons pre x t, ← length_snoc pre x]
    exact ev_eq e (by simp)
theorem implCueFrom_ev (l : List S81) (u : Int) (h : l.length ≤ 1048576) : Ev (fun k => impl_CueFrom.f k l u) (cueFM l u) := by
  have hv := voiceM_length l u
  simp only [impl_CueFrom.f, cueFM]
  refine Ev.bind (implIsScore_ev l h) (ev_ite (fun hs => ?_) (fun hs => ?_))
  · rw [if_pos hs]
    refine ev_val (implVoiceOf_eq l u h) ?_
    exact implCue_l0 (voiceM l u) [] [] [] (by simp; omega) (Nat.le_refl _) (Nat.le_refl _)
  · rw [if_neg hs]; exact Ev.now _

def dueG (l : List S81) (v a b : Int) (i : Int) : Option S81 :=
  if (rd_T81 l i).f3 ≠ v ∧ (rd_T81 l i).f0 > a ∧ (rd_T81 l i).f0 ≤ b then some (rd_T81 l i) else none
def dueM (l : List S81) (v a b : Int) : List S81 := if scoreM l = true then colM (dueG l v a b) l.length 0 else []
theorem specDueEvents_ev (l : List S81) (v a b : Int) (h : l.length ≤ 1048576) : Ev (fun k => spec_DueEvents.f k l v a b) (dueM l v a b) := by
  simp only [spec_DueEvents.f, dueM]
  have hs := specIsScore_ev l h
  by_cases hsc : scoreM l = true
  · rw [if_pos hsc]
    rw [hsc] at hs
    refine ev_col (L := fun k out i => spec_DueEvents.l0 k l v a b out i) (g := dueG l v a b) (fin := id) (n := l.length) (s := 0) (fun i out _ hi ho r e => ?_) (fun out => ?_) l.length 0 [] (by omega) (by omega) (by simp)
    · have w1 : Aside0 (wrap64 ((i : Int) + 1) = (i : Int) + 1) := ⟨wrap_id (by omega) (by omega)⟩
      refine ev_tail ?_
      simp only [spec_DueEvents.l0]
      refine ev_pos (by omega) (Ev.bind hs (ev_tail ?_))
      simp only [spec_DueEvents.j1, w1.out]
      refine ev_pos (by trivial) (ev_pos (by omega) (ev_pos (by omega) ?_))
      unfold dueG at e
      refine ev_ite (fun c1 => ?_) (fun c1 => ev_ite (fun c2 => ev_ite (fun c3 => ev_pos (by omega) ?_) (fun c3 => ?_)) (fun c2 => ?_))
      · rw [if_neg (fun z => z.1 c1)] at e; simpa using e
      · rw [if_pos ⟨c1, c2, c3⟩] at e; exact e
      · rw [if_neg (fun z => c3 z.2.2)] at e; simpa using e
      · rw [if_neg (fun z => c2 z.2.1)] at e; simpa using e
    · refine ev_tail ?_
      simp only [spec_DueEvents.l0]
      refine ev_neg (by omega) (ev_tail ?_)
      simp only [spec_DueEvents.j1]
      exact ev_neg (by simp) (Ev.now _)
  · rw [if_neg hsc]
    rw [Bool.eq_false_iff.mpr hsc] at hs
    refine ev_tail ?_
    simp only [spec_DueEvents.l0]
    refine ev_ite (fun _ => Ev.bind hs (ev_tail ?_)) (fun _ => ev_tail ?_)
    · simp only [spec_DueEvents.j1]
      exact ev_neg (by simp) (Ev.now _)
    · simp only [spec_DueEvents.j1]
      exact ev_neg (by simp) (Ev.now _)
theorem implDueEvents_ev (l : List S81) (v a b : Int) (h : l.length ≤ 1048576) : Ev (fun k => impl_DueEvents.f k l v a b) (dueM l v a b) := by
  simp only [impl_DueEvents.f, Option.bind_some, dueM]
  refine Ev.bind (implIsScore_ev l h) (ev_ite (fun hsc => ?_) (fun hsc => ?_))
  · rw [if_pos hsc]
    refine ev_col (L := fun k out i => impl_DueEvents.l0 k v a b out l (l.length : Int) i) (g := dueG l v a b) (fin := id) (n := l.length) (s := 0) (fun i out _ hi ho r e => ?_) (fun out => ?_) l.length 0 [] (by omega) (by omega) (by simp)
    · have w1 : Aside0 (wrap64 ((i : Int) + 1) = (i : Int) + 1) := ⟨wrap_id (by omega) (by omega)⟩
      refine ev_tail ?_
      simp only [impl_DueEvents.l0, w1.out]
      refine ev_pos (by omega) (ev_pos (by omega) (ev_pos (by omega) ?_))
      unfold dueG at e
      refine ev_ite (fun c1 => ?_) (fun c1 => ev_ite (fun c2 => ev_ite (fun c3 => ev_pos (by omega) ?_) (fun c3 => ?_)) (fun c2 => ?_))
      · rw [if_neg (fun z => z.1 c1)] at e; simpa using e
      · rw [if_pos ⟨c1, c2, c3⟩] at e; exact e
      · rw [if_neg (fun z => c3 z.2.2)] at e; simpa using e
      · rw [if_neg (fun z => c2 z.2.1)] at e; simpa using e
    · refine ev_tail ?_
      simp only [impl_DueEvents.l0]
      exact ev_neg (by omega) (Ev.now _)
  · rw [if_neg hsc]
    exact Ev.now _

theorem colM_len {α : Type} (g : Int → Option α) (d : Nat) : ∀ i, (colM g d i).length ≤ d := by
  induction d with
  | zero => intro i; simp [colM]
  | succ d ih =>
    intro i
    have h1 := ih (i + 1)
    have h2 := toList_le (g (i : Int))
    simp only [colM, List.length_append]
    omega

/-- 0, 1, .. -/
def countI (n : Nat) : List Int := (List.range n).map fun (j : Nat) => (j : Int)
theorem countI_succ (n : Nat) : countI (n + 1) = countI n ++ [(n : Int)] := by simp [countI, List.range_succ]
theorem countI_length (n : Nat) : (countI n).length = n := by simp [countI]
def startM (t : List Int) : List Int × Int × Bool := if t.length ≤ 40 then (countI (t.length + 1), 0, true) else ([], 0, false)
theorem specStart_l0 (t : List Int) (h : t.length ≤ 40) (d : Nat) : ∀ i, i + d = t.length + 1 → Ev (fun k => spec_StartFollower.l0 k t (i : Int) (countI i) 0) (countI (t.length + 1), 0, true) := by
  induction d with
  | zero =>
    intro i hi
    refine ev_tail ?_
    simp only [spec_StartFollower.l0]
    obtain rfl : i = t.length + 1 := by omega
    exact ev_neg (by omega) (Ev.now _)
  | succ d ih =>
    intro i hi
    have e := ih (i + 1) (by omega)
    refine ev_tail ?_
    simp only [spec_StartFollower.l0]
    refine ev_pos (by omega) (ev_pos (by rw [countI_length]; omega) ?_)
    rw [wrap_succ (by omega), ← countI_succ]
    exact e
theorem implStart_l0 (n : Nat) (h : n ≤ 41) (d : Nat) : ∀ i, i + d = n → Ev (fun k => impl_StartFollower.l0 k (n : Int) (i : Int) (countI i) 0) (countI n, 0, true) := by
  induction d with
  | zero =>
    intro i hi
    refine ev_tail ?_
    simp only [impl_StartFollower.l0]
    obtain rfl : i = n := by omega
    exact ev_neg (by omega) (Ev.now _)
  | succ d ih =>
    intro i hi
    have e := ih (i + 1) (by omega)
    refine ev_tail ?_
    simp only [impl_StartFollower.l0]
    refine ev_pos (by omega) (ev_pos (by rw [countI_length]; omega) ?_)
    rw [wrap_succ (by omega), ← countI_succ]
    exact e
theorem specStartFollower_ev (t : List Int) : Ev (fun k => spec_StartFollower.f k t) (startM t) := by
  simp only [spec_StartFollower.f, startM]
  by_cases h : t.length ≤ 40
  · rw [if_pos h]
    have e := specStart_l0 t h (t.length + 1) 0 (by omega)
    exact ev_neg (by omega) (by simpa [countI] using e)
  · rw [if_neg h]
    exact ev_pos (by omega) (Ev.now _)
theorem implStartFollower_ev (t : List Int) : Ev (fun k => impl_StartFollower.f k t) (startM t) := by
  simp only [impl_StartFollower.f, startM]
  by_cases h : t.length ≤ 40
  · rw [if_pos h]
    refine ev_neg (by omega) ?_
    rw [wrap_succ (by omega)]
    have e := implStart_l0 (t.length + 1) (by omega) (t.length + 1) 0 (by omega)
    simpa [countI] using e
  · rw [if_neg h]
    exact ev_pos (by omega) (Ev.now _)
theorem startM_length (t : List Int) : (startM t).1.length ≤ 41 := by
  unfold startM
  split
  · simp [countI_length]; omega
  · simp

def folC (l : List Int) (i : Int) : Bool := decide (0 ≤ rd l i ∧ rd l i ≤ 1000 ∧ (0 < i → -1 ≤ wrap64 (rd l i - rd l (i - 1)) ∧ wrap64 (rd l i - rd l (i - 1)) ≤ 1))
def folM (t l : List Int) (x : Int) : Bool := allF (folC l) (decide ((t.length : Int) ≤ 40 ∧ (l.length : Int) = (t.length : Int) + 1 ∧ 0 ≤ x ∧ x ≤ 1000)) l.length 0
theorem specIsFollower_ev (t l : List Int) (x : Int) (ht : t.length ≤ 1048576) (h : l.length ≤ 1048577) : Ev (fun k => spec_IsFollower.f k t l x) (folM t l x) := by
  simp only [spec_IsFollower.f]
  refine ev_all (L := fun k i => spec_IsFollower.l0 k t i l x) (n := l.length) (fun i hi => ?_) ?_ l.length 0 (by omega)
  · have w1 : wrap64 ((i : Int) + 1) = (i : Int) + 1 := wrap_id (by omega) (by omega)
    have w2 : wrap64 ((i : Int) - 1) = (i : Int) - 1 := wrap_id (by omega) (by omega)
    constructor
    · intro hc r e
      simp only [folC, decide_eq_true_eq] at hc
      obtain ⟨h1, h2, h5⟩ := hc
      refine ev_tail ?_
      simp only [spec_IsFollower.l0, l1In_eq, Option.bind_some, w1, w2]
      refine ev_pos (by omega) (ev_pos (by omega) (ev_pos (by simpa using ⟨h1, h2⟩) ?_))
      refine ev_ite (fun h0 => ?_) (fun _ => e)
      exact ev_pos (by omega) (ev_pos (by omega) (ev_pos (by simpa using h5 h0) e))
    · intro hc
      simp only [folC, decide_eq_false_iff_not] at hc
      refine ev_tail ?_
      simp only [spec_IsFollower.l0, l1In_eq, Option.bind_some, w1, w2]
      refine ev_pos (by omega) (ev_pos (by omega) (ev_ite (fun h1 => ?_) (fun _ => Ev.now _)))
      simp only [decide_eq_true_eq] at h1
      refine ev_ite (fun h0 => ?_) (fun h0 => absurd ⟨h1.1, h1.2, fun h => absurd h h0⟩ hc)
      refine ev_pos (by omega) (ev_pos (by omega) (ev_ite (fun h3 => ?_) (fun _ => Ev.now _)))
      simp only [decide_eq_true_eq] at h3
      exact absurd ⟨h1.1, h1.2, fun _ => h3⟩ hc
  · refine ev_tail ?_
    have w3 : wrap64 ((t.length : Int) + 1) = (t.length : Int) + 1 := wrap_id (by omega) (by omega)
    simp only [spec_IsFollower.l0, l1In_eq, Option.bind_some, w3]
    refine ev_neg (by omega) (ev_ite (fun h1 => ev_ite (fun h2 => ?_) (fun h2 => ?_)) (fun h1 => ?_))
    · simpa [h1, h2] using Ev.now _
    · simpa [h1, h2] using Ev.now _
    · simpa [h1] using Ev.now _
theorem implIsFollower_ev (t l : List Int) (x : Int) (ht : t.length ≤ 1048576) (h : l.length ≤ 1048577) : Ev (fun k => impl_IsFollower.f k t l x) (folM t l x) := by
  simp only [impl_IsFollower.f]
  refine ev_all (L := fun k i => impl_IsFollower.l0 k t l (l.length : Int) i l x) (n := l.length) (fun i hi => ?_) ?_ l.length 0 (by omega)
  · have w1 : wrap64 ((i : Int) + 1) = (i : Int) + 1 := wrap_id (by omega) (by omega)
    have w2 : wrap64 ((i : Int) - 1) = (i : Int) - 1 := wrap_id (by omega) (by omega)
    constructor
    · intro hc r e
      simp only [folC, decide_eq_true_eq] at hc
      obtain ⟨h1, h2, h5⟩ := hc
      refine ev_tail ?_
      simp only [impl_IsFollower.l0, InRange_eq, Option.bind_some, w1, w2]
      refine ev_pos (by omega) (ev_pos (by omega) (ev_pos (by omega) (ev_pos (by simpa using ⟨h1, h2⟩) ?_)))
      refine ev_ite (fun h0 => ?_) (fun _ => e)
      exact ev_pos (by omega) (ev_pos (by omega) (ev_pos (by simpa using h5 h0) e))
    · intro hc
      simp only [folC, decide_eq_false_iff_not] at hc
      refine ev_tail ?_
      simp only [impl_IsFollower.l0, InRange_eq, Option.bind_some, w1, w2]
      refine ev_pos (by omega) (ev_pos (by omega) (ev_pos (by omega) (ev_ite (fun h1 => ?_) (fun _ => Ev.now _))))
      simp only [decide_eq_true_eq] at h1
      refine ev_ite (fun h0 => ?_) (fun h0 => absurd ⟨h1.1, h1.2, fun h => absurd h h0⟩ hc)
      refine ev_pos (by omega) (ev_pos (by omega) (ev_ite (fun h3 => ?_) (fun _ => Ev.now _)))
      simp only [decide_eq_true_eq] at h3
      exact absurd ⟨h1.1, h1.2, fun _ => h3⟩ hc
  · refine ev_tail ?_
    have w3 : wrap64 ((t.length : Int) + 1) = (t.length : Int) + 1 := wrap_id (by omega) (by omega)
    simp only [impl_IsFollower.l0, InRange_eq, Option.bind_some, w3]
    refine ev_neg (by omega) (ev_ite (fun h1 => ev_ite (fun h2 => ?_) (fun h2 => ?_)) (fun h1 => ?_))
    · simpa [h1, h2] using Ev.now _
    · simpa [h1, h2] using Ev.now _
    · simpa [h1] using Ev.now _

/-- 0 for two like numbers, else 1. -/
def unl1 (x p : Int) : Int := if x = p then 0 else 1
theorem unl1_le (x p : Int) : 0 ≤ unl1 x p ∧ unl1 x p ≤ 1 := by unfold unl1; split <;> omega
theorem unlike_eq (x p : Int) : impl_unlike.f x p = some (unl1 x p) := by
  unfold impl_unlike.f unl1
  by_cases h : x = p <;> simp [h]
theorem specMin_eq (a b : Int) : spec_Min.f a b = some (min a b) := by
  unfold spec_Min.f
  by_cases h : b < a
  · rw [if_pos h]; congr 1; omega
  · rw [if_neg h]; congr 1; omega

theorem l17Copy_eq (l : List Int) (x : Int) (h : l.length < 17592186044416) : spec_l17Copy.f l x = some (l, x) := by
  unfold spec_l17Copy.f
  simp [h]
theorem clone_eq (l : List Int) (h : l.length < 17592186044416) : impl_clone_int.f l = some l := by
  unfold impl_clone_int.f
  simp [h]

theorem rd_at (pre : List Int) (x : Int) (suf : List Int) {i : Int} (h : i = (pre.length : Int)) : rd (pre ++ x :: suf) i = x := by
  subst h; exact rd_mid pre x suf
theorem rd_at1 (pre : List Int) (d x : Int) (suf : List Int) {i : Int} (h : i = ((pre.length + 1 : Nat) : Int)) : rd (pre ++ d :: x :: suf) i = x := by
  rw [snoc_cons]; exact rd_at _ _ _ (by simp; omega)
theorem set_at1 (pre : List Int) (d x y : Int) (suf : List Int) {i : Int} (h : i = ((pre.length + 1 : Nat) : Int)) : (pre ++ d :: x :: suf).set i.toNat y = pre ++ d :: y :: suf := by
  subst h
  rw [snoc_cons]
  have e := set_mid (pre ++ [d]) x y suf
  rw [length_snoc] at e
  rw [e]; simp
def stepV (p x d o c : Int) : Int := min (min (c + 1) (o + 1)) (d + unl1 x p)
/-- The costs behind the first one, once a pitch is heard. -/
def folRow (p : Int) : List Int → Int → Int → List Int → List Int
  | x :: t, d, o, c :: cs => stepV p x d o c :: folRow p t c (stepV p x d o c) cs
  | _, _, _, _ => []
theorem folRow_length (p : Int) (t : List Int) : ∀ (d o : Int) (cs : List Int), cs.length = t.length → (folRow p t d o cs).length = cs.length := by
  induction t with
  | nil => intro d o cs h; cases cs with
    | nil => rfl
    | cons c cs => simp at h
  | cons x t ih =>
    intro d o cs h
    cases cs with
    | nil => simp at h
    | cons c cs => simp only [folRow, List.length_cons]; rw [ih _ _ _ (by simpa using h)]
def stepRow (t l : List Int) (x p : Int) : List Int × Int := match l with
  | [] => ([], x + 1)
  | c :: cs => ((c + 1) :: folRow p t c (c + 1) cs, x + 1)
def stepM (t l : List Int) (x p : Int) : List Int × Int := if folM t l x = true ∧ x ≤ 500 then stepRow t l x p else (l, x)
theorem folM_facts {t l : List Int} {x : Int} (h : folM t l x = true) : t.length ≤ 40 ∧ l.length = t.length + 1 ∧ 0 ≤ x ∧ x ≤ 1000 ∧ ∀ c ∈ l, 0 ≤ c ∧ c ≤ 1000 := by
  unfold folM at h
  rw [allF_iff] at h
  obtain ⟨h1, h2⟩ := h
  simp only [decide_eq_true_eq] at h1
  refine ⟨by omega, by omega, h1.2.2.1, h1.2.2.2, fun c hc => ?_⟩
  obtain ⟨j, hj, rfl⟩ := List.getElem_of_mem hc
  have h3 := h2 j (by omega) (by omega)
  simp only [folC, decide_eq_true_eq] at h3
  have e : rd l (j : Int) = l[j] := by rw [rd_nat, List.getD_eq_getElem?_getD, List.getElem?_eq_getElem hj, Option.getD_some]
  rw [e] at h3
  exact ⟨h3.1, h3.2.1⟩
theorem stepV_bound {p x d o c : Int} (hd : 0 ≤ d ∧ d ≤ 1001) (ho : 0 ≤ o ∧ o ≤ 1001) (hc : 0 ≤ c ∧ c ≤ 1000) : 0 ≤ stepV p x d o c ∧ stepV p x d o c ≤ 1001 := by
  have := unl1_le x p
  unfold stepV; omega
theorem implStep_l0 (p x h : Int) (ts : List Int) : ∀ (tp lp op cs : List Int) (d o : Int), tp.length = lp.length → op.length = lp.length → cs.length = ts.length → (tp ++ ts).length ≤ 40 → (0 ≤ d ∧ d ≤ 1000) → (0 ≤ o ∧ o ≤ 1001) → (∀ c ∈ cs, 0 ≤ c ∧ c ≤ 1000) →
    Ev (fun k => impl_StepFollower.l0 k p (tp ++ ts) ((tp ++ ts).length : Int) (tp.length : Int) (lp ++ d :: cs) x (op ++ o :: cs) h) (op ++ o :: folRow p ts d o cs, h) := by
  induction ts with
  | nil =>
    intro tp lp op cs d o h1 h2 h3 h4 _ _ _
    obtain rfl : cs = [] := List.length_eq_zero_iff.1 (by simpa using h3)
    refine ev_tail ?_
    simp only [impl_StepFollower.l0]
    exact ev_neg (by simp) (Ev.now _)
  | cons y t ih =>
    intro tp lp op cs d o h1 h2 h3 h4 hd ho hc
    cases cs with
    | nil => simp at h3
    | cons c cs =>
      have hcc := hc c (by simp)
      have hv := stepV_bound (p := p) (x := y) ⟨hd.1, by omega⟩ ho hcc
      have e := ih (tp ++ [y]) (lp ++ [d]) (op ++ [o]) cs c (stepV p y d o c) (by simp [h1]) (by simp [h2]) (by simpa using h3) (by simpa using h4) hcc hv (fun z hz => hc z (by simp [hz]))
      simp only [List.length_append, List.length_cons] at h4
      refine ev_tail ?_
      simp only [impl_StepFollower.l0]
      have w1 : Aside0 (wrap64 ((tp.length : Int) + 1) = ((tp.length + 1 : Nat) : Int)) := ⟨wrap_succ (by omega)⟩
      rw [w1.out]
      refine ev_pos (by simp; omega) (ev_pos (by omega) (ev_pos (by simp; omega) (ev_pos (by omega) (ev_pos (by simp; omega) (ev_pos (by simp; omega) (ev_pos (by simp; omega) (ev_val (unlike_eq _ _) (ev_pos (by simp; omega) ?_))))))))
      have r1 := rd_mid tp y t
      have r2 := rd_at1 lp d c cs (i := ((tp.length + 1 : Nat) : Int)) (by omega)
      have r3 := rd_at op o (c :: cs) (i := (tp.length : Int)) (by omega)
      have r4 := rd_at lp d (c :: cs) (i := (tp.length : Int)) (by omega)
      have u := unl1_le y p
      rw [r1, r2, r3, r4, set_at1 op o c _ cs (by omega)]
      have ev : mn (mn (wrap64 (c + 1)) (wrap64 (o + 1))) (wrap64 (d + unl1 y p)) = stepV p y d o c := by
        rw [wrap_id (by omega) (by omega), wrap_id (by omega) (by omega), wrap_id (by omega) (by omega), mn_eq, mn_eq]
        rfl
      rw [ev]
      simp only [folRow]
      have e2 := e
      simp only [List.append_assoc, List.singleton_append, length_snoc] at e2
      exact e2
theorem specStep_l0 (p x h : Int) (ts : List Int) : ∀ (tp lp op cs : List Int) (d o : Int), tp.length = lp.length → op.length = lp.length → cs.length = ts.length → (tp ++ ts).length ≤ 40 → (0 ≤ d ∧ d ≤ 1000) → (0 ≤ o ∧ o ≤ 1001) → (∀ c ∈ cs, 0 ≤ c ∧ c ≤ 1000) →
    Ev (fun k => spec_StepFollower.l0 k (tp ++ ts) p ((tp.length + 1 : Nat) : Int) (lp ++ d :: cs) x (op ++ o :: cs) h) (op ++ o :: folRow p ts d o cs, h) := by
  induction ts with
  | nil =>
    intro tp lp op cs d o h1 h2 h3 h4 _ _ _
    obtain rfl : cs = [] := List.length_eq_zero_iff.1 (by simpa using h3)
    refine ev_tail ?_
    simp only [spec_StepFollower.l0]
    exact ev_neg (by simp; omega) (Ev.now _)
  | cons y t ih =>
    intro tp lp op cs d o h1 h2 h3 h4 hd ho hc
    cases cs with
    | nil => simp at h3
    | cons c cs =>
      have hcc := hc c (by simp)
      have hv := stepV_bound (p := p) (x := y) ⟨hd.1, by omega⟩ ho hcc
      have e := ih (tp ++ [y]) (lp ++ [d]) (op ++ [o]) cs c (stepV p y d o c) (by simp [h1]) (by simp [h2]) (by simpa using h3) (by simpa using h4) hcc hv (fun z hz => hc z (by simp [hz]))
      simp only [List.length_append, List.length_cons] at h4
      refine ev_tail ?_
      simp only [spec_StepFollower.l0, specMin_eq, Option.bind_some]
      have w1 : Aside0 (wrap64 (((tp.length + 1 : Nat) : Int) - 1) = (tp.length : Int)) := ⟨by rw [wrap_pred (by omega) (by omega)]; simp⟩
      have w2 : Aside0 (wrap64 (((tp.length + 1 : Nat) : Int) + 1) = ((tp.length + 1 + 1 : Nat) : Int)) := ⟨wrap_succ (by omega)⟩
      rw [w1.out, w2.out]
      have r1 := rd_mid tp y t
      have r2 := rd_at1 lp d c cs (i := ((tp.length + 1 : Nat) : Int)) (by omega)
      have r3 := rd_at op o (c :: cs) (i := (tp.length : Int)) (by omega)
      have r4 := rd_at lp d (c :: cs) (i := (tp.length : Int)) (by omega)
      have hset : ∀ v, (op ++ o :: c :: cs).set (((tp.length + 1 : Nat) : Int)).toNat v = op ++ o :: v :: cs := fun v => set_at1 op o c v cs (by omega)
      refine ev_pos (by simp; omega) (ev_pos (by omega) (ev_pos (by simp; omega) (ev_pos (by simp; omega) ?_)))
      rw [r1, r2, r3, r4]
      simp only [hset]
      have fin : ∀ g : Nat → Option (List Int × Int), (∀ k, g k = spec_StepFollower.l0 k (tp ++ y :: t) p ((tp.length + 1 + 1 : Nat) : Int) (lp ++ d :: c :: cs) x (op ++ o :: stepV p y d o c :: cs) h) → Ev g (op ++ o :: folRow p (y :: t) d o (c :: cs), h) := by
        intro g hg
        have e' : Ev g ((op ++ [o]) ++ stepV p y d o c :: folRow p t c (stepV p y d o c) cs, h) := by
          have hg' : g = fun k => spec_StepFollower.l0 k ((tp ++ [y]) ++ t) p (((tp ++ [y]).length + 1 : Nat) : Int) ((lp ++ [d]) ++ c :: cs) x ((op ++ [o]) ++ stepV p y d o c :: cs) h := by
            funext k; rw [hg k]; simp
          rw [hg']; exact e
        refine ev_eq e' ?_
        simp [folRow]
      by_cases hy : y = p
      · refine ev_pos hy (ev_pos (by omega) (ev_pos (by simp; omega) (ev_pos (by simp; omega) ?_)))
        refine fin _ (fun k => ?_)
        have ev : min d (wrap64 (min c o + 1)) = stepV p y d o c := by
          rw [wrap_id (by omega) (by omega)]; unfold stepV unl1; rw [if_pos hy]; omega
        rw [ev]
      · refine ev_neg hy (ev_pos (by omega) (ev_pos (by simp; omega) (ev_pos (by simp; omega) ?_)))
        refine fin _ (fun k => ?_)
        have ev : min (wrap64 (d + 1)) (wrap64 (min c o + 1)) = stepV p y d o c := by
          rw [wrap_id (by omega) (by omega), wrap_id (by omega) (by omega)]; unfold stepV unl1; rw [if_neg hy]; omega
        rw [ev]
theorem stepRow_length {t l : List Int} {x p : Int} (h : l.length = t.length + 1) : (stepRow t l x p).1.length = l.length := by
  cases l with
  | nil => simp at h
  | cons c cs => simp only [stepRow, List.length_cons]; rw [folRow_length p t _ _ cs (by simpa using h)]
theorem stepM_length (t l : List Int) (x p : Int) : (stepM t l x p).1.length = l.length := by
  unfold stepM
  split
  · rename_i h; exact stepRow_length (folM_facts h.1).2.1
  · rfl
theorem specStep_j0 (t l : List Int) (x p : Int) (hf : folM t l x = true) (b : Bool) (hb : b = decide (x > 500)) : Ev (fun k => spec_StepFollower.j0 k t p b l x l x) (stepM t l x p) := by
  obtain ⟨h1, h2, h3, h4, h5⟩ := folM_facts hf
  refine ev_tail ?_
  simp only [spec_StepFollower.j0]
  by_cases h : x > 500
  · rw [stepM, if_neg (by omega)]
    exact ev_pos (by rw [hb]; simpa using h) (Ev.now _)
  · rw [stepM, if_pos ⟨hf, by omega⟩]
    refine ev_neg (by rw [hb]; simpa using h) ?_
    cases l with
    | nil => simp at h2
    | cons c cs =>
      have hc := h5 c (by simp)
      refine ev_pos (by simp only [List.length_cons]; omega) (ev_pos (by simp only [List.length_cons]; omega) ?_)
      have w1 : wrap64 (rd (c :: cs) 0 + 1) = c + 1 := by
        have : rd (c :: cs) 0 = c := rd_mid [] c cs
        rw [this, wrap_id (by omega) (by omega)]
      have w2 : wrap64 (x + 1) = x + 1 := wrap_id (by omega) (by omega)
      rw [w1, w2]
      exact specStep_l0 p x (x + 1) t [] [] [] cs c (c + 1) rfl rfl (by simpa using h2) (by simpa using h1) hc (by omega) (fun z hz => h5 z (by simp [hz]))
theorem implStep_j0 (t l : List Int) (x p : Int) (hf : folM t l x = true) (b : Bool) (hb : b = decide (x > 500)) : Ev (fun k => impl_StepFollower.j0 k t p b l x l x) (stepM t l x p) := by
  obtain ⟨h1, h2, h3, h4, h5⟩ := folM_facts hf
  refine ev_tail ?_
  simp only [impl_StepFollower.j0]
  by_cases h : x > 500
  · rw [stepM, if_neg (by omega)]
    exact ev_pos (by rw [hb]; simpa using h) (Ev.now _)
  · rw [stepM, if_pos ⟨hf, by omega⟩]
    refine ev_neg (by rw [hb]; simpa using h) ?_
    cases l with
    | nil => simp at h2
    | cons c cs =>
      have hc := h5 c (by simp)
      refine ev_pos (by simp only [List.length_cons]; omega) ?_
      have w1 : wrap64 (rd (c :: cs) 0 + 1) = c + 1 := by
        have : rd (c :: cs) 0 = c := rd_mid [] c cs
        rw [this, wrap_id (by omega) (by omega)]
      have w2 : wrap64 (x + 1) = x + 1 := wrap_id (by omega) (by omega)
      rw [w1, w2]
      exact implStep_l0 p x (x + 1) t [] [] [] cs c (c + 1) rfl rfl (by simpa using h2) (by simpa using h1) hc (by omega) (fun z hz => h5 z (by simp [hz]))
theorem specStepFollower_ev (t l : List Int) (x p : Int) (ht : t.length ≤ 1048576) (hl : l.length ≤ 1048577) : Ev (fun k => spec_StepFollower.f k t l x p) (stepM t l x p) := by
  simp only [spec_StepFollower.f, l17Copy_eq l x (by omega), Option.bind_some]
  refine Ev.bind (specIsFollower_ev t l x ht hl) ?_
  refine ev_ite (fun h => specStep_j0 t l x p h _ rfl) (fun h => ?_)
  refine ev_tail ?_
  simp only [spec_StepFollower.j0, if_true]
  rw [stepM, if_neg (fun z => h z.1)]
  exact Ev.now _
theorem implStepFollower_ev (t l : List Int) (x p : Int) (ht : t.length ≤ 1048576) (hl : l.length ≤ 1048577) : Ev (fun k => impl_StepFollower.f k t l x p) (stepM t l x p) := by
  simp only [impl_StepFollower.f, clone_eq l (by omega), Option.bind_some]
  refine Ev.bind (implIsFollower_ev t l x ht hl) ?_
  refine ev_ite (fun h => implStep_j0 t l x p h _ rfl) (fun h => ?_)
  refine ev_tail ?_
  simp only [impl_StepFollower.j0, if_true]
  rw [stepM, if_neg (fun z => h z.1)]
  exact Ev.now _

def cueC (l : List Int) (i : Int) : Bool := decide (0 ≤ rd l i ∧ rd l i ≤ 2000 ∧ (0 < i → rd l (i - 1) ≤ rd l i))
def cueM (t l : List Int) : Bool := allF (cueC l) (decide ((t.length : Int) ≤ 40) && ((l.length : Int) == (t.length : Int))) l.length 0
theorem specIsCue_ev (t l : List Int) (h : l.length ≤ 1048576) : Ev (fun k => spec_IsCue.f k t l) (cueM t l) := by
  simp only [spec_IsCue.f]
  refine ev_all (L := fun k i => spec_IsCue.l0 k i t l) (n := l.length) (fun i hi => ?_) ?_ l.length 0 (by omega)
  · have w1 : wrap64 ((i : Int) + 1) = (i : Int) + 1 := wrap_id (by omega) (by omega)
    have w2 : wrap64 ((i : Int) - 1) = (i : Int) - 1 := wrap_id (by omega) (by omega)
    constructor
    · intro hc r e
      simp only [cueC, decide_eq_true_eq] at hc
      obtain ⟨h1, h2, h5⟩ := hc
      refine ev_tail ?_
      simp only [spec_IsCue.l0, l1In_eq, Option.bind_some, w1, w2]
      refine ev_pos (by omega) (ev_pos (by omega) (ev_pos (by simpa using ⟨h1, h2⟩) ?_))
      refine ev_ite (fun h0 => ?_) (fun _ => e)
      have := h5 h0
      exact ev_pos (by omega) (ev_pos (by omega) (ev_neg (by omega) e))
    · intro hc
      simp only [cueC, decide_eq_false_iff_not] at hc
      refine ev_tail ?_
      simp only [spec_IsCue.l0, l1In_eq, Option.bind_some, w1, w2]
      refine ev_pos (by omega) (ev_pos (by omega) (ev_ite (fun h1 => ?_) (fun _ => Ev.now _)))
      simp only [decide_eq_true_eq] at h1
      refine ev_ite (fun h0 => ?_) (fun h0 => absurd ⟨h1.1, h1.2, fun h => absurd h h0⟩ hc)
      refine ev_pos (by omega) (ev_pos (by omega) (ev_ite (fun _ => Ev.now _) (fun h3 => ?_)))
      exact absurd ⟨h1.1, h1.2, fun _ => by omega⟩ hc
  · refine ev_tail ?_
    simp only [spec_IsCue.l0]
    refine ev_neg (by omega) (ev_ite (fun h => ?_) (fun h => ?_))
    · simpa [h] using Ev.now _
    · simpa [h] using Ev.now _
theorem implIsCue_ev (t l : List Int) (h : l.length ≤ 1048576) : Ev (fun k => impl_IsCue.f k t l) (cueM t l) := by
  simp only [impl_IsCue.f]
  refine ev_all (L := fun k i => impl_IsCue.l0 k l (l.length : Int) i t l) (n := l.length) (fun i hi => ?_) ?_ l.length 0 (by omega)
  · have w1 : wrap64 ((i : Int) + 1) = (i : Int) + 1 := wrap_id (by omega) (by omega)
    have w2 : wrap64 ((i : Int) - 1) = (i : Int) - 1 := wrap_id (by omega) (by omega)
    constructor
    · intro hc r e
      simp only [cueC, decide_eq_true_eq] at hc
      obtain ⟨h1, h2, h5⟩ := hc
      refine ev_tail ?_
      simp only [impl_IsCue.l0, InRange_eq, Option.bind_some, w1, w2]
      refine ev_pos (by omega) (ev_pos (by omega) (ev_pos (by omega) (ev_pos (by simpa using ⟨h1, h2⟩) ?_)))
      refine ev_ite (fun h0 => ?_) (fun _ => e)
      have := h5 h0
      exact ev_pos (by omega) (ev_pos (by omega) (ev_neg (by omega) e))
    · intro hc
      simp only [cueC, decide_eq_false_iff_not] at hc
      refine ev_tail ?_
      simp only [impl_IsCue.l0, InRange_eq, Option.bind_some, w1, w2]
      refine ev_pos (by omega) (ev_pos (by omega) (ev_pos (by omega) (ev_ite (fun h1 => ?_) (fun _ => Ev.now _))))
      simp only [decide_eq_true_eq] at h1
      refine ev_ite (fun h0 => ?_) (fun h0 => absurd ⟨h1.1, h1.2, fun h => absurd h h0⟩ hc)
      refine ev_pos (by omega) (ev_pos (by omega) (ev_ite (fun _ => Ev.now _) (fun h3 => ?_)))
      exact absurd ⟨h1.1, h1.2, fun _ => by omega⟩ hc
  · refine ev_tail ?_
    simp only [impl_IsCue.l0]
    refine ev_neg (by omega) (ev_ite (fun h => ?_) (fun h => ?_))
    · simpa [h] using Ev.now _
    · simpa [h] using Ev.now _

/-- The first and the last place of a cost that is small enough. -/
def sbGo (e : Int) : List Int → Int → Int × Int → Int × Int
  | [], _, s => s
  | c :: t, i, s => if c ≤ e then sbGo e t (i + 1) (if s.1 < 0 then i else s.1, i) else sbGo e t (i + 1) s
theorem specSurely_l0 (e x : Int) (suf : List Int) : ∀ (pre : List Int) (a b : Int), (pre ++ suf).length ≤ 35184372088832 → Ev (fun k => spec_SurelyBetween.l0 k e a b (pre.length : Int) (pre ++ suf) x) (sbGo e suf (pre.length : Int) (a, b)) := by
  induction suf with
  | nil =>
    intro pre a b h
    refine ev_tail ?_
    simp only [spec_SurelyBetween.l0]
    exact ev_neg (by simp) (Ev.now _)
  | cons y t ih =>
    intro pre a b h
    have e1 := fun a' b' => ih (pre ++ [y]) a' b' (by simpa using h)
    simp only [List.length_append, List.length_cons] at h
    refine ev_tail ?_
    simp only [spec_SurelyBetween.l0, sbGo]
    refine ev_pos (by simp; omega) (ev_pos (by omega) ?_)
    rw [rd_mid, wrap_succ (by omega), snoc_cons pre y t, ← length_snoc pre y]
    refine ev_ite (fun hy => ?_) (fun hy => ?_)
    · rw [if_pos hy]
      refine ev_ite (fun h0 => ?_) (fun h0 => ?_)
      · rw [if_pos h0]; simpa using e1 _ _
      · rw [if_neg h0]; simpa using e1 _ _
    · rw [if_neg hy]; simpa using e1 _ _
theorem implSurely_l0 (e : Int) (suf : List Int) : ∀ (pre : List Int) (a b : Int), (pre ++ suf).length ≤ 35184372088832 → Ev (fun k => impl_SurelyBetween.l0 k e a b (pre ++ suf) ((pre ++ suf).length : Int) (pre.length : Int)) (sbGo e suf (pre.length : Int) (a, b)) := by
  induction suf with
  | nil =>
    intro pre a b h
    refine ev_tail ?_
    simp only [impl_SurelyBetween.l0]
    exact ev_neg (by simp) (Ev.now _)
  | cons y t ih =>
    intro pre a b h
    have e1 := fun a' b' => ih (pre ++ [y]) a' b' (by simpa using h)
    simp only [List.length_append, List.length_cons] at h
    refine ev_tail ?_
    simp only [impl_SurelyBetween.l0, sbGo]
    refine ev_pos (by simp; omega) (ev_pos (by omega) (ev_pos (by simp; omega) ?_))
    rw [rd_mid, wrap_succ (by omega), snoc_cons pre y t, ← length_snoc pre y]
    refine ev_ite (fun hy => ?_) (fun hy => ?_)
    · rw [if_pos hy]
      refine ev_ite (fun h0 => ?_) (fun h0 => ?_)
      · rw [if_pos h0]; simpa using e1 _ _
      · rw [if_neg h0]; simpa using e1 _ _
    · rw [if_neg hy]; simpa using e1 _ _
def surelyM (l : List Int) (e : Int) : Int × Int := sbGo e l 0 (-1, -1)
theorem specSurely_ev (l : List Int) (x e : Int) (h : l.length ≤ 35184372088832) : Ev (fun k => spec_SurelyBetween.f k l x e) (surelyM l e) := by
  simp only [spec_SurelyBetween.f]
  exact specSurely_l0 e x l [] _ _ (by simpa using h)
theorem implSurely_ev (l : List Int) (x e : Int) (h : l.length ≤ 35184372088832) : Ev (fun k => impl_SurelyBetween.f k l x e) (surelyM l e) := by
  simp only [impl_SurelyBetween.f]
  exact implSurely_l0 e l [] _ _ (by simpa using h)

theorem sbGo_bd (e : Int) (suf : List Int) : ∀ (i : Int) (s : Int × Int), s.1 < i → (sbGo e suf i s).1 < i + suf.length := by
  induction suf with
  | nil => intro i s h; simpa [sbGo] using h
  | cons c t ih =>
    intro i s h
    simp only [sbGo]
    have h1 := ih (i + 1)
    simp only [List.length_cons]
    split
    · have := h1 (if s.1 < 0 then i else s.1, i) (by
        show (if s.1 < 0 then i else s.1) < i + 1
        split <;> omega)
      omega
    · have := h1 s (by omega)
      omega
theorem cueM_facts {t l : List Int} (h : cueM t l = true) : t.length ≤ 40 ∧ l.length = t.length ∧ ∀ j : Nat, j < l.length → cueC l (j : Int) = true := by
  unfold cueM at h
  rw [allF_iff] at h
  obtain ⟨h1, h2⟩ := h
  simp only [Bool.and_eq_true, decide_eq_true_eq, beq_iff_eq] at h1
  exact ⟨by omega, by omega, fun j hj => h2 j (by omega) (by omega)⟩
theorem folM_facts2 {t l : List Int} {x : Int} (h : folM t l x = true) : t.length ≤ 40 ∧ l.length = t.length + 1 ∧ 0 ≤ x ∧ x ≤ 1000 ∧ ∀ j : Nat, j < l.length → folC l (j : Int) = true := by
  unfold folM at h
  rw [allF_iff] at h
  obtain ⟨h1, h2⟩ := h
  simp only [decide_eq_true_eq] at h1
  exact ⟨by omega, by omega, by omega, by omega, fun j hj => h2 j (by omega) (by omega)⟩
def sureM (t l c : List Int) (x e : Int) : Int :=
  if cueM t l = true ∧ folM t c x = true ∧ 1 ≤ (surelyM c e).1 then rd l ((surelyM c e).1 - 1) else -1
theorem sure_idx {t l c : List Int} {x e : Int} (h1 : cueM t l = true) (h2 : folM t c x = true) : (surelyM c e).1 < (l.length : Int) + 1 := by
  obtain ⟨_, a, _⟩ := cueM_facts h1
  obtain ⟨_, b, _⟩ := folM_facts2 h2
  have := sbGo_bd e c 0 (-1, -1) (by show (-1 : Int) < 0; omega)
  unfold surelyM
  omega
theorem specSure_j0 (t l c : List Int) (x e : Int) (y : Bool) (h : y = true) : Ev (fun k => spec_SureTick.j0 k e y t l c x) (-1) := by
  subst h
  refine ev_tail ?_
  simp only [spec_SureTick.j0]
  exact ev_pos (by trivial) (Ev.now _)
theorem specSureTick_ev (t l c : List Int) (x e : Int) (ht : t.length ≤ 1048576) (hl : l.length ≤ 1048576) (hc : c.length ≤ 1048576) : Ev (fun k => spec_SureTick.f k t l c x e) (sureM t l c x e) := by
  simp only [spec_SureTick.f, sureM]
  refine Ev.bind (specIsCue_ev t l hl) (ev_ite (fun h1 => Ev.bind (specIsFollower_ev t c x ht (by omega)) ?_) (fun h1 => ?_))
  · by_cases h2 : folM t c x = true
    · have hi := sure_idx (e := e) h1 h2
      refine ev_tail ?_
      simp only [spec_SureTick.j0]
      refine ev_neg (by rw [h2]; simp) (Ev.bind (specSurely_ev c x e (by omega)) (ev_ite (fun h3 => ?_) (fun h3 => ?_)))
      · rw [if_neg (fun z => by omega)]; exact Ev.now _
      · have hh : cueM t l = true ∧ folM t c x = true ∧ 1 ≤ (surelyM c e).1 := ⟨h1, h2, by omega⟩
        rw [if_pos hh]
        have w1 : Aside0 (wrap64 ((surelyM c e).1 - 1) = (surelyM c e).1 - 1) := ⟨wrap_id (by omega) (by omega)⟩
        simp only [w1.out]
        exact ev_pos (by omega) (ev_pos (by omega) (Ev.now _))
    · rw [if_neg (fun z => h2 z.2.1)]
      exact specSure_j0 t l c x e _ (by rw [Bool.eq_false_iff.mpr h2]; rfl)
  · rw [if_neg (fun z => h1 z.1)]
    exact specSure_j0 t l c x e _ rfl
theorem implSureTick_ev (t l c : List Int) (x e : Int) (ht : t.length ≤ 1048576) (hl : l.length ≤ 1048576) (hc : c.length ≤ 1048576) : Ev (fun k => impl_SureTick.f k t l c x e) (sureM t l c x e) := by
  simp only [impl_SureTick.f, sureM]
  refine Ev.bind (implSurely_ev c x e (by omega)) (ev_ite (fun h3 => ?_) (fun h3 => Ev.bind (implIsCue_ev t l hl) (ev_ite (fun h1 => Ev.bind (implIsFollower_ev t c x ht (by omega)) (ev_ite (fun h2 => ?_) (fun h2 => ?_))) (fun h1 => ?_))))
  · rw [if_neg (fun z => by omega)]; exact Ev.now _
  · have hi := sure_idx (e := e) h1 h2
    have hh : cueM t l = true ∧ folM t c x = true ∧ 1 ≤ (surelyM c e).1 := ⟨h1, h2, by omega⟩
    rw [if_pos hh]
    have w1 : Aside0 (wrap64 ((surelyM c e).1 - 1) = (surelyM c e).1 - 1) := ⟨wrap_id (by omega) (by omega)⟩
    simp only [w1.out]
    exact ev_pos (by omega) (ev_pos (by omega) (Ev.now _))
  · rw [if_neg (fun z => h2 z.2.1)]; exact Ev.now _
  · rw [if_neg (fun z => h1 z.1)]; exact Ev.now _

theorem specMax_eq (a b : Int) : spec_Max.f a b = some (max a b) := by
  unfold spec_Max.f
  by_cases h : b > a
  · rw [if_pos h]; congr 1; omega
  · rw [if_neg h]; congr 1; omega
def playGo (t c : List Int) (e : Int) : List Int → Int → List Int × Int → Int
  | [], s, _ => s
  | p :: ps, s, f => playGo t c e ps (max s (sureM t c (stepM t f.1 f.2 p).1 (stepM t f.1 f.2 p).2 e)) (stepM t f.1 f.2 p)
def playM (l : List S81) (v : Int) (ps : List Int) (e : Int) : List S81 × Bool :=
  if (cueFM l v).2.2 = true ∧ (startM (cueFM l v).1).2.2 = true then (dueM l v (-1) (playGo (cueFM l v).1 (cueFM l v).2.1 e ps (-1) ((startM (cueFM l v).1).1, (startM (cueFM l v).1).2.1)), true) else ([], false)
theorem specPlay_l0 (l : List S81) (hl : l.length ≤ 1048576) (v e : Int) (t c : List Int) (ht : t.length ≤ 1048576) (hc : c.length ≤ 1048576) (suf : List Int) : ∀ (pre : List Int) (s : Int) (f : List Int × Int), (pre ++ suf).length ≤ 1048576 → f.1.length ≤ 41 →
    Ev (fun k => spec_PlayAlong.l0 k l v (pre ++ suf) e s (pre.length : Int) t c f.1 f.2) (dueM l v (-1) (playGo t c e suf s f), true) := by
  induction suf with
  | nil =>
    intro pre s f h hf
    refine ev_tail ?_
    simp only [spec_PlayAlong.l0, playGo]
    exact ev_neg (by simp) (Ev.bind (specDueEvents_ev l v (-1) s hl) (Ev.now _))
  | cons p ps ih =>
    intro pre s f h hf
    have hs := stepM_length t f.1 f.2 p
    have e1 := ih (pre ++ [p]) (max s (sureM t c (stepM t f.1 f.2 p).1 (stepM t f.1 f.2 p).2 e)) (stepM t f.1 f.2 p) (by simpa using h) (by omega)
    simp only [List.length_append, List.length_cons] at h
    refine ev_tail ?_
    simp only [spec_PlayAlong.l0, playGo]
    refine ev_pos (by simp; omega) (ev_pos (by omega) ?_)
    rw [rd_mid, wrap_succ (by omega), snoc_cons pre p ps, ← length_snoc pre p]
    exact Ev.bind (specStepFollower_ev t f.1 f.2 p ht (by omega)) (Ev.bind (specSureTick_ev t c _ _ e ht hc (by omega)) (ev_val (specMax_eq _ _) e1))
theorem implPlay_l0 (l : List S81) (hl : l.length ≤ 1048576) (v e : Int) (t c : List Int) (ht : t.length ≤ 1048576) (hc : c.length ≤ 1048576) (suf : List Int) : ∀ (pre : List Int) (s : Int) (f : List Int × Int), (pre ++ suf).length ≤ 1048576 → f.1.length ≤ 41 →
    Ev (fun k => impl_PlayAlong.l0 k l v e s (pre ++ suf) ((pre ++ suf).length : Int) (pre.length : Int) t c f.1 f.2) (dueM l v (-1) (playGo t c e suf s f), true) := by
  induction suf with
  | nil =>
    intro pre s f h hf
    refine ev_tail ?_
    simp only [impl_PlayAlong.l0, playGo]
    exact ev_neg (by simp) (Ev.bind (implDueEvents_ev l v (-1) s hl) (Ev.now _))
  | cons p ps ih =>
    intro pre s f h hf
    have hs := stepM_length t f.1 f.2 p
    have e1 := ih (pre ++ [p]) (max s (sureM t c (stepM t f.1 f.2 p).1 (stepM t f.1 f.2 p).2 e)) (stepM t f.1 f.2 p) (by simpa using h) (by omega)
    simp only [List.length_append, List.length_cons] at h
    refine ev_tail ?_
    simp only [impl_PlayAlong.l0, playGo]
    refine ev_pos (by simp; omega) (ev_pos (by omega) (ev_pos (by simp; omega) ?_))
    rw [rd_mid, wrap_succ (by omega), snoc_cons pre p ps, ← length_snoc pre p]
    refine Ev.bind (implStepFollower_ev t f.1 f.2 p ht (by omega)) (Ev.bind (implSureTick_ev t c _ _ e ht hc (by omega)) ?_)
    rw [mx_eq]
    exact e1
theorem specPlayAlong_ev (l : List S81) (v : Int) (ps : List Int) (e : Int) (hl : l.length ≤ 1048576) (hp : ps.length ≤ 1048576) : Ev (fun k => spec_PlayAlong.f k l v ps e) (playM l v ps e) := by
  obtain ⟨h1, h2⟩ := cueFM_length l v
  have h3 := startM_length (cueFM l v).1
  simp only [spec_PlayAlong.f, playM]
  refine Ev.bind (specCueFrom_ev l v hl) (Ev.bind (specStartFollower_ev _) (ev_ite (fun a => ev_tail ?_) (fun a => ev_tail ?_)))
  · simp only [spec_PlayAlong.j0]
    refine ev_ite (fun b => ?_) (fun b => ?_)
    · rw [if_neg (fun z => by simp only [Bool.not_eq_true'] at b; rw [b] at z; exact absurd z.2 (by simp))]; exact Ev.now _
    · rw [if_pos ⟨a, by simpa using b⟩]
      exact specPlay_l0 l hl v e _ _ (by omega) (by omega) ps [] (-1) ((startM (cueFM l v).1).1, (startM (cueFM l v).1).2.1) (by simpa using hp) (by show (startM (cueFM l v).1).1.length ≤ 41; omega)
  · simp only [spec_PlayAlong.j0]
    rw [if_neg (fun z => a z.1)]
    exact ev_pos (by trivial) (Ev.now _)
theorem implPlayAlong_ev (l : List S81) (v : Int) (ps : List Int) (e : Int) (hl : l.length ≤ 1048576) (hp : ps.length ≤ 1048576) : Ev (fun k => impl_PlayAlong.f k l v ps e) (playM l v ps e) := by
  obtain ⟨h1, h2⟩ := cueFM_length l v
  have h3 := startM_length (cueFM l v).1
  simp only [impl_PlayAlong.f, playM]
  refine Ev.bind (implCueFrom_ev l v hl) (Ev.bind (implStartFollower_ev _) (ev_ite (fun a => ev_tail ?_) (fun a => ev_tail ?_)))
  · simp only [impl_PlayAlong.j0]
    refine ev_ite (fun b => ?_) (fun b => ?_)
    · rw [if_neg (fun z => by simp only [Bool.not_eq_true'] at b; rw [b] at z; exact absurd z.2 (by simp))]; exact Ev.now _
    · rw [if_pos ⟨a, by simpa using b⟩]
      exact implPlay_l0 l hl v e _ _ (by omega) (by omega) ps [] (-1) ((startM (cueFM l v).1).1, (startM (cueFM l v).1).2.1) (by simpa using hp) (by show (startM (cueFM l v).1).1.length ≤ 41; omega)
  · simp only [impl_PlayAlong.j0]
    rw [if_neg (fun z => a z.1)]
    exact ev_pos (by trivial) (Ev.now _)

theorem playM_length (l : List S81) (v : Int) (ps : List Int) (e : Int) : (playM l v ps e).1.length ≤ l.length := by
  unfold playM
  split
  · have := colM_len (dueG l v (-1) (playGo (cueFM l v).1 (cueFM l v).2.1 e ps (-1) ((startM (cueFM l v).1).1, (startM (cueFM l v).1).2.1))) l.length 0
    unfold dueM
    split
    · exact this
    · simp
  · simp
theorem FnExactPlayAlong : ∀ (l0 : List (S83)) (a1 : Int) (l2 : List (Int)) (a3 : Int), (l0.length ≤ maxLen) → (∀ x ∈ l0, ((Lit.int .i64 x.f0).wf = true) ∧ ((Lit.int .i64 x.f1).wf = true) ∧ ((Lit.int .i64 x.f2).wf = true) ∧ ((Lit.int .i64 x.f3).wf = true)) → (Lit.int .i64 a1).wf = true → (l2.length ≤ maxLen) → (∀ x ∈ l2, (Lit.int .i64 x).wf = true) → (Lit.int .i64 a3).wf = true → ∃ k, laws_FnExactPlayAlong.f k l0 a1 l2 a3 = some true := by
  intro l v ps e hl _ _ _ _ _
  refine Ev.rounds ?_
  simp only [laws_FnExactPlayAlong.f]
  refine ev_ite (fun _ => Ev.now _) (fun hp => ?_)
  obtain ⟨r, hr, hb⟩ := szEventS_some l hl
  refine ev_val hr (ev_ite (fun _ => Ev.now _) (fun h => ?_))
  have hn := hb h
  have hm : (l.map cvEvent).length ≤ 1048576 := by rw [List.length_map]; exact hn
  have hp' : ps.length ≤ 1048576 := by omega
  have hq := playM_length (l.map cvEvent) v ps e
  have tp := toIntS_ev ps (by omega)
  have t1 := toEventS_ev l hn
  have e1 := eqEventS_ev (playM (l.map cvEvent) v ps e).1 (by omega)
  have i1 := implPlayAlong_ev (l.map cvEvent) v ps e hm hp'
  have m1 := markEventS_ev (playM (l.map cvEvent) v ps e).1 1 (by omega) (by omega) (by omega)
  have d1 := heldEventS_ev (playM (l.map cvEvent) v ps e).1.length 1 (by omega) (by omega) (by omega)
  refine Ev.bind t1 (Ev.bind tp (Ev.bind (specPlayAlong_ev _ v ps e hm hp') (Ev.bind t1 (Ev.bind tp (Ev.bind i1 (Ev.bind e1 (ev_pos (by trivial) (ev_tail ?_))))))))
  simp only [laws_FnExactPlayAlong.j0, bne_self_eq_false]
  refine ev_neg (by simp) (Ev.bind t1 (Ev.bind (eqEventS_ev _ hm) (ev_pos (by trivial) (Ev.bind tp (Ev.bind (eqIntS_ev ps (by omega)) (ev_pos (by trivial) ?_))))))
  refine Ev.bind (markEventS_ev _ 1 (by omega) (by omega) (by omega)) (Ev.bind (markIntS_ev ps _ (by omega) (by omega) (by omega)) (ev_neg (by simp; omega) (Ev.bind e1 (ev_pos (by trivial) (ev_tail ?_)))))
  simp only [laws_FnExactPlayAlong.j1]
  refine ev_neg (by simp) (Ev.bind m1 (Ev.bind d1 (ev_neg (by omega) (ev_pos rfl ?_))))
  refine Ev.bind t1 (Ev.bind tp (Ev.bind i1 (Ev.bind e1 (ev_pos (by trivial) (ev_tail ?_)))))
  simp only [laws_FnExactPlayAlong.j2, bne_self_eq_false]
  exact ev_neg (by simp) (Ev.bind d1 (ev_neg (by omega) (ev_pos rfl (Ev.now _))))
end Go.Proofs.Ytlkcbmcbmanmiaa.Pure
