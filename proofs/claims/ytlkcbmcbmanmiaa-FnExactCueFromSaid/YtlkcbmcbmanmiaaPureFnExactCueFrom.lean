/-
CueFrom of the program and of the reference: the same answer.
Conditions: none.
-/
import Derived.Test.YtlkcbmcbmanmiaaPFnExactCueFromx10
import Derived.Test.YtlkcbmcbmanmiaaBase
namespace Go.Proofs.Ytlkcbmcbmanmiaa.Pure
open Go.RowKit Go.Proofs.Ytlkcbmcbmanmiaa.PFnExactCueFrom Go.Proofs.YtlkcbmcbmanmiaaW.PrintWords Go.Proofs.YtlkcbmcbmanmiaaW.PrintLast Go.Proofs.YtlkcbmcbmanmiaaW.PrintMore Go.Proofs.Ytlkcbmcbmanmiaa.Base
set_option linter.unusedVariables false
set_option linter.unusedSimpArgs false

theorem l1In_eq (a b c : Int) : spec_l1In.f a b c = some (decide (b ≤ a ∧ a ≤ c)) := by
  unfold spec_l1In.f
  by_cases h1 : b ≤ a <;> by_cases h2 : a ≤ c <;> simp [h1, h2]
theorem InRange_eq (a b c : Int) : impl_InRange.f a b c = some (decide (b ≤ a ∧ a ≤ c)) := by
  unfold impl_InRange.f
  by_cases h1 : b ≤ a <;> by_cases h2 : a ≤ c <;> simp [h1, h2]

theorem eqIntS_l0 (suf : List Int) : ∀ pre : List Int, (pre ++ suf).length ≤ 35184372088832 → Ev (fun k => laws_eqIntS.l0 k (pre ++ suf) (pre ++ suf) (pre.length : Int)) true := by
  induction suf with
  | nil =>
    intro pre h
    refine ev_tail ?_
    simp only [laws_eqIntS.l0]
    exact ev_neg (by simp) (Ev.now true)
  | cons x t ih =>
    intro pre h
    have e := ih (pre ++ [x]) (by simpa using h)
    simp only [List.length_append, List.length_cons] at h
    refine ev_tail ?_
    simp only [laws_eqIntS.l0]
    refine ev_pos (by simp; omega) (ev_pos (by omega) (ev_pos (by simp; omega) (ev_pos (by trivial) ?_)))
    rw [wrap_succ (by omega), snoc_cons pre x t, ← length_snoc pre x]
    exact e
theorem eqIntS_ev (l : List Int) (h : l.length ≤ 35184372088832) : Ev (fun k => laws_eqIntS.f k l l) true := by
  simp only [laws_eqIntS.f]
  refine ev_pos (by trivial) ?_
  exact eqIntS_l0 l [] (by simpa using h)

theorem markIntS_l0 (suf : List Int) : ∀ (pre : List Int) (m : Int), (pre ++ suf).length ≤ 35184372088832 → 0 ≤ m → m + suf.length ≤ 9223372036854775807 → Ev (fun k => laws_markIntS.l0 k (pre ++ suf) m (pre.length : Int)) (m + suf.length, pre ++ marks suf.length m) := by
  induction suf with
  | nil =>
    intro pre m h h0 h1
    refine ev_tail ?_
    simp only [laws_markIntS.l0]
    refine ev_neg (by simp) ?_
    simpa [marks] using Ev.now _
  | cons y t ih =>
    intro pre m h h0 h1
    simp only [List.length_cons] at h1
    have e := ih (pre ++ [m]) (m + 1) (by simpa using h) (by omega) (by omega)
    simp only [List.length_append, List.length_cons] at h
    refine ev_tail ?_
    simp only [laws_markIntS.l0]
    refine ev_pos (by simp; omega) (ev_pos (by omega) ?_)
    rw [set_mid, wrap_succ (by omega), wrap_id (n := m + 1) (by omega) (by omega), snoc_cons pre m t, ← length_snoc pre m]
    refine ev_eq e ?_
    simp only [marks, List.length_cons, List.append_assoc, List.singleton_append]
    congr 1
    omega
theorem markIntS_ev (l : List Int) (m : Int) (h : l.length ≤ 35184372088832) (h0 : 0 ≤ m) (h1 : m + l.length ≤ 9223372036854775807) : Ev (fun k => laws_markIntS.f k l m) (m + l.length, marks l.length m) := by
  simp only [laws_markIntS.f]
  exact markIntS_l0 l [] m (by simpa using h) h0 h1

theorem heldIntS_l0 (n : Nat) : ∀ (pre : List Int) (m : Int), pre.length + n ≤ 35184372088832 → 0 ≤ m → m + n ≤ 9223372036854775807 → Ev (fun k => laws_heldIntS.l0 k (pre ++ marks n m) m (pre.length : Int)) (m + n) := by
  induction n with
  | zero =>
    intro pre m h h0 h1
    refine ev_tail ?_
    simp only [laws_heldIntS.l0]
    refine ev_neg (by simp [marks]) ?_
    simpa using Ev.now m
  | succ n ih =>
    intro pre m h h0 h1
    have e := ih (pre ++ [m]) (m + 1) (by simp; omega) (by omega) (by omega)
    refine ev_tail ?_
    simp only [laws_heldIntS.l0, marks]
    refine ev_pos (by simp [marks_length]; omega) (ev_pos (by omega) (ev_pos (rd_mid pre m _) ?_))
    rw [wrap_succ (by omega), wrap_id (n := m + 1) (by omega) (by omega), snoc_cons pre m (marks n (m + 1)), ← length_snoc pre m]
    exact ev_eq e (by omega)
theorem heldIntS_ev (n : Nat) (m : Int) (h : n ≤ 35184372088832) (h0 : 0 ≤ m) (h1 : m + n ≤ 9223372036854775807) : Ev (fun k => laws_heldIntS.f k (marks n m) m) (m + n) := by
  simp only [laws_heldIntS.f]
  exact heldIntS_l0 n [] m (by simpa using h) h0 h1

def cvEvent (x : S83) : S81 := ⟨x.f0, x.f1, x.f2, x.f3⟩
theorem rdLEvent (pre : List S83) (x : S83) (t : List S83) : rd_T83 (pre ++ x :: t) ((pre.length : Nat) : Int) = x := getD_mid pre x t z83
theorem rdIEvent (pre : List S81) (x : S81) (t : List S81) : rd_T81 (pre ++ x :: t) ((pre.length : Nat) : Int) = x := getD_mid pre x t z81
theorem toEventS_l0 (suf : List S83) : ∀ pre : List S83, (pre ++ suf).length ≤ 1048576 → Ev (fun k => laws_toEventS.l0 k (pre ++ suf) (pre.map cvEvent ++ List.replicate suf.length z81) (pre.length : Int)) ((pre ++ suf).map cvEvent) := by
  induction suf with
  | nil =>
    intro pre h
    refine ev_tail ?_
    simp only [laws_toEventS.l0]
    refine ev_neg (by simp) ?_
    exact ev_eq (Ev.now _) (by simp)
  | cons x t ih =>
    intro pre h
    have e := ih (pre ++ [x]) (by simpa using h)
    simp only [List.length_append, List.length_cons] at h
    refine ev_tail ?_
    simp only [laws_toEventS.l0, laws_toEvent.f, Option.bind_some]
    refine ev_pos (by simp; omega) (ev_pos (by omega) (ev_pos (by simp; omega) ?_))
    rw [rdLEvent, List.length_cons, List.replicate_succ]
    have e1 : (pre.map cvEvent ++ z81 :: List.replicate t.length z81).set ((pre.length : Nat) : Int).toNat (⟨x.f0, x.f1, x.f2, x.f3⟩ : S81) = (pre ++ [x]).map cvEvent ++ List.replicate t.length z81 := by
      simp [cvEvent]
    rw [e1, wrap_succ (by omega), snoc_cons pre x t, ← length_snoc pre x]
    exact e
theorem toEventS_ev (l : List S83) (h : l.length ≤ 1048576) : Ev (fun k => laws_toEventS.f k l) (l.map cvEvent) := by
  simp only [laws_toEventS.f]
  refine ev_pos (by omega) (ev_pos (by omega) ?_)
  exact toEventS_l0 l [] (by simpa using h)

theorem eqEventS_l0 (suf : List S81) : ∀ pre : List S81, (pre ++ suf).length ≤ 1048576 → Ev (fun k => laws_eqEventS.l0 k (pre ++ suf) (pre ++ suf) (pre.length : Int)) true := by
  induction suf with
  | nil =>
    intro pre h
    refine ev_tail ?_
    simp only [laws_eqEventS.l0]
    exact ev_neg (by simp) (Ev.now true)
  | cons x t ih =>
    intro pre h
    have e := ih (pre ++ [x]) (by simpa using h)
    simp only [List.length_append, List.length_cons] at h
    refine ev_tail ?_
    simp only [laws_eqEventS.l0, laws_eqEvent.f, if_true, Option.bind_some]
    refine ev_pos (by simp; omega) (ev_pos (by omega) (ev_pos (by simp; omega) ?_))
    rw [wrap_succ (by omega), snoc_cons pre x t, ← length_snoc pre x]
    exact e
theorem eqEventS_ev (l : List S81) (h : l.length ≤ 1048576) : Ev (fun k => laws_eqEventS.f k l l) true := by
  simp only [laws_eqEventS.f]
  refine ev_pos (by trivial) ?_
  exact eqEventS_l0 l [] (by simpa using h)

def marksEvent : Nat → Int → List S81
  | 0, _ => []
  | n + 1, m => ⟨m, m + 1, m + 1 + 1, m + 1 + 1 + 1⟩ :: marksEvent n (m + 1 + 1 + 1 + 1)
theorem marksEvent_length (n : Nat) : ∀ m, (marksEvent n m).length = n := by
  induction n with
  | zero => intro m; rfl
  | succ n ih => intro m; simp [marksEvent, ih]
theorem markEventS_l0 (suf : List S81) : ∀ (pre : List S81) (m : Int), (pre ++ suf).length ≤ 8388608 → 0 ≤ m → m ≤ 1099511627776 - 4 * suf.length → Ev (fun k => laws_markEventS.l0 k (pre ++ suf) m (pre.length : Int)) (m + 4 * suf.length, pre ++ marksEvent suf.length m) := by
  induction suf with
  | nil =>
    intro pre m h h0 h1
    refine ev_tail ?_
    simp only [laws_markEventS.l0]
    refine ev_neg (by simp) (ev_eq (Ev.now _) (by simp [marksEvent]))
  | cons y t ih =>
    intro pre m h h0 h1
    simp only [List.length_cons] at h1
    have e := ih (pre ++ [⟨m, m + 1, m + 1 + 1, m + 1 + 1 + 1⟩]) (m + 1 + 1 + 1 + 1) (by simpa using h) (by omega) (by omega)
    simp only [List.length_append, List.length_cons] at h
    refine ev_tail ?_
    simp only [laws_markEventS.l0, Option.bind_some, set_mid, rdIEvent]
    refine ev_pos (by simp; omega) (ev_pos (by omega) ?_)
    rw [wrap_id (n := m + 1) (by omega) (by omega), wrap_id (n := m + 1 + 1) (by omega) (by omega), wrap_id (n := m + 1 + 1 + 1) (by omega) (by omega), wrap_id (n := m + 1 + 1 + 1 + 1) (by omega) (by omega), wrap_succ (by omega), snoc_cons pre _ t, ← length_snoc pre (⟨m, m + 1, m + 1 + 1, m + 1 + 1 + 1⟩ : S81)]
    refine ev_eq e ?_
    simp only [marksEvent, List.length_cons, List.append_assoc, List.singleton_append]
    congr 1
    omega
theorem markEventS_ev (l : List S81) (m : Int) (h : l.length ≤ 8388608) (h0 : 0 ≤ m) (h1 : m ≤ 1099511627776 - 4 * l.length) : Ev (fun k => laws_markEventS.f k l m) (m + 4 * l.length, marksEvent l.length m) := by
  simp only [laws_markEventS.f]
  exact markEventS_l0 l [] m (by simpa using h) h0 h1

theorem szEventS_some (l : List S83) (h : l.length ≤ maxLen) : ∃ r, laws_szEventS.f l 1048576 = some r ∧ (¬ r < 0 → l.length ≤ 1048576) := by
  have hm : maxLen = 9223372036854775807 := rfl
  unfold laws_szEventS.f
  rw [wrap_id (by omega) (by omega)]
  by_cases h0 : (1048576 : Int) - (l.length : Int) < 0
  · exact ⟨-1, by rw [if_pos h0], fun h => absurd (by omega) h⟩
  · exact ⟨_, by rw [if_neg h0], fun _ => by omega⟩

def evOK (e : S81) : Bool := decide (0 ≤ e.f0 ∧ e.f0 ≤ 2000 ∧ 1 ≤ e.f1 ∧ e.f1 ≤ 96 ∧ 21 ≤ e.f2 ∧ e.f2 ≤ 108 ∧ 1 ≤ e.f3 ∧ e.f3 ≤ 4)
/-- In order: by At, then by Voice, then by Pitch. -/
def evLt (a b : S81) : Bool := decide (a.f0 < b.f0 ∨ (a.f0 = b.f0 ∧ (a.f3 < b.f3 ∨ (a.f3 = b.f3 ∧ a.f2 < b.f2))))
def scC (l : List S81) (i : Int) : Bool := evOK (rd_T81 l i) && (decide (i ≤ 0) || evLt (rd_T81 l (i - 1)) (rd_T81 l i))
def scoreM (l : List S81) : Bool := allF (scC l) (decide ((l.length : Int) ≤ 40)) l.length 0
theorem l8Ok_eq (e : S81) : spec_l8Ok.f e.f0 e.f1 e.f2 e.f3 = some (evOK e) := by
  simp only [spec_l8Ok.f, l1In_eq, Option.bind_some, evOK]
  by_cases h1 : 0 ≤ e.f0 ∧ e.f0 ≤ 2000 <;> by_cases h2 : 1 ≤ e.f1 ∧ e.f1 ≤ 96 <;> by_cases h3 : 21 ≤ e.f2 ∧ e.f2 ≤ 108 <;> simp [h1, h2, h3, and_assoc] <;> omega
theorem l8Before_eq (a b : S81) : spec_l8Before.f a.f0 a.f1 a.f2 a.f3 b.f0 b.f1 b.f2 b.f3 = some (evLt a b) := by
  simp only [spec_l8Before.f, evLt]
  by_cases h1 : a.f0 = b.f0
  · rw [if_pos h1]
    by_cases h2 : a.f3 = b.f3
    · rw [if_pos h2]; congr 1; exact decide_eq_decide.mpr (by omega)
    · rw [if_neg h2]; congr 1; exact decide_eq_decide.mpr (by omega)
  · rw [if_neg h1]; congr 1; exact decide_eq_decide.mpr (by omega)
theorem specIsScore_ev (l : List S81) (h : l.length ≤ 1048576) : Ev (fun k => spec_IsScore.f k l) (scoreM l) := by
  simp only [spec_IsScore.f]
  refine ev_all (L := fun k i => spec_IsScore.l0 k l i) (n := l.length) (fun i hi => ?_) ?_ l.length 0 (by omega)
  · have w1 : Aside0 (wrap64 ((i : Int) + 1) = (i : Int) + 1) := ⟨wrap_id (by omega) (by omega)⟩
    have w2 : Aside0 (wrap64 ((i : Int) - 1) = (i : Int) - 1) := ⟨wrap_id (by omega) (by omega)⟩
    constructor
    · intro hc r e
      simp only [scC, Bool.and_eq_true] at hc
      obtain ⟨h1, h2⟩ := hc
      refine ev_tail ?_
      simp only [spec_IsScore.l0, l8Ok_eq, l8Before_eq, Option.bind_some, w1.out, w2.out]
      refine ev_pos (by omega) (ev_pos (by omega) (ev_pos h1 (ev_ite (fun h0 => ?_) (fun _ => e))))
      rw [decide_eq_false (by omega), Bool.false_or] at h2
      exact ev_pos (by omega) (ev_pos (by omega) (ev_pos h2 e))
    · intro hc
      simp only [scC, Bool.and_eq_false_iff] at hc
      refine ev_tail ?_
      simp only [spec_IsScore.l0, l8Ok_eq, l8Before_eq, Option.bind_some, w1.out, w2.out]
      refine ev_pos (by omega) (ev_pos (by omega) (ev_ite (fun h1 => ?_) (fun _ => Ev.now _)))
      rcases hc with hc | hc
      · rw [hc] at h1; exact absurd h1 (by simp)
      · simp only [Bool.or_eq_false_iff, decide_eq_false_iff_not] at hc
        exact ev_pos (by omega) (ev_pos (by omega) (ev_pos (by omega) (ev_neg (by rw [hc.2]; simp) (Ev.now _))))
  · refine ev_tail ?_
    simp only [spec_IsScore.l0]
    exact ev_neg (by omega) (Ev.now _)
theorem cmp_eq (a b : Int) : cmp_Compare_int.f a b = some (if a < b then -1 else if a > b then 1 else 0) := by
  simp only [cmp_Compare_int.f, cmp_isNaN_int.f, Option.bind_some, bne_self_eq_false, Bool.false_eq_true, if_false]
  by_cases h1 : a < b
  · rw [if_pos h1, if_pos h1]
  · rw [if_neg h1, if_neg h1]
    by_cases h2 : a > b
    · rw [if_pos h2, if_pos h2]
    · rw [if_neg h2, if_neg h2]
theorem or_ev (a b c : Int) : Ev (fun k => cmp_Or_int.f k [a, b, c]) (if a = 0 then (if b = 0 then (if c = 0 then 0 else c) else b) else a) := by
  simp only [cmp_Or_int.f]
  have r0 : rd [a, b, c] 0 = a := rfl
  have r1 : rd [a, b, c] 1 = b := rfl
  have r2 : rd [a, b, c] 2 = c := rfl
  have w0 : wrap64 ((0 : Int) + 1) = 1 := by unfold wrap64; omega
  have w1 : wrap64 ((1 : Int) + 1) = 2 := by unfold wrap64; omega
  have w2 : wrap64 ((2 : Int) + 1) = 3 := by unfold wrap64; omega
  refine ev_tail ?_
  simp only [cmp_Or_int.l0, r0, w0]
  refine ev_pos (by simp) (ev_pos (by omega) (ev_pos (by simp) (ev_ite (fun h0 => ?_) (fun h0 => ?_))))
  · rw [if_pos h0]
    refine ev_tail ?_
    simp only [cmp_Or_int.l0, r1, w1]
    refine ev_pos (by simp) (ev_pos (by omega) (ev_pos (by simp) (ev_ite (fun h1 => ?_) (fun h1 => ?_))))
    · rw [if_pos h1]
      refine ev_tail ?_
      simp only [cmp_Or_int.l0, r2, w2]
      refine ev_pos (by simp) (ev_pos (by omega) (ev_pos (by simp) (ev_ite (fun h2 => ?_) (fun h2 => ?_))))
      · rw [if_pos h2]
        refine ev_tail ?_
        simp only [cmp_Or_int.l0]
        exact ev_neg (by simp) (Ev.now _)
      · rw [if_neg h2]; exact Ev.now _
    · rw [if_neg h1]; exact Ev.now _
  · rw [if_neg h0]; exact Ev.now _
theorem eventOrder_ev (a b : S81) : ∃ r, Ev (fun k => impl_eventOrder.f k a.f0 a.f1 a.f2 a.f3 b.f0 b.f1 b.f2 b.f3) r ∧ (evLt a b = true ↔ r < 0) := by
  simp only [impl_eventOrder.f, cmp_eq, Option.bind_some]
  refine ⟨_, Ev.bind (or_ev _ _ _) (Ev.now _), ?_⟩
  simp only [evLt, decide_eq_true_eq]
  repeat' split
  all_goals omega
theorem implIsScore_ev (l : List S81) (h : l.length ≤ 1048576) : Ev (fun k => impl_IsScore.f k l) (scoreM l) := by
  simp only [impl_IsScore.f]
  refine ev_all (L := fun k i => impl_IsScore.l0 k l l (l.length : Int) i) (n := l.length) (fun i hi => ?_) ?_ l.length 0 (by omega)
  · have w1 : Aside0 (wrap64 ((i : Int) + 1) = (i : Int) + 1) := ⟨wrap_id (by omega) (by omega)⟩
    have w2 : Aside0 (wrap64 ((i : Int) - 1) = (i : Int) - 1) := ⟨wrap_id (by omega) (by omega)⟩
    obtain ⟨q, hq, hl⟩ := eventOrder_ev (rd_T81 l ((i : Int) - 1)) (rd_T81 l (i : Int))
    constructor
    · intro hc r e
      simp only [scC, Bool.and_eq_true, evOK, decide_eq_true_eq] at hc
      obtain ⟨h1, h2⟩ := hc
      refine ev_tail ?_
      simp only [impl_IsScore.l0, InRange_eq, Option.bind_some, w1.out, w2.out]
      refine ev_pos (by omega) (ev_pos (by omega) (ev_pos (by omega) (ev_pos (by simp; omega) (ev_pos (by simp; omega) (ev_pos (by simp; omega) (ev_pos (by simp; omega) (ev_ite (fun h0 => ?_) (fun _ => e))))))))
      rw [decide_eq_false (by omega), Bool.false_or] at h2
      have := hl.mp h2
      exact ev_pos (by omega) (ev_pos (by omega) (Ev.bind hq (ev_neg (by omega) e)))
    · intro hc
      refine ev_tail ?_
      simp only [impl_IsScore.l0, InRange_eq, Option.bind_some, w1.out, w2.out]
      refine ev_pos (by omega) (ev_pos (by omega) (ev_pos (by omega) (ev_ite (fun h1 => ev_ite (fun h2 => ev_ite (fun h3 => ev_ite (fun h4 => ?_) (fun _ => Ev.now _)) (fun _ => Ev.now _)) (fun _ => Ev.now _)) (fun _ => Ev.now _))))
      simp only [decide_eq_true_eq] at h1 h2 h3 h4
      simp only [scC, Bool.and_eq_false_iff] at hc
      rcases hc with hc | hc
      · simp only [evOK, decide_eq_false_iff_not] at hc
        exact absurd ⟨h1.1, h1.2, h2.1, h2.2, h3.1, h3.2, h4.1, h4.2⟩ hc
      · simp only [Bool.or_eq_false_iff, decide_eq_false_iff_not] at hc
        have : ¬ q < 0 := fun hlt => by rw [hl.mpr hlt] at hc; exact absurd hc.2 (by simp)
        exact ev_pos (by omega) (ev_pos (by omega) (ev_pos (by omega) (Ev.bind hq (ev_pos (by omega) (Ev.now _)))))
  · refine ev_tail ?_
    simp only [impl_IsScore.l0]
    exact ev_neg (by omega) (Ev.now _)
theorem score_len {l : List S81} (h : scoreM l = true) : l.length ≤ 40 := by
  unfold scoreM at h
  rw [allF_iff] at h
  have := h.1
  simp only [decide_eq_true_eq] at this
  omega

theorem score_at {l : List S81} (h : scoreM l = true) (i : Nat) (hi : i < l.length) : evOK (rd_T81 l (i : Int)) = true := by
  unfold scoreM at h
  rw [allF_iff] at h
  have := h.2 i (by omega) (by omega)
  unfold scC at this
  rw [Bool.and_eq_true] at this
  exact this.1

/-- The events of one voice, in order. -/
def voiceM (l : List S81) (u : Int) : List S81 := l.filter fun e => !(e.f3 != u)
theorem voiceM_length (l : List S81) (u : Int) : (voiceM l u).length ≤ l.length := List.length_filter_le _ _
def voSt (l : List S81) (u : Int) (i : Int) (out : List S81) : List S81 := if (rd_T81 l i).f3 = u then out ++ [rd_T81 l i] else out
theorem voiceM_fold (l : List S81) (u : Int) : foldM (voSt l u) l.length 0 [] = voiceM l u := by
  have h := foldM_all (fun (x : S81) (s : List S81) => if x.f3 = u then s ++ [x] else s) z81 l []
  refine h.trans ?_
  have g : ∀ (t out : List S81), t.foldl (fun (s : List S81) x => if x.f3 = u then s ++ [x] else s) out = out ++ voiceM t u := by
    intro t
    induction t with
    | nil => intro out; simp [voiceM]
    | cons x t ih =>
      intro out
      rw [List.foldl_cons, ih]
      unfold voiceM
      by_cases hx : x.f3 = u
      · simp [hx]
      · simp [hx]
  rw [g, List.nil_append]
theorem specVoiceOf_ev (l : List S81) (u : Int) (h : l.length ≤ 1048576) : Ev (fun k => spec_VoiceOf.f k l u) (voiceM l u) := by
  simp only [spec_VoiceOf.f]
  rw [← voiceM_fold]
  refine ev_fold (L := fun k out i => spec_VoiceOf.l0 k l u out i) (st := voSt l u) (fin := id) (n := l.length) (s0 := 0) (fun i out => out.length ≤ i) (fun i out _ _ ho => ?_) (fun i out _ hi ho r e => ?_) (fun p _ => ?_) l.length 0 [] (by omega) (by omega) (by simp)
  · unfold voSt
    split
    · simp; omega
    · omega
  · refine ev_tail ?_
    simp only [spec_VoiceOf.l0]
    rw [wrap_id (n := (i : Int) + 1) (by omega) (by omega)]
    unfold voSt at e
    refine ev_pos (by omega) (ev_pos (by omega) (ev_ite (fun c => ev_pos (by omega) ?_) (fun c => ?_)))
    · rw [if_pos c] at e; exact e
    · rw [if_neg c] at e; exact e
  · refine ev_tail ?_
    simp only [spec_VoiceOf.l0]
    exact ev_neg (by omega) (Ev.now _)
theorem implVoiceOf_eq (l : List S81) (u : Int) (h : l.length ≤ 1048576) : impl_VoiceOf.f l u = some (voiceM l u) := by
  unfold impl_VoiceOf.f
  rw [if_pos (by omega)]
  rfl
theorem score_mem {l : List S81} (h : scoreM l = true) {e : S81} (he : e ∈ l) : evOK e = true := by
  obtain ⟨i, hi, rfl⟩ := List.getElem_of_mem he
  have := score_at h i hi
  have hr : rd_T81 l (i : Int) = l[i] := by simp [rd_T81, List.getD, List.getElem?_eq_getElem hi]
  rwa [hr] at this
theorem voice_at {l : List S81} (h : scoreM l = true) (u : Int) (i : Int) (h0 : 0 ≤ i) (hi : i < ((voiceM l u).length : Int)) : evOK (rd_T81 (voiceM l u) i) = true := by
  have hi' : i.toNat < (voiceM l u).length := by omega
  have hr : rd_T81 (voiceM l u) i = (voiceM l u)[i.toNat] := by simp [rd_T81, List.getD, List.getElem?_eq_getElem hi']
  rw [hr]
  exact score_mem h (List.mem_filter.1 (List.getElem_mem hi')).1

/-- A voice as a target and its ticks. -/
def cueFM (l : List S81) (u : Int) : List Int × List Int × Bool := if scoreM l = true then ((voiceM l u).map (fun e => e.f2), (voiceM l u).map (fun e => e.f0), true) else ([], [], false)
theorem cueFM_length (l : List S81) (u : Int) : (cueFM l u).1.length ≤ l.length ∧ (cueFM l u).2.1.length ≤ l.length := by
  have := voiceM_length l u
  unfold cueFM
  split
  · simp only [List.length_map]; omega
  · simp
theorem specCue_l0 (suf : List S81) : ∀ (pre : List S81) (p a : List Int), (pre ++ suf).length ≤ 1048576 → p.length ≤ pre.length → a.length ≤ pre.length →
    Ev (fun k => spec_CueFrom.l0 k (pre ++ suf) (pre.length : Int) p a) (p ++ suf.map (fun e => e.f2), a ++ suf.map (fun e => e.f0), true) := by
  induction suf with
  | nil =>
    intro pre p a h hp ha
    refine ev_tail ?_
    simp only [spec_CueFrom.l0]
    exact ev_neg (by simp) (ev_eq (Ev.now _) (by simp))
  | cons x t ih =>
    intro pre p a h hp ha
    have e := ih (pre ++ [x]) (p ++ [x.f2]) (a ++ [x.f0]) (by simpa using h) (by simp; omega) (by simp; omega)
    simp only [List.length_append, List.length_cons] at h
    refine ev_tail ?_
    simp only [spec_CueFrom.l0]
    refine ev_pos (by simp; omega) (ev_pos (by omega) (ev_pos (by omega) (ev_pos (by omega) ?_)))
    rw [show rd_T81 (pre ++ x :: t) ((pre.length : Nat) : Int) = x from getD_mid pre x t _, wrap_succ (by omega), snoc_cons pre x t, ← length_snoc pre x]
    exact ev_eq e (by simp)
theorem specCueFrom_ev (l : List S81) (u : Int) (h : l.length ≤ 1048576) : Ev (fun k => spec_CueFrom.f k l u) (cueFM l u) := by
  have hv := voiceM_length l u
  simp only [spec_CueFrom.f, cueFM]
  refine Ev.bind (specIsScore_ev l h) (ev_ite (fun hs => ?_) (fun hs => ?_))
  · rw [if_pos hs]
    refine Ev.bind (specVoiceOf_ev l u h) ?_
    exact specCue_l0 (voiceM l u) [] [] [] (by simp; omega) (Nat.le_refl _) (Nat.le_refl _)
  · rw [if_neg hs]; exact Ev.now _
theorem implCue_l0 (suf : List S81) : ∀ (pre : List S81) (p a : List Int), (pre ++ suf).length ≤ 1048576 → p.length ≤ pre.length → a.length ≤ pre.length →
    Ev (fun k => impl_CueFrom.l0 k (pre ++ suf) ((pre ++ suf).length : Int) (pre.length : Int) p a) (p ++ suf.map (fun e => e.f2), a ++ suf.map (fun e => e.f0), true) := by
  induction suf with
  | nil =>
    intro pre p a h hp ha
    refine ev_tail ?_
    simp only [impl_CueFrom.l0]
    exact ev_neg (by simp) (ev_eq (Ev.now _) (by simp))
  | cons x t ih =>
    intro pre p a h hp ha
    have e := ih (pre ++ [x]) (p ++ [x.f2]) (a ++ [x.f0]) (by simpa using h) (by simp; omega) (by simp; omega)
    simp only [List.length_append, List.length_cons] at h
    refine ev_tail ?_
    simp only [impl_CueFrom.l0, Option.bind_some, List.length_cons, List.length_nil]
    refine ev_pos (by simp; omega) (ev_pos (by omega) (ev_pos (by simp; omega) (ev_pos (by omega) (ev_pos (by omega) ?_))))
    rw [show rd_T81 (pre ++ x :: t) ((pre.length : Nat) : Int) = x from getD_mid pre x t _, wrap_succ (by omega), snoc_cons pre x t, ← length_snoc pre x]
    exact ev_eq e (by simp)
theorem implCueFrom_ev (l : List S81) (u : Int) (h : l.length ≤ 1048576) : Ev (fun k => impl_CueFrom.f k l u) (cueFM l u) := by
  have hv := voiceM_length l u
  simp only [impl_CueFrom.f, cueFM]
  refine Ev.bind (implIsScore_ev l h) (ev_ite (fun hs => ?_) (fun hs => ?_))
  · rw [if_pos hs]
    refine ev_val (implVoiceOf_eq l u h) ?_
    exact implCue_l0 (voiceM l u) [] [] [] (by simp; omega) (Nat.le_refl _) (Nat.le_refl _)
  · rw [if_neg hs]; exact Ev.now _

theorem eqCue_ev (l m : List Int) (h : l.length ≤ 35184372088832) (h' : m.length ≤ 35184372088832) : Ev (fun k => laws_eqCue.f k l m l m) true := by
  simp only [laws_eqCue.f]
  exact Ev.bind (eqIntS_ev l h) (ev_pos (by trivial) (Ev.bind (eqIntS_ev m h') (ev_pos (by trivial) (Ev.now _))))
theorem markCue_ev (l m : List Int) (h : l.length ≤ 1048576) (h' : m.length ≤ 1048576) : Ev (fun k => laws_markCue.f k l m 1) (1 + (l.length : Int) + m.length, marks l.length 1, marks m.length (1 + l.length)) := by
  simp only [laws_markCue.f]
  exact Ev.bind (markIntS_ev l 1 (by omega) (by omega) (by omega)) (Ev.bind (markIntS_ev m _ (by omega) (by omega) (by omega)) (Ev.now _))
theorem heldCue_ev (a b : Nat) (h : a ≤ 1048576) (h' : b ≤ 1048576) : Ev (fun k => laws_heldCue.f k (marks a 1) (marks b (1 + a)) 1) (1 + (a : Int) + b) := by
  simp only [laws_heldCue.f]
  refine Ev.bind (heldIntS_ev a 1 (by omega) (by omega) (by omega)) (ev_neg (by omega) (Ev.bind (heldIntS_ev b (1 + a) (by omega) (by omega) (by omega)) (ev_neg (by omega) (Ev.now _))))
theorem FnExactCueFrom : ∀ (l0 : List (S83)) (a1 : Int), (l0.length ≤ maxLen) → (∀ x ∈ l0, ((Lit.int .i64 x.f0).wf = true) ∧ ((Lit.int .i64 x.f1).wf = true) ∧ ((Lit.int .i64 x.f2).wf = true) ∧ ((Lit.int .i64 x.f3).wf = true)) → (Lit.int .i64 a1).wf = true → ∃ k, laws_FnExactCueFrom.f k l0 a1 = some true := by
  intro l a hl _ _
  refine Ev.rounds ?_
  simp only [laws_FnExactCueFrom.f]
  obtain ⟨r, hr, hb⟩ := szEventS_some l hl
  refine ev_val hr (ev_ite (fun _ => Ev.now _) (fun h => ?_))
  have hn := hb h
  have hm : (l.map cvEvent).length ≤ 1048576 := by rw [List.length_map]; exact hn
  obtain ⟨h1, h2⟩ := cueFM_length (l.map cvEvent) a
  have t1 := toEventS_ev l hn
  have e1 := eqCue_ev (cueFM (l.map cvEvent) a).1 (cueFM (l.map cvEvent) a).2.1 (by omega) (by omega)
  have i1 := implCueFrom_ev (l.map cvEvent) a hm
  have m1 := markCue_ev (cueFM (l.map cvEvent) a).1 (cueFM (l.map cvEvent) a).2.1 (by omega) (by omega)
  have d1 := heldCue_ev (cueFM (l.map cvEvent) a).1.length (cueFM (l.map cvEvent) a).2.1.length (by omega) (by omega)
  refine Ev.bind t1 (Ev.bind (specCueFrom_ev _ a hm) (Ev.bind t1 (Ev.bind i1 (Ev.bind e1 (ev_pos (by trivial) (ev_tail ?_))))))
  simp only [laws_FnExactCueFrom.j0, bne_self_eq_false]
  refine ev_neg (by simp) (Ev.bind t1 (Ev.bind (eqEventS_ev _ hm) (ev_pos (by trivial) ?_)))
  refine Ev.bind (markEventS_ev _ 1 (by omega) (by omega) (by omega)) (ev_neg (by simp; omega) (Ev.bind e1 (ev_pos (by trivial) (ev_tail ?_))))
  simp only [laws_FnExactCueFrom.j1]
  refine ev_neg (by simp) (Ev.bind m1 (Ev.bind d1 (ev_neg (by omega) (ev_pos rfl ?_))))
  refine Ev.bind t1 (Ev.bind i1 (Ev.bind e1 (ev_pos (by trivial) (ev_tail ?_))))
  simp only [laws_FnExactCueFrom.j2, bne_self_eq_false]
  exact ev_neg (by simp) (Ev.bind d1 (ev_neg (by omega) (ev_pos rfl (Ev.now _))))
end Go.Proofs.Ytlkcbmcbmanmiaa.Pure
