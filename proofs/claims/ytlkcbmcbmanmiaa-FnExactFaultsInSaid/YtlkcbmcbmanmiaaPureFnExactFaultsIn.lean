/-
FaultsIn of the program and of the reference: the same answer.
Conditions: none.
-/
import Derived.Test.YtlkcbmcbmanmiaaPFnExactFaultsInx14
import Derived.Test.YtlkcbmcbmanmiaaBase
namespace Go.Proofs.Ytlkcbmcbmanmiaa.Pure
open Go.RowKit Go.Proofs.Ytlkcbmcbmanmiaa.PFnExactFaultsIn Go.Proofs.YtlkcbmcbmanmiaaW.PrintWords Go.Proofs.YtlkcbmcbmanmiaaW.PrintLast Go.Proofs.YtlkcbmcbmanmiaaW.PrintMore Go.Proofs.Ytlkcbmcbmanmiaa.Base
set_option linter.unusedVariables false
set_option linter.unusedSimpArgs false

theorem l1In_eq (a b c : Int) : spec_l1In.f a b c = some (decide (b ≤ a ∧ a ≤ c)) := by
  unfold spec_l1In.f
  by_cases h1 : b ≤ a <;> by_cases h2 : a ≤ c <;> simp [h1, h2]
theorem InRange_eq (a b c : Int) : impl_InRange.f a b c = some (decide (b ≤ a ∧ a ≤ c)) := by
  unfold impl_InRange.f
  by_cases h1 : b ≤ a <;> by_cases h2 : a ≤ c <;> simp [h1, h2]

def cvEvent (x : S83) : S81 := ⟨x.f0, x.f1, x.f2, x.f3⟩
theorem rdLEvent (pre : List S83) (x : S83) (t : List S83) : rd_T83 (pre ++ x :: t) ((pre.length : Nat) : Int) = x := getD_mid pre x t z83
theorem rdIEvent (pre : List S81) (x : S81) (t : List S81) : rd_T81 (pre ++ x :: t) ((pre.length : Nat) : Int) = x := getD_mid pre x t z81
theorem toEventS_l0 (suf : List S83) : ∀ pre : List S83, (pre ++ suf).length ≤ 1048576 → Ev (fun k => laws_toEventS.l0 k (pre ++ suf) (pre.map cvEvent ++ List.replicate suf.length z81) (pre.length : Int)) ((pre ++ suf).map cvEvent) := by
  induction suf with
  | nil =>
    intro pre h
    refine ev_tail ?_
    simp only [laws_toEventS.l0]
    refine ev_neg (by simp) ?_
    exact ev_eq (Ev.now _) (by simp)
  | cons x t ih =>
    intro pre h
    have e := ih (pre ++ [x]) (by simpa using h)
    simp only [List.length_append, List.length_cons] at h
    refine ev_tail ?_
    simp only [laws_toEventS.l0, laws_toEvent.f, Option.bind_some]
    refine ev_pos (by simp; omega) (ev_pos (by omega) (ev_pos (by simp; omega) ?_))
    rw [rdLEvent, List.length_cons, List.replicate_succ]
    have e1 : (pre.map cvEvent ++ z81 :: List.replicate t.length z81).set ((pre.length : Nat) : Int).toNat (⟨x.f0, x.f1, x.f2, x.f3⟩ : S81) = (pre ++ [x]).map cvEvent ++ List.replicate t.length z81 := by
      simp [cvEvent]
    rw [e1, wrap_succ (by omega), snoc_cons pre x t, ← length_snoc pre x]
    exact e
theorem toEventS_ev (l : List S83) (h : l.length ≤ 1048576) : Ev (fun k => laws_toEventS.f k l) (l.map cvEvent) := by
  simp only [laws_toEventS.f]
  refine ev_pos (by omega) (ev_pos (by omega) ?_)
  exact toEventS_l0 l [] (by simpa using h)

theorem eqEventS_l0 (suf : List S81) : ∀ pre : List S81, (pre ++ suf).length ≤ 1048576 → Ev (fun k => laws_eqEventS.l0 k (pre ++ suf) (pre ++ suf) (pre.length : Int)) true := by
  induction suf with
  | nil =>
    intro pre h
    refine ev_tail ?_
    simp only [laws_eqEventS.l0]
    exact ev_neg (by simp) (Ev.now true)
  | cons x t ih =>
    intro pre h
    have e := ih (pre ++ [x]) (by simpa using h)
    simp only [List.length_append, List.length_cons] at h
    refine ev_tail ?_
    simp only [laws_eqEventS.l0, laws_eqEvent.f, if_true, Option.bind_some]
    refine ev_pos (by simp; omega) (ev_pos (by omega) (ev_pos (by simp; omega) ?_))
    rw [wrap_succ (by omega), snoc_cons pre x t, ← length_snoc pre x]
    exact e
theorem eqEventS_ev (l : List S81) (h : l.length ≤ 1048576) : Ev (fun k => laws_eqEventS.f k l l) true := by
  simp only [laws_eqEventS.f]
  refine ev_pos (by trivial) ?_
  exact eqEventS_l0 l [] (by simpa using h)

def marksEvent : Nat → Int → List S81
  | 0, _ => []
  | n + 1, m => ⟨m, m + 1, m + 1 + 1, m + 1 + 1 + 1⟩ :: marksEvent n (m + 1 + 1 + 1 + 1)
theorem marksEvent_length (n : Nat) : ∀ m, (marksEvent n m).length = n := by
  induction n with
  | zero => intro m; rfl
  | succ n ih => intro m; simp [marksEvent, ih]
theorem markEventS_l0 (suf : List S81) : ∀ (pre : List S81) (m : Int), (pre ++ suf).length ≤ 8388608 → 0 ≤ m → m ≤ 1099511627776 - 4 * suf.length → Ev (fun k => laws_markEventS.l0 k (pre ++ suf) m (pre.length : Int)) (m + 4 * suf.length, pre ++ marksEvent suf.length m) := by
  induction suf with
  | nil =>
    intro pre m h h0 h1
    refine ev_tail ?_
    simp only [laws_markEventS.l0]
    refine ev_neg (by simp) (ev_eq (Ev.now _) (by simp [marksEvent]))
  | cons y t ih =>
    intro pre m h h0 h1
    simp only [List.length_cons] at h1
    have e := ih (pre ++ [⟨m, m + 1, m + 1 + 1, m + 1 + 1 + 1⟩]) (m + 1 + 1 + 1 + 1) (by simpa using h) (by omega) (by omega)
    simp only [List.length_append, List.length_cons] at h
    refine ev_tail ?_
    simp only [laws_markEventS.l0, Option.bind_some, set_mid, rdIEvent]
    refine ev_pos (by simp; omega) (ev_pos (by omega) ?_)
    rw [wrap_id (n := m + 1) (by omega) (by omega), wrap_id (n := m + 1 + 1) (by omega) (by omega), wrap_id (n := m + 1 + 1 + 1) (by omega) (by omega), wrap_id (n := m + 1 + 1 + 1 + 1) (by omega) (by omega), wrap_succ (by omega), snoc_cons pre _ t, ← length_snoc pre (⟨m, m + 1, m + 1 + 1, m + 1 + 1 + 1⟩ : S81)]
    refine ev_eq e ?_
    simp only [marksEvent, List.length_cons, List.append_assoc, List.singleton_append]
    congr 1
    omega
theorem markEventS_ev (l : List S81) (m : Int) (h : l.length ≤ 8388608) (h0 : 0 ≤ m) (h1 : m ≤ 1099511627776 - 4 * l.length) : Ev (fun k => laws_markEventS.f k l m) (m + 4 * l.length, marksEvent l.length m) := by
  simp only [laws_markEventS.f]
  exact markEventS_l0 l [] m (by simpa using h) h0 h1

theorem eqFaultS_l0 (suf : List S120) : ∀ pre : List S120, (pre ++ suf).length ≤ 8388608 → Ev (fun k => laws_eqFaultS.l0 k (pre ++ suf) (pre ++ suf) (pre.length : Int)) true := by
  induction suf with
  | nil =>
    intro pre h
    refine ev_tail ?_
    simp only [laws_eqFaultS.l0]
    exact ev_neg (by simp) (Ev.now true)
  | cons x t ih =>
    intro pre h
    have e := ih (pre ++ [x]) (by simpa using h)
    simp only [List.length_append, List.length_cons] at h
    refine ev_tail ?_
    simp only [laws_eqFaultS.l0, laws_eqFault.f, if_true, Option.bind_some]
    refine ev_pos (by simp; omega) (ev_pos (by omega) (ev_pos (by simp; omega) ?_))
    rw [wrap_succ (by omega), snoc_cons pre x t, ← length_snoc pre x]
    exact e
theorem eqFaultS_ev (l : List S120) (h : l.length ≤ 8388608) : Ev (fun k => laws_eqFaultS.f k l l) true := by
  simp only [laws_eqFaultS.f]
  refine ev_pos (by trivial) ?_
  exact eqFaultS_l0 l [] (by simpa using h)

theorem rdIFault (pre : List S120) (x : S120) (t : List S120) : rd_T120 (pre ++ x :: t) ((pre.length : Nat) : Int) = x := getD_mid pre x t z120
def marksFault : Nat → Int → List S120
  | 0, _ => []
  | n + 1, m => ⟨m, m + 1⟩ :: marksFault n (m + 1 + 1)
theorem marksFault_length (n : Nat) : ∀ m, (marksFault n m).length = n := by
  induction n with
  | zero => intro m; rfl
  | succ n ih => intro m; simp [marksFault, ih]
theorem markFaultS_l0 (suf : List S120) : ∀ (pre : List S120) (m : Int), (pre ++ suf).length ≤ 8388608 → 0 ≤ m → m ≤ 1099511627776 - 2 * suf.length → Ev (fun k => laws_markFaultS.l0 k (pre ++ suf) m (pre.length : Int)) (m + 2 * suf.length, pre ++ marksFault suf.length m) := by
  induction suf with
  | nil =>
    intro pre m h h0 h1
    refine ev_tail ?_
    simp only [laws_markFaultS.l0]
    refine ev_neg (by simp) (ev_eq (Ev.now _) (by simp [marksFault]))
  | cons y t ih =>
    intro pre m h h0 h1
    simp only [List.length_cons] at h1
    have e := ih (pre ++ [⟨m, m + 1⟩]) (m + 1 + 1) (by simpa using h) (by omega) (by omega)
    simp only [List.length_append, List.length_cons] at h
    refine ev_tail ?_
    simp only [laws_markFaultS.l0, Option.bind_some, set_mid, rdIFault]
    refine ev_pos (by simp; omega) (ev_pos (by omega) ?_)
    rw [wrap_id (n := m + 1) (by omega) (by omega), wrap_id (n := m + 1 + 1) (by omega) (by omega), wrap_succ (by omega), snoc_cons pre _ t, ← length_snoc pre (⟨m, m + 1⟩ : S120)]
    refine ev_eq e ?_
    simp only [marksFault, List.length_cons, List.append_assoc, List.singleton_append]
    congr 1
    omega
theorem markFaultS_ev (l : List S120) (m : Int) (h : l.length ≤ 8388608) (h0 : 0 ≤ m) (h1 : m ≤ 1099511627776 - 2 * l.length) : Ev (fun k => laws_markFaultS.f k l m) (m + 2 * l.length, marksFault l.length m) := by
  simp only [laws_markFaultS.f]
  exact markFaultS_l0 l [] m (by simpa using h) h0 h1

theorem heldFaultS_l0 (n : Nat) : ∀ (pre : List S120) (m : Int), pre.length + n ≤ 8388608 → 0 ≤ m → m ≤ 1099511627776 - 2 * n → Ev (fun k => laws_heldFaultS.l0 k (pre ++ marksFault n m) m (pre.length : Int)) (m + 2 * n) := by
  induction n with
  | zero =>
    intro pre m h h0 h1
    refine ev_tail ?_
    simp only [laws_heldFaultS.l0]
    refine ev_neg (by simp [marksFault]) (ev_eq (Ev.now _) (by omega))
  | succ n ih =>
    intro pre m h h0 h1
    have e := ih (pre ++ [⟨m, m + 1⟩]) (m + 1 + 1) (by simp; omega) (by omega) (by omega)
    refine ev_tail ?_
    have hm : marksFault (n + 1) m = ⟨m, m + 1⟩ :: marksFault n (m + 1 + 1) := rfl
    rw [hm]
    simp only [laws_heldFaultS.l0, rdIFault]
    refine ev_pos (by simp [marksFault_length]; omega) (ev_pos (by omega) ?_)
    rw [wrap_id (n := m + 1) (by omega) (by omega), wrap_id (n := m + 1 + 1) (by omega) (by omega), wrap_succ (by omega), snoc_cons pre _ (marksFault n (m + 1 + 1)), ← length_snoc pre (⟨m, m + 1⟩ : S120)]
    simp only [if_true]
    exact ev_eq e (by omega)
theorem heldFaultS_ev (n : Nat) (m : Int) (h : n ≤ 8388608) (h0 : 0 ≤ m) (h1 : m ≤ 1099511627776 - 2 * n) : Ev (fun k => laws_heldFaultS.f k (marksFault n m) m) (m + 2 * n) := by
  simp only [laws_heldFaultS.f]
  exact heldFaultS_l0 n [] m (by simpa using h) h0 h1

theorem szEventS_some (l : List S83) (h : l.length ≤ maxLen) : ∃ r, laws_szEventS.f l 1048576 = some r ∧ (¬ r < 0 → l.length ≤ 1048576) := by
  have hm : maxLen = 9223372036854775807 := rfl
  unfold laws_szEventS.f
  rw [wrap_id (by omega) (by omega)]
  by_cases h0 : (1048576 : Int) - (l.length : Int) < 0
  · exact ⟨-1, by rw [if_pos h0], fun h => absurd (by omega) h⟩
  · exact ⟨_, by rw [if_neg h0], fun _ => by omega⟩

def evOK (e : S81) : Bool := decide (0 ≤ e.f0 ∧ e.f0 ≤ 2000 ∧ 1 ≤ e.f1 ∧ e.f1 ≤ 96 ∧ 21 ≤ e.f2 ∧ e.f2 ≤ 108 ∧ 1 ≤ e.f3 ∧ e.f3 ≤ 4)
/-- In order: by At, then by Voice, then by Pitch. -/
def evLt (a b : S81) : Bool := decide (a.f0 < b.f0 ∨ (a.f0 = b.f0 ∧ (a.f3 < b.f3 ∨ (a.f3 = b.f3 ∧ a.f2 < b.f2))))
def scC (l : List S81) (i : Int) : Bool := evOK (rd_T81 l i) && (decide (i ≤ 0) || evLt (rd_T81 l (i - 1)) (rd_T81 l i))
def scoreM (l : List S81) : Bool := allF (scC l) (decide ((l.length : Int) ≤ 40)) l.length 0
theorem l8Ok_eq (e : S81) : spec_l8Ok.f e.f0 e.f1 e.f2 e.f3 = some (evOK e) := by
  simp only [spec_l8Ok.f, l1In_eq, Option.bind_some, evOK]
  by_cases h1 : 0 ≤ e.f0 ∧ e.f0 ≤ 2000 <;> by_cases h2 : 1 ≤ e.f1 ∧ e.f1 ≤ 96 <;> by_cases h3 : 21 ≤ e.f2 ∧ e.f2 ≤ 108 <;> simp [h1, h2, h3, and_assoc] <;> omega
theorem l8Before_eq (a b : S81) : spec_l8Before.f a.f0 a.f1 a.f2 a.f3 b.f0 b.f1 b.f2 b.f3 = some (evLt a b) := by
  simp only [spec_l8Before.f, evLt]
  by_cases h1 : a.f0 = b.f0
  · rw [if_pos h1]
    by_cases h2 : a.f3 = b.f3
    · rw [if_pos h2]; congr 1; exact decide_eq_decide.mpr (by omega)
    · rw [if_neg h2]; congr 1; exact decide_eq_decide.mpr (by omega)
  · rw [if_neg h1]; congr 1; exact decide_eq_decide.mpr (by omega)
theorem specIsScore_ev (l : List S81) (h : l.length ≤ 1048576) : Ev (fun k => spec_IsScore.f k l) (scoreM l) := by
  simp only [spec_IsScore.f]
  refine ev_all (L := fun k i => spec_IsScore.l0 k l i) (n := l.length) (fun i hi => ?_) ?_ l.length 0 (by omega)
  · have w1 : Aside0 (wrap64 ((i : Int) + 1) = (i : Int) + 1) := ⟨wrap_id (by omega) (by omega)⟩
    have w2 : Aside0 (wrap64 ((i : Int) - 1) = (i : Int) - 1) := ⟨wrap_id (by omega) (by omega)⟩
    constructor
    · intro hc r e
      simp only [scC, Bool.and_eq_true] at hc
      obtain ⟨h1, h2⟩ := hc
      refine ev_tail ?_
      simp only [spec_IsScore.l0, l8Ok_eq, l8Before_eq, Option.bind_some, w1.out, w2.out]
      refine ev_pos (by omega) (ev_pos (by omega) (ev_pos h1 (ev_ite (fun h0 => ?_) (fun _ => e))))
      rw [decide_eq_false (by omega), Bool.false_or] at h2
      exact ev_pos (by omega) (ev_pos (by omega) (ev_pos h2 e))
    · intro hc
      simp only [scC, Bool.and_eq_false_iff] at hc
      refine ev_tail ?_
      simp only [spec_IsScore.l0, l8Ok_eq, l8Before_eq, Option.bind_some, w1.out, w2.out]
      refine ev_pos (by omega) (ev_pos (by omega) (ev_ite (fun h1 => ?_) (fun _ => Ev.now _)))
      rcases hc with hc | hc
      · rw [hc] at h1; exact absurd h1 (by simp)
      · simp only [Bool.or_eq_false_iff, decide_eq_false_iff_not] at hc
        exact ev_pos (by omega) (ev_pos (by omega) (ev_pos (by omega) (ev_neg (by rw [hc.2]; simp) (Ev.now _))))
  · refine ev_tail ?_
    simp only [spec_IsScore.l0]
    exact ev_neg (by omega) (Ev.now _)
theorem cmp_eq (a b : Int) : cmp_Compare_int.f a b = some (if a < b then -1 else if a > b then 1 else 0) := by
  simp only [cmp_Compare_int.f, cmp_isNaN_int.f, Option.bind_some, bne_self_eq_false, Bool.false_eq_true, if_false]
  by_cases h1 : a < b
  · rw [if_pos h1, if_pos h1]
  · rw [if_neg h1, if_neg h1]
    by_cases h2 : a > b
    · rw [if_pos h2, if_pos h2]
    · rw [if_neg h2, if_neg h2]
theorem or_ev (a b c : Int) : Ev (fun k => cmp_Or_int.f k [a, b, c]) (if a = 0 then (if b = 0 then (if c = 0 then 0 else c) else b) else a) := by
  simp only [cmp_Or_int.f]
  have r0 : rd [a, b, c] 0 = a := rfl
  have r1 : rd [a, b, c] 1 = b := rfl
  have r2 : rd [a, b, c] 2 = c := rfl
  have w0 : wrap64 ((0 : Int) + 1) = 1 := by unfold wrap64; omega
  have w1 : wrap64 ((1 : Int) + 1) = 2 := by unfold wrap64; omega
  have w2 : wrap64 ((2 : Int) + 1) = 3 := by unfold wrap64; omega
  refine ev_tail ?_
  simp only [cmp_Or_int.l0, r0, w0]
  refine ev_pos (by simp) (ev_pos (by omega) (ev_pos (by simp) (ev_ite (fun h0 => ?_) (fun h0 => ?_))))
  · rw [if_pos h0]
    refine ev_tail ?_
    simp only [cmp_Or_int.l0, r1, w1]
    refine ev_pos (by simp) (ev_pos (by omega) (ev_pos (by simp) (ev_ite (fun h1 => ?_) (fun h1 => ?_))))
    · rw [if_pos h1]
      refine ev_tail ?_
      simp only [cmp_Or_int.l0, r2, w2]
      refine ev_pos (by simp) (ev_pos (by omega) (ev_pos (by simp) (ev_ite (fun h2 => ?_) (fun h2 => ?_))))
      · rw [if_pos h2]
        refine ev_tail ?_
        simp only [cmp_Or_int.l0]
        exact ev_neg (by simp) (Ev.now _)
      · rw [if_neg h2]; exact Ev.now _
    · rw [if_neg h1]; exact Ev.now _
  · rw [if_neg h0]; exact Ev.now _
theorem eventOrder_ev (a b : S81) : ∃ r, Ev (fun k => impl_eventOrder.f k a.f0 a.f1 a.f2 a.f3 b.f0 b.f1 b.f2 b.f3) r ∧ (evLt a b = true ↔ r < 0) := by
  simp only [impl_eventOrder.f, cmp_eq, Option.bind_some]
  refine ⟨_, Ev.bind (or_ev _ _ _) (Ev.now _), ?_⟩
  simp only [evLt, decide_eq_true_eq]
  repeat' split
  all_goals omega
theorem implIsScore_ev (l : List S81) (h : l.length ≤ 1048576) : Ev (fun k => impl_IsScore.f k l) (scoreM l) := by
  simp only [impl_IsScore.f]
  refine ev_all (L := fun k i => impl_IsScore.l0 k l l (l.length : Int) i) (n := l.length) (fun i hi => ?_) ?_ l.length 0 (by omega)
  · have w1 : Aside0 (wrap64 ((i : Int) + 1) = (i : Int) + 1) := ⟨wrap_id (by omega) (by omega)⟩
    have w2 : Aside0 (wrap64 ((i : Int) - 1) = (i : Int) - 1) := ⟨wrap_id (by omega) (by omega)⟩
    obtain ⟨q, hq, hl⟩ := eventOrder_ev (rd_T81 l ((i : Int) - 1)) (rd_T81 l (i : Int))
    constructor
    · intro hc r e
      simp only [scC, Bool.and_eq_true, evOK, decide_eq_true_eq] at hc
      obtain ⟨h1, h2⟩ := hc
      refine ev_tail ?_
      simp only [impl_IsScore.l0, InRange_eq, Option.bind_some, w1.out, w2.out]
      refine ev_pos (by omega) (ev_pos (by omega) (ev_pos (by omega) (ev_pos (by simp; omega) (ev_pos (by simp; omega) (ev_pos (by simp; omega) (ev_pos (by simp; omega) (ev_ite (fun h0 => ?_) (fun _ => e))))))))
      rw [decide_eq_false (by omega), Bool.false_or] at h2
      have := hl.mp h2
      exact ev_pos (by omega) (ev_pos (by omega) (Ev.bind hq (ev_neg (by omega) e)))
    · intro hc
      refine ev_tail ?_
      simp only [impl_IsScore.l0, InRange_eq, Option.bind_some, w1.out, w2.out]
      refine ev_pos (by omega) (ev_pos (by omega) (ev_pos (by omega) (ev_ite (fun h1 => ev_ite (fun h2 => ev_ite (fun h3 => ev_ite (fun h4 => ?_) (fun _ => Ev.now _)) (fun _ => Ev.now _)) (fun _ => Ev.now _)) (fun _ => Ev.now _))))
      simp only [decide_eq_true_eq] at h1 h2 h3 h4
      simp only [scC, Bool.and_eq_false_iff] at hc
      rcases hc with hc | hc
      · simp only [evOK, decide_eq_false_iff_not] at hc
        exact absurd ⟨h1.1, h1.2, h2.1, h2.2, h3.1, h3.2, h4.1, h4.2⟩ hc
      · simp only [Bool.or_eq_false_iff, decide_eq_false_iff_not] at hc
        have : ¬ q < 0 := fun hlt => by rw [hl.mpr hlt] at hc; exact absurd hc.2 (by simp)
        exact ev_pos (by omega) (ev_pos (by omega) (ev_pos (by omega) (Ev.bind hq (ev_pos (by omega) (Ev.now _)))))
  · refine ev_tail ?_
    simp only [impl_IsScore.l0]
    exact ev_neg (by omega) (Ev.now _)
theorem score_len {l : List S81} (h : scoreM l = true) : l.length ≤ 40 := by
  unfold scoreM at h
  rw [allF_iff] at h
  have := h.1
  simp only [decide_eq_true_eq] at this
  omega

/-- A number behind the last, if it is another. -/
def addN (out : List Int) (n : Int) : List Int := if out.getLast? = some n then out else out ++ [n]
def cp (xs : List Int) : List Int := xs.foldl addN []
theorem cp_snoc (xs : List Int) (n : Int) : cp (xs ++ [n]) = addN (cp xs) n := by simp [cp]
theorem addN_last (out : List Int) (n : Int) : (addN out n).getLast? = some n := by
  unfold addN
  split
  · assumption
  · simp
theorem cp_last (xs : List Int) : (cp xs).getLast? = xs.getLast? := by
  rcases List.eq_nil_or_concat xs with h | ⟨t, n, h⟩
  · subst h; rfl
  · rw [h, List.concat_eq_append, cp_snoc, addN_last]; simp
theorem addN_length (out : List Int) (n : Int) : (addN out n).length ≤ out.length + 1 := by
  unfold addN
  split
  · omega
  · simp
theorem compact_snoc (xs : List Int) (n : Int) : Go.Lib.compact (xs ++ [n]) = if xs.getLast? = some n then Go.Lib.compact xs else Go.Lib.compact xs ++ [n] := by
  have hk : ∀ j, j < xs.length → Go.Lib.keeps (xs ++ [n]).toArray j = Go.Lib.keeps xs.toArray j := by
    intro j hj
    unfold Go.Lib.keeps
    have e1 : (xs ++ [n]).toArray[j]! = xs.toArray[j]! := by
      rw [getElem!_pos (xs ++ [n]).toArray j (by simp; omega), getElem!_pos xs.toArray j (by simpa using hj)]
      simp [List.getElem_append_left hj]
    have e2 : (xs ++ [n]).toArray[j - 1]! = xs.toArray[j - 1]! := by
      rw [getElem!_pos (xs ++ [n]).toArray (j - 1) (by simp; omega), getElem!_pos xs.toArray (j - 1) (by simp; omega)]
      simp [List.getElem_append_left (show j - 1 < xs.length by omega)]
    rw [e1, e2]
  have hv : ∀ j, j < xs.length → (xs ++ [n]).toArray[j]! = xs.toArray[j]! := by
    intro j hj
    rw [getElem!_pos (xs ++ [n]).toArray j (by simp; omega), getElem!_pos xs.toArray j (by simpa using hj)]
    simp [List.getElem_append_left hj]
  have hlast : Go.Lib.keeps (xs ++ [n]).toArray xs.length = decide (¬ xs.getLast? = some n) := by
    unfold Go.Lib.keeps
    refine decide_eq_decide.mpr ?_
    rcases List.eq_nil_or_concat xs with h | ⟨t, m, h⟩
    · subst h; simp
    · rw [List.concat_eq_append] at h
      subst h
      have e1 : (t ++ [m] ++ [n]).toArray[(t ++ [m]).length]! = n := by
        rw [getElem!_pos (t ++ [m] ++ [n]).toArray (t ++ [m]).length (by simp)]
        simp
      have e2 : (t ++ [m] ++ [n]).toArray[(t ++ [m]).length - 1]! = m := by
        rw [getElem!_pos (t ++ [m] ++ [n]).toArray ((t ++ [m]).length - 1) (by simp)]
        simp
      rw [e1, e2]
      simp only [List.length_append, List.length_cons, List.length_nil, List.getLast?_append, List.getLast?_singleton, Option.some_or, Option.some.injEq]
      constructor
      · rintro (h | h)
        · omega
        · exact fun e => h e.symm
      · exact fun h => .inr fun e => h e.symm
  have hfil : (List.range xs.length).filter (Go.Lib.keeps (xs ++ [n]).toArray) = (List.range xs.length).filter (Go.Lib.keeps xs.toArray) :=
    List.filter_congr fun j hj => hk j (List.mem_range.1 hj)
  have hmap : ((List.range xs.length).filter (Go.Lib.keeps xs.toArray)).map ((xs ++ [n]).toArray[·]!) = ((List.range xs.length).filter (Go.Lib.keeps xs.toArray)).map (xs.toArray[·]!) :=
    List.map_congr_left fun j hj => hv j (List.mem_range.1 (List.mem_filter.1 hj).1)
  have hn : (xs ++ [n]).toArray[xs.length]! = n := by
    rw [getElem!_pos (xs ++ [n]).toArray xs.length (by simp)]
    simp
  unfold Go.Lib.compact Go.Lib.compactUpTo
  rw [show (xs ++ [n]).length = xs.length + 1 by simp, List.range_succ, List.filter_append, List.map_append, hfil, hmap]
  by_cases h : xs.getLast? = some n
  · rw [if_pos h]
    simp [hlast, h]
  · rw [if_neg h]
    simp [hlast, h, hn]
theorem compact_cp (xs : List Int) : Go.Lib.compact xs = cp xs := by
  suffices h : ∀ m (xs : List Int), xs.length = m → Go.Lib.compact xs = cp xs from h _ xs rfl
  intro m
  induction m with
  | zero =>
    intro xs h
    obtain rfl := List.length_eq_zero_iff.1 h
    rfl
  | succ m ih =>
    intro xs h
    rcases List.eq_nil_or_concat xs with h' | ⟨t, n, h'⟩
    · subst h'; simp at h
    · rw [List.concat_eq_append] at h'
      subst h'
      rw [compact_snoc, cp_snoc, ih t (by simpa using h), addN, cp_last]
theorem l8Num_l0 (n : Int) (suf : List Int) : ∀ pre : List Int, (pre ++ suf).length ≤ 1048576 → (pre ++ suf).Pairwise (· < ·) → (∀ x ∈ pre, x < n) → (∀ x ∈ suf, x ≤ n) → Ev (fun k => spec_l8Num.l0 k (pre ++ suf) n (pre.length : Int)) (addN (pre ++ suf) n) := by
  induction suf with
  | nil =>
    intro pre h hp h1 h2
    refine ev_tail ?_
    simp only [spec_l8Num.l0, Option.bind_some, List.append_nil, Int.toNat_natCast, List.nil_append, List.length_nil, List.length_append, List.length_cons, List.length_drop, List.length_take]
    simp only [List.append_nil] at h
    refine ev_neg (by omega) (ev_pos (by omega) (ev_pos (by omega) (ev_pos (by omega) (ev_pos (by omega) (ev_pos (by omega) ?_)))))
    refine ev_eq (Ev.now _) ?_
    unfold addN
    rw [if_neg]
    · simp
    · intro e
      have := h1 n (List.mem_of_getLast? e)
      omega
  | cons x t ih =>
    intro pre h hp h1 h2
    have hx := h2 x (by simp)
    have hlen : pre.length + (t.length + 1) ≤ 1048576 := by simpa using h
    refine ev_tail ?_
    simp only [spec_l8Num.l0, rd_mid, Option.bind_some, List.nil_append]
    refine ev_pos (by simp; omega) (ev_pos (by omega) ?_)
    by_cases hlt : x < n
    · refine ev_pos hlt ?_
      have e := ih (pre ++ [x]) (by simpa using h) (by simpa using hp) (fun y hy => by
        rcases List.mem_append.1 hy with hy | hy
        · exact h1 y hy
        · rw [List.mem_singleton.1 hy]; exact hlt) (fun y hy => h2 y (by simp [hy]))
      rw [wrap_succ (by omega), snoc_cons pre x t, ← length_snoc pre x]
      exact e
    · refine ev_neg hlt (ev_pos (by omega) (ev_pos (by simp; omega) ?_))
      refine ev_eq (Ev.now _) ?_
      have ht : t = [] := by
        cases t with
        | nil => rfl
        | cons y s =>
          have hy := h2 y (by simp)
          have := (List.pairwise_append.1 hp).2.1
          have := (List.pairwise_cons.1 this).1 y (by simp)
          omega
      subst ht
      unfold addN
      rw [if_pos]
      have : x = n := by omega
      simp [this]
theorem l8Num_ev (out : List Int) (n : Int) (h : out.length ≤ 1048576) (hp : out.Pairwise (· < ·)) (hn : ∀ x ∈ out, x ≤ n) : Ev (fun k => spec_l8Num.f k out n) (addN out n) := by
  simp only [spec_l8Num.f]
  exact l8Num_l0 n out [] (by simpa using h) hp (fun _ h => by cases h) hn
theorem addN_asc (out : List Int) (n : Int) (hp : out.Pairwise (· < ·)) (hn : ∀ x ∈ out, x ≤ n) : (addN out n).Pairwise (· < ·) := by
  unfold addN
  split
  · exact hp
  · rename_i h
    refine List.pairwise_append.2 ⟨hp, List.pairwise_singleton _ _, fun x hx y hy => ?_⟩
    rw [List.mem_singleton.1 hy]
    have h1 := hn x hx
    rcases Int.lt_or_eq_of_le h1 with h2 | h2
    · exact h2
    · exfalso
      subst h2
      rcases List.eq_nil_or_concat out with h3 | ⟨t, m, h3⟩
      · subst h3; cases hx
      · rw [List.concat_eq_append] at h3
        subst h3
        rcases List.mem_append.1 hx with hx | hx
        · have := (List.pairwise_append.1 hp).2.2 x hx m (by simp)
          have := hn m (by simp)
          omega
        · apply h
          simp [List.mem_singleton.1 hx]
theorem addN_mem (out : List Int) (n x : Int) (h : x ∈ addN out n) : x ∈ out ∨ x = n := by
  unfold addN at h
  split at h
  · exact .inl h
  · simpa using h
theorem score_ats {l : List S81} (h : scoreM l = true) : ∀ d i : Nat, i + d < l.length → (rd_T81 l (i : Int)).f0 ≤ (rd_T81 l ((i + d : Nat) : Int)).f0 := by
  have hs := ((allF_iff _ _ _ _).1 h).2
  intro d
  induction d with
  | zero => intro i _; exact Int.le_refl _
  | succ d ih =>
    intro i hi
    have h1 := ih i (by omega)
    have h2 := hs (i + (d + 1)) (by omega) (by omega)
    simp only [scC, Bool.and_eq_true, Bool.or_eq_true, decide_eq_true_eq] at h2
    have h3 := h2.2.resolve_left (by omega)
    rw [show ((i + (d + 1) : Nat) : Int) - 1 = ((i + d : Nat) : Int) by omega] at h3
    simp only [evLt, decide_eq_true_eq] at h3
    omega
def onSt (l : List S81) (a b : Int) (i : Int) (out : List Int) : List Int := if (rd_T81 l i).f3 = a ∨ (rd_T81 l i).f3 = b then addN out (rd_T81 l i).f0 else out
def onAll (l : List S81) (a b : Int) (i : Int) (out : List Int) : List Int := if (rd_T81 l i).f3 = a ∨ (rd_T81 l i).f3 = b then out ++ [(rd_T81 l i).f0] else out
def onsetsM (l : List S81) (a b : Int) : List Int := if scoreM l = true then foldM (onSt l a b) l.length 0 [] else []
theorem onAll_cp (l : List S81) (a b : Int) (d : Nat) : ∀ (i : Nat) (out : List Int), cp (foldM (onAll l a b) d i out) = foldM (onSt l a b) d i (cp out) := by
  induction d with
  | zero => intro i out; rfl
  | succ d ih =>
    intro i out
    simp only [foldM]
    rw [ih]
    congr 1
    unfold onAll onSt
    split
    · rw [cp_snoc]
    · rfl
def onI (l : List S81) (i : Nat) (out : List Int) : Prop := out.length ≤ i ∧ out.Pairwise (· < ·) ∧ ∀ x ∈ out, ∀ j, i ≤ j → j < l.length → x ≤ (rd_T81 l (j : Int)).f0
theorem onI_step {l : List S81} (hsc : scoreM l = true) (a b : Int) (i : Nat) (s : List Int) (hi : i < l.length) (h : onI l i s) : onI l (i + 1) (onSt l a b (i : Int) s) := by
  obtain ⟨h1, h2, h3⟩ := h
  unfold onSt
  split
  · have hl := addN_length s (rd_T81 l (i : Int)).f0
    refine ⟨by omega, addN_asc _ _ h2 (fun x hx => h3 x hx i (Nat.le_refl _) hi), fun x hx j hj hjl => ?_⟩
    rcases addN_mem _ _ _ hx with hx | rfl
    · exact h3 x hx j (by omega) hjl
    · have := score_ats hsc (j - i) i (by omega)
      rwa [show i + (j - i) = j by omega] at this
  · exact ⟨by omega, h2, fun x hx j hj hjl => h3 x hx j (by omega) hjl⟩
theorem onsetsM_facts (l : List S81) (a b : Int) : (onsetsM l a b).length ≤ l.length ∧ (onsetsM l a b).Pairwise (· < ·) := by
  unfold onsetsM
  split
  · rename_i hsc
    have : ∀ d i s, i + d = l.length → onI l i s → onI l l.length (foldM (onSt l a b) d i s) := by
      intro d
      induction d with
      | zero => intro i s h hI; obtain rfl : i = l.length := by omega
                exact hI
      | succ d ih => intro i s h hI; exact ih _ _ (by omega) (onI_step hsc a b i s (by omega) hI)
    have h := this l.length 0 [] (by omega) ⟨Nat.le_refl _, List.Pairwise.nil, fun x hx => by cases hx⟩
    exact ⟨h.1, h.2.1⟩
  · exact ⟨by simp, List.Pairwise.nil⟩
theorem specOnsets_ev (l : List S81) (a b : Int) (h : l.length ≤ 1048576) : Ev (fun k => spec_OnsetsOf.f k l a b) (onsetsM l a b) := by
  simp only [spec_OnsetsOf.f, onsetsM]
  have hs := specIsScore_ev l h
  by_cases hsc : scoreM l = true
  · rw [if_pos hsc]
    rw [hsc] at hs
    refine ev_fold (L := fun k out i => spec_OnsetsOf.l0 k l a b out i) (st := onSt l a b) (fin := id) (n := l.length) (s0 := 0) (onI l) (fun i s _ hi hI => onI_step hsc a b i s hi hI) (fun i s _ hi hI r e => ?_) (fun s _ => ?_) l.length 0 [] (by omega) (by omega) ⟨Nat.le_refl _, List.Pairwise.nil, fun x hx => by cases hx⟩
    · obtain ⟨h1, h2, h3⟩ := hI
      have w1 : Aside0 (wrap64 ((i : Int) + 1) = (i : Int) + 1) := ⟨wrap_id (by omega) (by omega)⟩
      have ea := l8Num_ev s (rd_T81 l (i : Int)).f0 (by omega) h2 (fun x hx => h3 x hx i (Nat.le_refl _) hi)
      refine ev_tail ?_
      simp only [spec_OnsetsOf.l0]
      refine ev_pos (by omega) (Ev.bind hs (ev_tail ?_))
      simp only [spec_OnsetsOf.j1, w1.out]
      refine ev_pos (by trivial) (ev_pos (by omega) (ev_pos (by omega) ?_))
      unfold onSt at e
      refine ev_ite (fun c1 => ?_) (fun c1 => ev_ite (fun c2 => ?_) (fun c2 => ?_))
      · rw [if_pos (.inl c1)] at e; exact Ev.bind ea e
      · rw [if_pos (.inr c2)] at e; exact Ev.bind ea e
      · rw [if_neg (fun z => z.elim c1 c2)] at e; exact e
    · refine ev_tail ?_
      simp only [spec_OnsetsOf.l0]
      refine ev_neg (by omega) (ev_tail ?_)
      simp only [spec_OnsetsOf.j1]
      exact ev_neg (by simp) (Ev.now _)
  · rw [if_neg hsc]
    rw [Bool.eq_false_iff.mpr hsc] at hs
    refine ev_tail ?_
    simp only [spec_OnsetsOf.l0]
    refine ev_ite (fun _ => Ev.bind hs (ev_tail ?_)) (fun _ => ev_tail ?_)
    · simp only [spec_OnsetsOf.j1]
      exact ev_neg (by simp) (Ev.now _)
    · simp only [spec_OnsetsOf.j1]
      exact ev_neg (by simp) (Ev.now _)
theorem implOnsets_ev (l : List S81) (a b : Int) (h : l.length ≤ 1048576) : Ev (fun k => impl_OnsetsOf.f k l a b) (onsetsM l a b) := by
  simp only [impl_OnsetsOf.f, Option.bind_some, onsetsM, slices_Compact_int_int.f]
  refine Ev.bind (implIsScore_ev l h) (ev_ite (fun hsc => ?_) (fun hsc => ?_))
  · rw [if_pos hsc]
    have e0 : foldM (onSt l a b) l.length 0 [] = Go.Lib.compact (foldM (onAll l a b) l.length 0 []) := by rw [compact_cp, onAll_cp]; rfl
    rw [e0]
    refine ev_fold (L := fun k out i => impl_OnsetsOf.l0 k a b out l (l.length : Int) i) (st := onAll l a b) (fin := Go.Lib.compact) (n := l.length) (s0 := 0) (fun i s => s.length ≤ i) (fun i s _ hi hI => ?_) (fun i s _ hi hI r e => ?_) (fun s _ => ?_) l.length 0 [] (by omega) (by omega) (Nat.le_refl _)
    · unfold onAll
      split
      · rw [length_snoc]; omega
      · omega
    · have w1 : Aside0 (wrap64 ((i : Int) + 1) = (i : Int) + 1) := ⟨wrap_id (by omega) (by omega)⟩
      refine ev_tail ?_
      simp only [impl_OnsetsOf.l0, w1.out]
      refine ev_pos (by omega) (ev_pos (by omega) (ev_pos (by omega) ?_))
      unfold onAll at e
      refine ev_ite (fun c1 => ev_pos (by omega) ?_) (fun c1 => ev_ite (fun c2 => ev_pos (by omega) ?_) (fun c2 => ?_))
      · rw [if_pos (.inl c1)] at e; exact e
      · rw [if_pos (.inr c2)] at e; exact e
      · rw [if_neg (fun z => z.elim c1 c2)] at e; exact e
    · refine ev_tail ?_
      simp only [impl_OnsetsOf.l0, slices_Compact_int_int.f, Option.bind_some]
      exact ev_neg (by omega) (Ev.now _)
  · rw [if_neg hsc]
    exact Ev.now _

/-- Does an event sound at a tick? -/
def sounds (e : S81) (t : Int) : Bool := decide (e.f0 ≤ t ∧ t < wrap64 (e.f0 + e.f1))
theorem sounds_eq (e : S81) (t : Int) : impl_Event_sounds.f e.f0 e.f1 e.f2 e.f3 t = some (sounds e t) := by
  simp only [impl_Event_sounds.f, sounds]
  by_cases h : e.f0 ≤ t
  · rw [if_pos h]; simp [h]
  · rw [if_neg h]; simp [h]
def pitSt (l : List S81) (v t : Int) (i p : Int) : Int := if (rd_T81 l i).f3 = v ∧ sounds (rd_T81 l i) t = true then (rd_T81 l i).f2 else p
def pitchM (l : List S81) (v t : Int) : Int := if scoreM l = true then foldM (pitSt l v t) l.length 0 0 else 0
theorem specPitchAt_ev (l : List S81) (v t : Int) (h : l.length ≤ 1048576) : Ev (fun k => spec_PitchAt.f k l v t) (pitchM l v t) := by
  simp only [spec_PitchAt.f, pitchM]
  have hs := specIsScore_ev l h
  by_cases hsc : scoreM l = true
  · rw [if_pos hsc]
    rw [hsc] at hs
    refine ev_fold (L := fun k p i => spec_PitchAt.l0 k l v t p i) (st := pitSt l v t) (fin := id) (n := l.length) (s0 := 0) (fun _ _ => True) (fun _ _ _ _ _ => trivial) (fun i p _ hi _ r e => ?_) (fun p _ => ?_) l.length 0 0 (by omega) (by omega) trivial
    · have w1 : Aside0 (wrap64 ((i : Int) + 1) = (i : Int) + 1) := ⟨wrap_id (by omega) (by omega)⟩
      refine ev_tail ?_
      simp only [spec_PitchAt.l0]
      refine ev_pos (by omega) (Ev.bind hs (ev_tail ?_))
      simp only [spec_PitchAt.j1, w1.out]
      refine ev_pos (by trivial) (ev_pos (by omega) (ev_pos (by omega) ?_))
      unfold pitSt sounds at e
      refine ev_ite (fun c1 => ev_ite (fun c2 => ev_ite (fun c3 => ?_) (fun c3 => ?_)) (fun c2 => ?_)) (fun c1 => ?_)
      · rw [if_pos ⟨c1, by simpa using ⟨c2, c3⟩⟩] at e; exact e
      · rw [if_neg (fun z => c3 (by simpa using (of_decide_eq_true z.2).2))] at e; exact e
      · rw [if_neg (fun z => c2 (of_decide_eq_true z.2).1)] at e; exact e
      · rw [if_neg (fun z => c1 z.1)] at e; exact e
    · refine ev_tail ?_
      simp only [spec_PitchAt.l0]
      refine ev_neg (by omega) (ev_tail ?_)
      simp only [spec_PitchAt.j1]
      exact ev_neg (by simp) (Ev.now _)
  · rw [if_neg hsc]
    rw [Bool.eq_false_iff.mpr hsc] at hs
    refine ev_tail ?_
    simp only [spec_PitchAt.l0]
    refine ev_ite (fun _ => Ev.bind hs (ev_tail ?_)) (fun _ => ev_tail ?_)
    · simp only [spec_PitchAt.j1]
      exact ev_neg (by simp) (Ev.now _)
    · simp only [spec_PitchAt.j1]
      exact ev_neg (by simp) (Ev.now _)
theorem implPitchAt_ev (l : List S81) (v t : Int) (h : l.length ≤ 1048576) : Ev (fun k => impl_PitchAt.f k l v t) (pitchM l v t) := by
  simp only [impl_PitchAt.f, pitchM]
  refine Ev.bind (implIsScore_ev l h) (ev_ite (fun hsc => ?_) (fun hsc => ?_))
  · rw [if_pos hsc]
    refine ev_fold (L := fun k p i => impl_PitchAt.l0 k v t p l (l.length : Int) i) (st := pitSt l v t) (fin := id) (n := l.length) (s0 := 0) (fun _ _ => True) (fun _ _ _ _ _ => trivial) (fun i p _ hi _ r e => ?_) (fun p _ => ?_) l.length 0 0 (by omega) (by omega) trivial
    · have w1 : Aside0 (wrap64 ((i : Int) + 1) = (i : Int) + 1) := ⟨wrap_id (by omega) (by omega)⟩
      refine ev_tail ?_
      simp only [impl_PitchAt.l0, sounds_eq, Option.bind_some, w1.out]
      refine ev_pos (by omega) (ev_pos (by omega) (ev_pos (by omega) ?_))
      unfold pitSt at e
      refine ev_ite (fun c1 => ev_ite (fun c2 => ?_) (fun c2 => ?_)) (fun c1 => ?_)
      · rw [if_pos ⟨c1, c2⟩] at e; exact e
      · rw [if_neg (fun z => c2 z.2)] at e; exact e
      · rw [if_neg (fun z => c1 z.1)] at e; exact e
    · refine ev_tail ?_
      simp only [impl_PitchAt.l0]
      exact ev_neg (by omega) (Ev.now _)
  · rw [if_neg hsc]
    exact Ev.now _

theorem l4Abs_eq (a : Int) (h : -9223372036854775807 ≤ a) (h2 : a ≤ 9223372036854775807) : spec_l4Abs.f a = some ((a.natAbs : Nat) : Int) := by
  unfold spec_l4Abs.f
  by_cases h0 : a < 0
  · rw [if_pos h0, wrap_id (by omega) (by omega)]; congr 1; omega
  · rw [if_neg h0]; congr 1; omega

theorem foldM_inv {σ : Type} (st : Int → σ → σ) (I : σ → Prop) (n : Nat) (h : ∀ (i : Nat) (s : σ), i < n → I s → I (st (i : Int) s)) : ∀ (d i : Nat) (s : σ), i + d = n → I s → I (foldM st d i s) := by
  intro d
  induction d with
  | zero => intro i s _ hs; exact hs
  | succ d ih => intro i s hi hs; exact ih (i + 1) _ (by omega) (h i s (by omega) hs)
theorem score_at {l : List S81} (h : scoreM l = true) (i : Nat) (hi : i < l.length) : evOK (rd_T81 l (i : Int)) = true := by
  unfold scoreM at h
  rw [allF_iff] at h
  have := h.2 i (by omega) (by omega)
  unfold scC at this
  rw [Bool.and_eq_true] at this
  exact this.1

theorem pitchM_bound (l : List S81) (v t : Int) : 0 ≤ pitchM l v t ∧ pitchM l v t ≤ 108 := by
  unfold pitchM
  split
  · rename_i h
    refine foldM_inv (pitSt l v t) (fun p => 0 ≤ p ∧ p ≤ 108) l.length (fun i s hi hs => ?_) l.length 0 0 (by omega) (by omega)
    have he := score_at h i hi
    simp only [evOK, decide_eq_true_eq] at he
    unfold pitSt
    split
    · show 0 ≤ _ ∧ _ ≤ 108
      omega
    · exact hs
  · omega

def dist (a b : Int) : Int := Int.tmod (((a - b).natAbs : Nat) : Int) 12
def parB (a b c d : Int) : Bool := decide (0 < a ∧ 0 < b ∧ 0 < c ∧ 0 < d ∧ ((a < c ∧ b < d) ∨ (c < a ∧ d < b)) ∧ dist a b = dist c d ∧ (dist a b = 0 ∨ dist a b = 7))
theorem mx_dist {a b : Int} (ha : 0 ≤ a ∧ a ≤ 108) (hb : 0 ≤ b ∧ b ≤ 108) : Int.tmod (mx (wrap64 (a - b)) (wrap64 (b - a))) 12 = dist a b := by
  unfold dist
  rw [wrap_id (by omega) (by omega), wrap_id (by omega) (by omega), mx_eq]
  congr 1
  omega
theorem isParallel_eq {a b c d : Int} (ha : 0 ≤ a ∧ a ≤ 108) (hb : 0 ≤ b ∧ b ≤ 108) (hc : 0 ≤ c ∧ c ≤ 108) (hd : 0 ≤ d ∧ d ≤ 108) : impl_isParallel.f a b c d = some (parB a b c d) := by
  unfold impl_isParallel.f
  rw [mx_dist ha hb, mx_dist hc hd]
  have no : ∀ {p : Prop} [Decidable p], ¬ p → some false = some (decide p) := fun h => by rw [decide_eq_false h]
  have end_ : (¬ ¬ dist a b = dist c d) → (0 < a ∧ 0 < b ∧ 0 < c ∧ 0 < d) → ((a < c ∧ b < d) ∨ (c < a ∧ d < b)) → (if dist a b = 0 then some true else some (dist a b == 7)) = some (parB a b c d) := by
    intro h1 h2 h3
    have h4 : dist a b = dist c d := Decidable.not_not.1 h1
    by_cases h5 : dist a b = 0
    · rw [if_pos h5]
      unfold parB
      rw [decide_eq_true ⟨h2.1, h2.2.1, h2.2.2.1, h2.2.2.2, h3, h4, .inl h5⟩]
    · rw [if_neg h5]
      unfold parB
      by_cases h6 : dist a b = 7
      · rw [decide_eq_true ⟨h2.1, h2.2.1, h2.2.2.1, h2.2.2.2, h3, h4, .inr h6⟩, h6]; rfl
      · rw [decide_eq_false (fun z => by rcases z.2.2.2.2.2.2 with y | y <;> omega)]
        congr 1
        simpa using h6
  by_cases p1 : a > 0
  · by_cases p2 : b > 0
    · by_cases p3 : c > 0
      · by_cases p4 : d > 0
        · rw [if_pos p1, if_pos p2, if_pos p3, if_pos p4]
          have up : (c > a ∧ d > b) → (if dist a b = dist c d then (if dist a b = 0 then some true else some (dist a b == 7)) else some false) = some (parB a b c d) := fun h => by
            by_cases e : dist a b = dist c d
            · rw [if_pos e]; exact end_ (fun z => z e) ⟨p1, p2, p3, p4⟩ (.inl ⟨h.1, h.2⟩)
            · rw [if_neg e]; exact no (fun z => e z.2.2.2.2.2.1)
          have dn : (c < a ∧ d < b) → (if dist a b = dist c d then (if dist a b = 0 then some true else some (dist a b == 7)) else some false) = some (parB a b c d) := fun h => by
            by_cases e : dist a b = dist c d
            · rw [if_pos e]; exact end_ (fun z => z e) ⟨p1, p2, p3, p4⟩ (.inr ⟨h.1, h.2⟩)
            · rw [if_neg e]; exact no (fun z => e z.2.2.2.2.2.1)
          have dn2 : (if c < a then (if d < b then (if dist a b = dist c d then (if dist a b = 0 then some true else some (dist a b == 7)) else some false) else some false) else some false) = some (decide (0 < a ∧ 0 < b ∧ 0 < c ∧ 0 < d ∧ ((c < a ∧ d < b)) ∧ dist a b = dist c d ∧ (dist a b = 0 ∨ dist a b = 7))) := by
            by_cases q1 : c < a
            · by_cases q2 : d < b
              · rw [if_pos q1, if_pos q2, dn ⟨q1, q2⟩]
                unfold parB
                refine congrArg some (decide_eq_decide.2 ?_)
                constructor
                · rintro ⟨z1, z2, z3, z4, z5, z6⟩; exact ⟨z1, z2, z3, z4, ⟨q1, q2⟩, z6⟩
                · rintro ⟨z1, z2, z3, z4, z5, z6⟩; exact ⟨z1, z2, z3, z4, .inr z5, z6⟩
              · rw [if_pos q1, if_neg q2]; exact no (fun z => q2 z.2.2.2.2.1.2)
            · rw [if_neg q1]; exact no (fun z => q1 z.2.2.2.2.1.1)
          have fin : ¬ (a < c ∧ b < d) → some (decide (0 < a ∧ 0 < b ∧ 0 < c ∧ 0 < d ∧ ((c < a ∧ d < b)) ∧ dist a b = dist c d ∧ (dist a b = 0 ∨ dist a b = 7))) = some (parB a b c d) := fun h => by
            unfold parB
            refine congrArg some (decide_eq_decide.2 ?_)
            constructor
            · rintro ⟨z1, z2, z3, z4, z5, z6⟩; exact ⟨z1, z2, z3, z4, .inr z5, z6⟩
            · rintro ⟨z1, z2, z3, z4, z5, z6⟩; exact ⟨z1, z2, z3, z4, z5.resolve_left h, z6⟩
          by_cases q1 : c > a
          · by_cases q2 : d > b
            · rw [if_pos q1, if_pos q2]; exact up ⟨q1, q2⟩
            · rw [if_pos q1, if_neg q2, dn2]; exact fin (fun z => q2 z.2)
          · rw [if_neg q1, dn2]; exact fin (fun z => q1 z.1)
        · rw [if_pos p1, if_pos p2, if_pos p3, if_neg p4]; exact no (fun z => p4 z.2.2.2.1)
      · rw [if_pos p1, if_pos p2, if_neg p3]; exact no (fun z => p3 z.2.2.1)
    · rw [if_pos p1, if_neg p2]; exact no (fun z => p2 z.2.1)
  · rw [if_neg p1]; exact no (fun z => p1 z.1)
/-- The times behind the first one at which two voices have gone on in parallel. -/
def parGo (l : List S81) (u v : Int) : Int → List Int → List Int
  | _, [] => []
  | x, y :: t => (if parB (pitchM l u x) (pitchM l v x) (pitchM l u y) (pitchM l v y) = true then [y] else []) ++ parGo l u v y t
def paraM (l : List S81) (u v : Int) : List Int := match onsetsM l u v with
  | [] => []
  | x :: t => parGo l u v x t
theorem parGo_length (l : List S81) (u v : Int) (t : List Int) : ∀ x, (parGo l u v x t).length ≤ t.length := by
  induction t with
  | nil => intro x; simp [parGo]
  | cons y t ih =>
    intro x
    have := ih y
    simp only [parGo, List.length_append, List.length_cons]
    split <;> simp <;> omega
theorem paraM_length (l : List S81) (u v : Int) : (paraM l u v).length ≤ l.length := by
  have h := (onsetsM_facts l u v).1
  unfold paraM
  split
  · simp
  · rename_i x t e
    rw [e] at h
    have := parGo_length l u v t x
    simp only [List.length_cons] at h
    omega
theorem rd_mid1 (pre : List Int) (x y : Int) (suf : List Int) : rd (pre ++ x :: y :: suf) ((pre.length + 1 : Nat) : Int) = y := by
  rw [snoc_cons, ← length_snoc pre x]; exact rd_mid (pre ++ [x]) y suf
theorem implPar_l0 (l : List S81) (u v : Int) (hl : l.length ≤ 1048576) (suf : List Int) : ∀ (pre out : List Int) (x : Int), (pre ++ x :: suf).length ≤ 1048576 → out.length ≤ pre.length → Ev (fun k => impl_ParallelsIn.l0 k l u v out (pre ++ x :: suf) ((pre.length + 1 : Nat) : Int)) (out ++ parGo l u v x suf) := by
  induction suf with
  | nil =>
    intro pre out x h ho
    refine ev_tail ?_
    simp only [impl_ParallelsIn.l0]
    exact ev_neg (by simp) (ev_eq (Ev.now _) (by simp [parGo]))
  | cons y t ih =>
    intro pre out x h ho
    have e0 := ih (pre ++ [x]) out y (by simpa using h) (by simp; omega)
    have e1 := ih (pre ++ [x]) (out ++ [y]) y (by simpa using h) (by simp; omega)
    simp only [List.length_append, List.length_cons] at h
    rw [List.append_assoc, List.singleton_append, length_snoc] at e0 e1
    have b1 := pitchM_bound l u x
    have b2 := pitchM_bound l v x
    have b3 := pitchM_bound l u y
    have b4 := pitchM_bound l v y
    have w1 : Aside0 (wrap64 (((pre.length + 1 : Nat) : Int) - 1) = (pre.length : Int)) := ⟨by rw [wrap_pred (by omega) (by omega)]; simp⟩
    have w2 : Aside0 (wrap64 (((pre.length + 1 : Nat) : Int) + 1) = ((pre.length + 1 + 1 : Nat) : Int)) := ⟨wrap_succ (by omega)⟩
    refine ev_tail ?_
    simp only [impl_ParallelsIn.l0]
    rw [w1.out, w2.out, rd_mid, rd_mid1]
    refine ev_pos (by simp; omega) (ev_pos (by omega) (ev_pos (by simp; omega) ?_))
    refine Ev.bind (implPitchAt_ev l u x hl) (Ev.bind (implPitchAt_ev l v x hl) (ev_pos (by omega) ?_))
    refine Ev.bind (implPitchAt_ev l u y hl) (Ev.bind (implPitchAt_ev l v y hl) (ev_val (isParallel_eq b1 b2 b3 b4) ?_))
    simp only [parGo]
    refine ev_ite (fun c => ?_) (fun c => ?_)
    · rw [if_pos c, ← List.append_assoc]
      exact ev_pos (by omega) e1
    · rw [if_neg c, List.nil_append]
      exact e0
theorem implParallels_ev (l : List S81) (u v : Int) (hl : l.length ≤ 1048576) : Ev (fun k => impl_ParallelsIn.f k l u v) (paraM l u v) := by
  simp only [impl_ParallelsIn.f]
  have h := (onsetsM_facts l u v).1
  refine Ev.bind (implOnsets_ev l u v hl) ?_
  unfold paraM
  split
  · rename_i e
    rw [e]
    refine ev_tail ?_
    simp only [impl_ParallelsIn.l0]
    exact ev_neg (by simp) (Ev.now _)
  · rename_i x t e
    rw [e] at h ⊢
    exact implPar_l0 l u v hl t [] [] x (by simp only [List.nil_append]; omega) (by simp)
theorem dist_abs (a b : Int) : Int.tmod (((a - b).natAbs : Nat) : Int) 12 = dist a b := rfl
theorem specPar_l0 (l : List S81) (u v : Int) (hl : l.length ≤ 1048576) (suf : List Int) : ∀ (pre out : List Int) (x : Int), (pre ++ x :: suf).length ≤ 1048576 → out.length ≤ pre.length → Ev (fun k => spec_ParallelsIn.l0 k l u v out (pre ++ x :: suf) ((pre.length + 1 : Nat) : Int)) (out ++ parGo l u v x suf) := by
  induction suf with
  | nil =>
    intro pre out x h ho
    refine ev_tail ?_
    simp only [spec_ParallelsIn.l0]
    exact ev_neg (by simp) (ev_eq (Ev.now _) (by simp [parGo]))
  | cons y t ih =>
    intro pre out x h ho
    have e0 := ih (pre ++ [x]) out y (by simpa using h) (by simp; omega)
    have e1 := ih (pre ++ [x]) (out ++ [y]) y (by simpa using h) (by simp; omega)
    simp only [List.length_append, List.length_cons] at h
    rw [List.append_assoc, List.singleton_append, length_snoc] at e0 e1
    have b1 := pitchM_bound l u x
    have b2 := pitchM_bound l v x
    have b3 := pitchM_bound l u y
    have b4 := pitchM_bound l v y
    have w1 : Aside0 (wrap64 (((pre.length + 1 : Nat) : Int) - 1) = (pre.length : Int)) := ⟨by rw [wrap_pred (by omega) (by omega)]; simp⟩
    have w2 : Aside0 (wrap64 (((pre.length + 1 : Nat) : Int) + 1) = ((pre.length + 1 + 1 : Nat) : Int)) := ⟨wrap_succ (by omega)⟩
    refine ev_tail ?_
    simp only [spec_ParallelsIn.l0]
    rw [w1.out, w2.out, rd_mid, rd_mid1]
    refine ev_pos (by simp; omega) (ev_pos (by omega) (ev_pos (by simp; omega) ?_))
    refine Ev.bind (specPitchAt_ev l u x hl) (Ev.bind (specPitchAt_ev l v x hl) (ev_pos (by omega) ?_))
    refine Ev.bind (specPitchAt_ev l u y hl) (Ev.bind (specPitchAt_ev l v y hl) ?_)
    rw [wrap_id (n := pitchM l u x - pitchM l v x) (by omega) (by omega), wrap_id (n := pitchM l u y - pitchM l v y) (by omega) (by omega)]
    refine ev_val (l4Abs_eq _ (by omega) (by omega)) ?_
    simp only [parGo]
    generalize pitchM l u x = a at b1 ⊢
    generalize pitchM l v x = b at b2 ⊢
    generalize pitchM l u y = c at b3 ⊢
    generalize pitchM l v y = d at b4 ⊢
    have hs : parB a b c d = false → Ev (fun k => spec_ParallelsIn.l0 k l u v out (pre ++ x :: y :: t) ((pre.length + 1 + 1 : Nat) : Int)) (out ++ ((if parB a b c d = true then [y] else []) ++ parGo l u v y t)) := fun hb => by
      rw [hb]; exact e0
    have ha : parB a b c d = true → Ev (fun k => spec_ParallelsIn.l0 k l u v (out ++ [y]) (pre ++ x :: y :: t) ((pre.length + 1 + 1 : Nat) : Int)) (out ++ ((if parB a b c d = true then [y] else []) ++ parGo l u v y t)) := fun hb => by
      rw [hb, if_pos rfl, ← List.append_assoc]; exact e1
    refine ev_ite (fun c1 => ?_) (fun c1 => ?_)
    · have hn := hs (decide_eq_false (fun z => by have := z.2.2.2.2.1; omega))
      exact ev_ite (fun _ => ev_ite (fun _ => ev_ite (fun _ => ev_ite (fun _ => hn) (fun _ => hn)) (fun _ => hn)) (fun _ => hn)) (fun _ => hn)
    refine ev_ite (fun c2 => ?_) (fun c2 => ?_)
    · have hn := hs (decide_eq_false (fun z => by have := z.2.2.2.2.1; omega))
      exact ev_ite (fun _ => ev_ite (fun _ => ev_ite (fun _ => ev_ite (fun _ => hn) (fun _ => hn)) (fun _ => hn)) (fun _ => hn)) (fun _ => hn)
    refine ev_ite (fun p1 => ?_) (fun p1 => hs (decide_eq_false (fun z => p1 z.1)))
    refine ev_ite (fun p2 => ?_) (fun p2 => hs (decide_eq_false (fun z => p2 z.2.1)))
    refine ev_ite (fun p3 => ?_) (fun p3 => hs (decide_eq_false (fun z => p3 z.2.2.1)))
    refine ev_ite (fun p4 => ?_) (fun p4 => hs (decide_eq_false (fun z => p4 z.2.2.2.1)))
    refine ev_ite (fun m => ?_) (fun m => hs (decide_eq_false (fun z => ?_)))
    · have m2 : (c > a ↔ d > b) := by simpa using m
      have mv : (a < c ∧ b < d) ∨ (c < a ∧ d < b) := by omega
      rw [dist_abs]
      refine ev_ite (fun s => ?_) (fun s => ?_)
      · refine ev_val (l4Abs_eq _ (by omega) (by omega)) ?_
        rw [dist_abs]
        refine ev_ite (fun q => ?_) (fun q => hs (decide_eq_false (fun z => q z.2.2.2.2.2.1.symm)))
        exact ev_pos (by omega) (ha (decide_eq_true ⟨p1, p2, p3, p4, mv, q.symm, .inr s⟩))
      · refine ev_ite (fun s2 => ?_) (fun s2 => hs (decide_eq_false (fun z => z.2.2.2.2.2.2.elim s2 s)))
        refine ev_val (l4Abs_eq _ (by omega) (by omega)) ?_
        rw [dist_abs]
        refine ev_ite (fun q => ?_) (fun q => hs (decide_eq_false (fun z => q z.2.2.2.2.2.1.symm)))
        exact ev_pos (by omega) (ha (decide_eq_true ⟨p1, p2, p3, p4, mv, q.symm, .inl s2⟩))
    · apply m
      have := z.2.2.2.2.1
      rw [beq_iff_eq, decide_eq_decide]
      omega
theorem specParallels_ev (l : List S81) (u v : Int) (hl : l.length ≤ 1048576) : Ev (fun k => spec_ParallelsIn.f k l u v) (paraM l u v) := by
  simp only [spec_ParallelsIn.f]
  have h := (onsetsM_facts l u v).1
  refine Ev.bind (specOnsets_ev l u v hl) ?_
  unfold paraM
  split
  · rename_i e
    rw [e]
    refine ev_tail ?_
    simp only [spec_ParallelsIn.l0]
    exact ev_neg (by simp) (Ev.now _)
  · rename_i x t e
    rw [e] at h ⊢
    exact specPar_l0 l u v hl t [] [] x (by simp only [List.nil_append]; omega) (by simp)

def crossB (l : List S81) (u v t : Int) : Bool := decide (0 < pitchM l u t ∧ 0 < pitchM l v t ∧ pitchM l u t < pitchM l v t)
def crossM (l : List S81) (u v : Int) : List Int := (onsetsM l u v).filter (crossB l u v)
theorem crossM_length (l : List S81) (u v : Int) : (crossM l u v).length ≤ l.length := Nat.le_trans (List.length_filter_le _ _) (onsetsM_facts l u v).1
theorem specCross_l0 (l : List S81) (u v : Int) (hl : l.length ≤ 1048576) (suf : List Int) : ∀ (pre out : List Int), (pre ++ suf).length ≤ 1048576 → out.length ≤ pre.length → Ev (fun k => spec_CrossingsIn.l0 k l u v out (pre ++ suf) (pre.length : Int)) (out ++ suf.filter (crossB l u v)) := by
  induction suf with
  | nil =>
    intro pre out h ho
    refine ev_tail ?_
    simp only [spec_CrossingsIn.l0]
    exact ev_neg (by simp) (ev_eq (Ev.now _) (by simp))
  | cons x t ih =>
    intro pre out h ho
    have e0 := ih (pre ++ [x]) out (by simpa using h) (by simp; omega)
    have e1 := ih (pre ++ [x]) (out ++ [x]) (by simpa using h) (by simp; omega)
    simp only [List.length_append, List.length_cons] at h
    rw [List.append_assoc, List.singleton_append, length_snoc] at e0 e1
    refine ev_tail ?_
    simp only [spec_CrossingsIn.l0]
    refine ev_pos (by simp; omega) (ev_pos (by omega) ?_)
    rw [rd_mid, wrap_succ (by omega)]
    refine Ev.bind (specPitchAt_ev l u x hl) (Ev.bind (specPitchAt_ev l v x hl) ?_)
    have skip : crossB l u v x = false → Ev (fun k => spec_CrossingsIn.l0 k l u v out (pre ++ x :: t) ((pre.length + 1 : Nat) : Int)) (out ++ (x :: t).filter (crossB l u v)) := fun hb => by
      refine ev_eq e0 ?_
      rw [List.filter_cons, hb]; rfl
    have app : crossB l u v x = true → Ev (fun k => spec_CrossingsIn.l0 k l u v (out ++ [x]) (pre ++ x :: t) ((pre.length + 1 : Nat) : Int)) (out ++ (x :: t).filter (crossB l u v)) := fun hb => by
      refine ev_eq e1 ?_
      rw [List.filter_cons, hb, if_pos rfl, List.append_assoc, List.singleton_append]
    refine ev_ite (fun c1 => ev_ite (fun c2 => ev_ite (fun c3 => ?_) (fun c3 => ?_)) (fun c2 => ?_)) (fun c1 => ?_)
    · exact ev_pos (by omega) (app (decide_eq_true ⟨c1, c2, c3⟩))
    · exact skip (decide_eq_false (fun z => c3 z.2.2))
    · exact skip (decide_eq_false (fun z => c2 z.2.1))
    · exact skip (decide_eq_false (fun z => c1 z.1))
theorem specCrossings_ev (l : List S81) (u v : Int) (hl : l.length ≤ 1048576) : Ev (fun k => spec_CrossingsIn.f k l u v) (crossM l u v) := by
  simp only [spec_CrossingsIn.f]
  have := (onsetsM_facts l u v).1
  refine Ev.bind (specOnsets_ev l u v hl) ?_
  exact specCross_l0 l u v hl (onsetsM l u v) [] [] (by rw [List.nil_append]; omega) (by simp)
theorem implCross_l0 (l : List S81) (u v : Int) (hl : l.length ≤ 1048576) (suf : List Int) : ∀ (pre out : List Int), (pre ++ suf).length ≤ 1048576 → out.length ≤ pre.length → Ev (fun k => impl_CrossingsIn.l0 k l u v out (pre ++ suf) ((pre ++ suf).length : Int) (pre.length : Int)) (out ++ suf.filter (crossB l u v)) := by
  induction suf with
  | nil =>
    intro pre out h ho
    refine ev_tail ?_
    simp only [impl_CrossingsIn.l0]
    exact ev_neg (by simp) (ev_eq (Ev.now _) (by simp))
  | cons x t ih =>
    intro pre out h ho
    have e0 := ih (pre ++ [x]) out (by simpa using h) (by simp; omega)
    have e1 := ih (pre ++ [x]) (out ++ [x]) (by simpa using h) (by simp; omega)
    rw [List.append_assoc, List.singleton_append, length_snoc] at e0 e1
    have hn : ((pre ++ x :: t).length : Int) = (pre.length : Int) + t.length + 1 := by simp only [List.length_append, List.length_cons]; omega
    generalize hg : ((pre ++ x :: t).length : Int) = n at e0 e1 hn ⊢
    simp only [List.length_append, List.length_cons] at h
    refine ev_tail ?_
    simp only [impl_CrossingsIn.l0]
    refine ev_pos (by omega) (ev_pos (by omega) (ev_pos (by simp; omega) ?_))
    rw [rd_mid, wrap_succ (by omega)]
    refine Ev.bind (implPitchAt_ev l u x hl) (Ev.bind (implPitchAt_ev l v x hl) ?_)
    have skip : crossB l u v x = false → Ev (fun k => impl_CrossingsIn.l0 k l u v out (pre ++ x :: t) n ((pre.length + 1 : Nat) : Int)) (out ++ (x :: t).filter (crossB l u v)) := fun hb => by
      refine ev_eq e0 ?_
      rw [List.filter_cons, hb]; rfl
    have app : crossB l u v x = true → Ev (fun k => impl_CrossingsIn.l0 k l u v (out ++ [x]) (pre ++ x :: t) n ((pre.length + 1 : Nat) : Int)) (out ++ (x :: t).filter (crossB l u v)) := fun hb => by
      refine ev_eq e1 ?_
      rw [List.filter_cons, hb, if_pos rfl, List.append_assoc, List.singleton_append]
    refine ev_ite (fun c1 => ev_ite (fun c2 => ev_ite (fun c3 => ?_) (fun c3 => ?_)) (fun c2 => ?_)) (fun c1 => ?_)
    · exact ev_pos (by omega) (app (decide_eq_true ⟨c1, c2, c3⟩))
    · exact skip (decide_eq_false (fun z => c3 z.2.2))
    · exact skip (decide_eq_false (fun z => c2 z.2.1))
    · exact skip (decide_eq_false (fun z => c1 z.1))
theorem implCrossings_ev (l : List S81) (u v : Int) (hl : l.length ≤ 1048576) : Ev (fun k => impl_CrossingsIn.f k l u v) (crossM l u v) := by
  simp only [impl_CrossingsIn.f]
  have := (onsetsM_facts l u v).1
  refine Ev.bind (implOnsets_ev l u v hl) ?_
  exact implCross_l0 l u v hl (onsetsM l u v) [] [] (by rw [List.nil_append]; omega) (by simp)

/-- The events of one voice, in order. -/
def voiceM (l : List S81) (u : Int) : List S81 := l.filter fun e => !(e.f3 != u)
theorem voiceM_length (l : List S81) (u : Int) : (voiceM l u).length ≤ l.length := List.length_filter_le _ _
def voSt (l : List S81) (u : Int) (i : Int) (out : List S81) : List S81 := if (rd_T81 l i).f3 = u then out ++ [rd_T81 l i] else out
theorem voiceM_fold (l : List S81) (u : Int) : foldM (voSt l u) l.length 0 [] = voiceM l u := by
  have h := foldM_all (fun (x : S81) (s : List S81) => if x.f3 = u then s ++ [x] else s) z81 l []
  refine h.trans ?_
  have g : ∀ (t out : List S81), t.foldl (fun (s : List S81) x => if x.f3 = u then s ++ [x] else s) out = out ++ voiceM t u := by
    intro t
    induction t with
    | nil => intro out; simp [voiceM]
    | cons x t ih =>
      intro out
      rw [List.foldl_cons, ih]
      unfold voiceM
      by_cases hx : x.f3 = u
      · simp [hx]
      · simp [hx]
  rw [g, List.nil_append]
theorem specVoiceOf_ev (l : List S81) (u : Int) (h : l.length ≤ 1048576) : Ev (fun k => spec_VoiceOf.f k l u) (voiceM l u) := by
  simp only [spec_VoiceOf.f]
  rw [← voiceM_fold]
  refine ev_fold (L := fun k out i => spec_VoiceOf.l0 k l u out i) (st := voSt l u) (fin := id) (n := l.length) (s0 := 0) (fun i out => out.length ≤ i) (fun i out _ _ ho => ?_) (fun i out _ hi ho r e => ?_) (fun p _ => ?_) l.length 0 [] (by omega) (by omega) (by simp)
  · unfold voSt
    split
    · simp; omega
    · omega
  · refine ev_tail ?_
    simp only [spec_VoiceOf.l0]
    rw [wrap_id (n := (i : Int) + 1) (by omega) (by omega)]
    unfold voSt at e
    refine ev_pos (by omega) (ev_pos (by omega) (ev_ite (fun c => ev_pos (by omega) ?_) (fun c => ?_)))
    · rw [if_pos c] at e; exact e
    · rw [if_neg c] at e; exact e
  · refine ev_tail ?_
    simp only [spec_VoiceOf.l0]
    exact ev_neg (by omega) (Ev.now _)
theorem implVoiceOf_eq (l : List S81) (u : Int) (h : l.length ≤ 1048576) : impl_VoiceOf.f l u = some (voiceM l u) := by
  unfold impl_VoiceOf.f
  rw [if_pos (by omega)]
  rfl
theorem score_mem {l : List S81} (h : scoreM l = true) {e : S81} (he : e ∈ l) : evOK e = true := by
  obtain ⟨i, hi, rfl⟩ := List.getElem_of_mem he
  have := score_at h i hi
  have hr : rd_T81 l (i : Int) = l[i] := by simp [rd_T81, List.getD, List.getElem?_eq_getElem hi]
  rwa [hr] at this
theorem voice_at {l : List S81} (h : scoreM l = true) (u : Int) (i : Int) (h0 : 0 ≤ i) (hi : i < ((voiceM l u).length : Int)) : evOK (rd_T81 (voiceM l u) i) = true := by
  have hi' : i.toNat < (voiceM l u).length := by omega
  have hr : rd_T81 (voiceM l u) i = (voiceM l u)[i.toNat] := by simp [rd_T81, List.getD, List.getElem?_eq_getElem hi']
  rw [hr]
  exact score_mem h (List.mem_filter.1 (List.getElem_mem hi')).1

def leapSt (v : List S81) (m : Int) (i : Int) (out : List Int) : List Int := if ((((rd_T81 v i).f2 - (rd_T81 v (i - 1)).f2).natAbs : Nat) : Int) > m then out ++ [(rd_T81 v i).f0] else out
def leapsM (l : List S81) (u m : Int) : List Int := if scoreM l = true then foldM (leapSt (voiceM l u) m) ((voiceM l u).length - 1) 1 [] else []
theorem leap_length (v : List S81) (m : Int) (d : Nat) : ∀ (i : Nat) (out : List Int), (foldM (leapSt v m) d i out).length ≤ out.length + d := by
  induction d with
  | zero => intro i out; exact Nat.le_refl _
  | succ d ih =>
    intro i out
    have h := ih (i + 1) (leapSt v m (i : Int) out)
    have h2 : (leapSt v m (i : Int) out).length ≤ out.length + 1 := by
      unfold leapSt
      split
      · simp
      · omega
    simp only [foldM]
    omega
theorem leapsM_length (l : List S81) (u m : Int) : (leapsM l u m).length ≤ l.length := by
  unfold leapsM
  split
  · have h1 := leap_length (voiceM l u) m ((voiceM l u).length - 1) 1 []
    have h2 := voiceM_length l u
    have h3 : ([] : List Int).length = 0 := rfl
    omega
  · simp
theorem leap_inv (v : List S81) (m : Int) (i : Nat) (out : List Int) (ho : out.length ≤ i) : (leapSt v m (i : Int) out).length ≤ i + 1 := by
  unfold leapSt
  split
  · simp; omega
  · omega
theorem specLeaps_ev (l : List S81) (u m : Int) (h : l.length ≤ 1048576) : Ev (fun k => spec_LeapsIn.f k l u m) (leapsM l u m) := by
  simp only [spec_LeapsIn.f, leapsM]
  refine Ev.bind (specVoiceOf_ev l u h) ?_
  have hs := specIsScore_ev l h
  have hvl := voiceM_length l u
  by_cases hsc : scoreM l = true
  · rw [if_pos hsc]
    rw [hsc] at hs
    by_cases h0 : (voiceM l u).length = 0
    · rw [show (voiceM l u).length - 1 = 0 by omega]
      refine ev_tail ?_
      simp only [spec_LeapsIn.l0]
      refine ev_neg (by omega) (ev_tail ?_)
      simp only [spec_LeapsIn.j1]
      exact ev_neg (by simp) (Ev.now _)
    · refine ev_fold (L := fun k out i => spec_LeapsIn.l0 k l m out (voiceM l u) i) (st := leapSt (voiceM l u) m) (fin := id) (n := (voiceM l u).length) (s0 := 1) (fun i out => out.length ≤ i) (fun i out _ _ ho => leap_inv _ _ _ _ ho) (fun i out hi0 hi ho r e => ?_) (fun p _ => ?_) ((voiceM l u).length - 1) 1 [] (by omega) (by omega) (by simp)
      · have b1 := voice_at hsc u (i : Int) (by omega) (by omega)
        have b2 := voice_at hsc u ((i : Int) - 1) (by omega) (by omega)
        simp only [evOK, decide_eq_true_eq] at b1 b2
        have w1 : Aside0 (wrap64 ((i : Int) + 1) = (i : Int) + 1) := ⟨wrap_id (by omega) (by omega)⟩
        have w2 : Aside0 (wrap64 ((i : Int) - 1) = (i : Int) - 1) := ⟨wrap_id (by omega) (by omega)⟩
        refine ev_tail ?_
        simp only [spec_LeapsIn.l0]
        refine ev_pos (by omega) (Ev.bind hs (ev_tail ?_))
        simp only [spec_LeapsIn.j1, w1.out, w2.out]
        rw [wrap_id (n := (rd_T81 (voiceM l u) (i : Int)).f2 - (rd_T81 (voiceM l u) ((i : Int) - 1)).f2) (by omega) (by omega)]
        refine ev_pos (by trivial) (ev_pos (by omega) (ev_pos (by omega) (ev_pos (by omega) (ev_pos (by omega) ?_))))
        refine ev_val (l4Abs_eq _ (by omega) (by omega)) ?_
        unfold leapSt at e
        refine ev_ite (fun c => ev_pos (by omega) ?_) (fun c => ?_)
        · rw [if_pos c] at e; exact e
        · rw [if_neg c] at e; exact e
      · refine ev_tail ?_
        simp only [spec_LeapsIn.l0]
        refine ev_neg (by omega) (ev_tail ?_)
        simp only [spec_LeapsIn.j1]
        exact ev_neg (by simp) (Ev.now _)
  · rw [if_neg hsc]
    rw [Bool.eq_false_iff.mpr hsc] at hs
    refine ev_tail ?_
    simp only [spec_LeapsIn.l0]
    refine ev_ite (fun _ => Ev.bind hs (ev_tail ?_)) (fun _ => ev_tail ?_)
    · simp only [spec_LeapsIn.j1]
      exact ev_neg (by simp) (Ev.now _)
    · simp only [spec_LeapsIn.j1]
      exact ev_neg (by simp) (Ev.now _)
theorem mx_abs (a : Int) (h1 : -1000 ≤ a) (h2 : a ≤ 1000) : mx (wrap64 a) (wrap64 (-(wrap64 a))) = ((a.natAbs : Nat) : Int) := by
  rw [wrap_id (n := a) (by omega) (by omega), wrap_id (n := -a) (by omega) (by omega)]
  unfold mx
  split <;> omega
theorem implLeaps_ev (l : List S81) (u m : Int) (h : l.length ≤ 1048576) : Ev (fun k => impl_LeapsIn.f k l u m) (leapsM l u m) := by
  simp only [impl_LeapsIn.f, leapsM, Option.bind_some]
  have hs := implIsScore_ev l h
  have hvl := voiceM_length l u
  refine Ev.bind hs (ev_ite (fun hsc => ?_) (fun hsc => ?_))
  · rw [if_pos hsc]
    refine ev_val (implVoiceOf_eq l u h) ?_
    by_cases h0 : (voiceM l u).length = 0
    · rw [show (voiceM l u).length - 1 = 0 by omega]
      refine ev_tail ?_
      simp only [impl_LeapsIn.l0]
      exact ev_neg (by omega) (Ev.now _)
    · refine ev_fold (L := fun k out i => impl_LeapsIn.l0 k m out (voiceM l u) i) (st := leapSt (voiceM l u) m) (fin := id) (n := (voiceM l u).length) (s0 := 1) (fun i out => out.length ≤ i) (fun i out _ _ ho => leap_inv _ _ _ _ ho) (fun i out hi0 hi ho r e => ?_) (fun p _ => ?_) ((voiceM l u).length - 1) 1 [] (by omega) (by omega) (by simp)
      · have b1 := voice_at hsc u (i : Int) (by omega) (by omega)
        have b2 := voice_at hsc u ((i : Int) - 1) (by omega) (by omega)
        simp only [evOK, decide_eq_true_eq] at b1 b2
        have w1 : Aside0 (wrap64 ((i : Int) + 1) = (i : Int) + 1) := ⟨wrap_id (by omega) (by omega)⟩
        have w2 : Aside0 (wrap64 ((i : Int) - 1) = (i : Int) - 1) := ⟨wrap_id (by omega) (by omega)⟩
        refine ev_tail ?_
        simp only [impl_LeapsIn.l0, w1.out, w2.out]
        rw [mx_abs _ (by omega) (by omega)]
        refine ev_pos (by omega) (ev_pos (by omega) (ev_pos (by omega) (ev_pos (by omega) ?_)))
        unfold leapSt at e
        refine ev_ite (fun c => ev_pos (by omega) ?_) (fun c => ?_)
        · rw [if_pos c] at e; exact e
        · rw [if_neg c] at e; exact e
      · refine ev_tail ?_
        simp only [impl_LeapsIn.l0]
        exact ev_neg (by omega) (Ev.now _)
  · rw [if_neg hsc]; exact Ev.now _

def fk (m : Int) (t : Int) : S120 := ⟨m, t⟩
def faultsM (l : List S81) (u v : Int) : List S120 := ((paraM l u v).map (fk 1) ++ (crossM l u v).map (fk 2)) ++ (leapsM l u 12).map (fk 3)
theorem faultsM_length (l : List S81) (u v : Int) : (faultsM l u v).length ≤ 3 * l.length := by
  have h1 := paraM_length l u v
  have h2 := crossM_length l u v
  have h3 := leapsM_length l u 12
  unfold faultsM
  simp only [List.length_append, List.length_map]
  omega
theorem l21Add_l0 (m : Int) (suf : List Int) : ∀ (pre : List Int) (out : List S120), (pre ++ suf).length ≤ 1048576 → out.length ≤ 4194304 + pre.length → Ev (fun k => spec_l21Add.l0 k out m (pre ++ suf) (pre.length : Int)) (out ++ suf.map (fk m)) := by
  induction suf with
  | nil =>
    intro pre out h ho
    refine ev_tail ?_
    simp only [spec_l21Add.l0]
    exact ev_neg (by simp) (ev_eq (Ev.now _) (by simp))
  | cons x t ih =>
    intro pre out h ho
    have e := ih (pre ++ [x]) (out ++ [fk m x]) (by simpa using h) (by simp; omega)
    simp only [List.length_append, List.length_cons] at h
    rw [List.append_assoc, List.singleton_append, length_snoc, List.append_assoc, List.singleton_append] at e
    refine ev_tail ?_
    simp only [spec_l21Add.l0]
    refine ev_pos (by simp; omega) (ev_pos (by omega) (ev_pos (by omega) ?_))
    rw [rd_mid, wrap_succ (by omega)]
    exact e
theorem l21Add_ev (out : List S120) (m : Int) (l : List Int) (h : l.length ≤ 1048576) (ho : out.length ≤ 4194304) : Ev (fun k => spec_l21Add.f k out m l) (out ++ l.map (fk m)) := by
  simp only [spec_l21Add.f]
  exact l21Add_l0 m l [] out (by simpa using h) (by simpa using ho)
theorem specFaults_ev (l : List S81) (u v : Int) (hl : l.length ≤ 1048576) : Ev (fun k => spec_FaultsIn.f k l u v) (faultsM l u v) := by
  have h1 := paraM_length l u v
  have h2 := crossM_length l u v
  have h3 := leapsM_length l u 12
  have a1 := l21Add_ev [] 1 (paraM l u v) (by omega) (by simp)
  rw [List.nil_append] at a1
  have a2 := l21Add_ev ((paraM l u v).map (fk 1)) 2 (crossM l u v) (by omega) (by rw [List.length_map]; omega)
  have a3 := l21Add_ev ((paraM l u v).map (fk 1) ++ (crossM l u v).map (fk 2)) 3 (leapsM l u 12) (by omega) (by simp only [List.length_append, List.length_map]; omega)
  simp only [spec_FaultsIn.f]
  exact Ev.bind (specParallels_ev l u v hl) (Ev.bind a1 (Ev.bind (specCrossings_ev l u v hl) (Ev.bind a2 (Ev.bind (specLeaps_ev l u 12 hl) (Ev.bind a3 (Ev.now _))))))
theorem implFl_l1 (m i : Int) (g : List (List Int)) (n j : Int) (r : List S120) (hm : wrap64 (m + 1) = m + 1) (suf : List Int) : ∀ (pre : List Int) (out : List S120), (pre ++ suf).length ≤ 1048576 → out.length ≤ 4194304 + pre.length → Ev (fun k => impl_FaultsIn.l0 k (out ++ suf.map (fk (m + 1))) g n (wrap64 (j + 1))) r → Ev (fun k => impl_FaultsIn.l1 k out m g n j (pre ++ suf) ((pre ++ suf).length : Int) (pre.length : Int)) r := by
  induction suf with
  | nil =>
    intro pre out h ho e
    refine ev_tail ?_
    simp only [impl_FaultsIn.l1]
    exact ev_neg (by simp) (by simpa using e)
  | cons x t ih =>
    intro pre out h ho e
    have e := ih (pre ++ [x]) (out ++ [fk (m + 1) x]) (by simpa using h) (by simp; omega) (by simpa [List.append_assoc] using e)
    rw [List.append_assoc, List.singleton_append, length_snoc] at e
    have hn : ((pre ++ x :: t).length : Int) = (pre.length : Int) + t.length + 1 := by simp only [List.length_append, List.length_cons]; omega
    generalize hg : ((pre ++ x :: t).length : Int) = q at e hn ⊢
    simp only [List.length_append, List.length_cons] at h
    refine ev_tail ?_
    simp only [impl_FaultsIn.l1]
    refine ev_pos (by omega) (ev_pos (by omega) (ev_pos (by simp; omega) (ev_pos (by omega) ?_)))
    rw [rd_mid, wrap_succ (by omega), hm]
    exact e
theorem implFl_l0 (g : List (List Int)) (i : Int) (out : List S120) (xs : List Int) (r : List S120) (h0 : 0 ≤ i) (h1 : i < (g.length : Int)) (hb : i < 1000) (hr : rd_L4 g i = xs) (hx : xs.length ≤ 1048576) (ho : out.length ≤ 4194304) (e : Ev (fun k => impl_FaultsIn.l0 k (out ++ xs.map (fk (i + 1))) g (g.length : Int) (i + 1)) r) : Ev (fun k => impl_FaultsIn.l0 k out g (g.length : Int) i) r := by
  refine ev_tail ?_
  simp only [impl_FaultsIn.l0]
  refine ev_pos h1 (ev_pos h0 (ev_pos h1 ?_))
  rw [hr]
  exact implFl_l1 i i g (g.length : Int) i r (wrap_id (by omega) (by omega)) xs [] out (by simpa using hx) (by simpa using ho) (by rw [wrap_id (n := i + 1) (by omega) (by omega)]; exact e)
theorem implFaults_ev (l : List S81) (u v : Int) (hl : l.length ≤ 1048576) : Ev (fun k => impl_FaultsIn.f k l u v) (faultsM l u v) := by
  have h1 := paraM_length l u v
  have h2 := crossM_length l u v
  have h3 := leapsM_length l u 12
  simp only [impl_FaultsIn.f]
  refine Ev.bind (implParallels_ev l u v hl) (Ev.bind (implCrossings_ev l u v hl) (Ev.bind (implLeaps_ev l u 12 hl) (ev_val rfl ?_)))
  refine implFl_l0 _ 0 _ (paraM l u v) _ (by omega) (by simp) (by omega) rfl (by omega) (by simp) ?_
  refine implFl_l0 _ (0 + 1) _ (crossM l u v) _ (by omega) (by simp) (by omega) rfl (by omega) (by simp only [List.length_append, List.length_map, List.length_nil]; omega) ?_
  refine implFl_l0 _ (0 + 1 + 1) _ (leapsM l u 12) _ (by omega) (by simp) (by omega) rfl (by omega) (by simp only [List.length_append, List.length_map, List.length_nil]; omega) ?_
  refine ev_tail ?_
  simp only [impl_FaultsIn.l0]
  exact ev_neg (by simp) (ev_eq (Ev.now _) (by unfold faultsM; simp))

theorem FnExactFaultsIn : ∀ (l0 : List (S83)) (a1 : Int) (a2 : Int), (l0.length ≤ maxLen) → (∀ x ∈ l0, ((Lit.int .i64 x.f0).wf = true) ∧ ((Lit.int .i64 x.f1).wf = true) ∧ ((Lit.int .i64 x.f2).wf = true) ∧ ((Lit.int .i64 x.f3).wf = true)) → (Lit.int .i64 a1).wf = true → (Lit.int .i64 a2).wf = true → ∃ k, laws_FnExactFaultsIn.f k l0 a1 a2 = some true := by
  intro l a b hl _ _ _
  refine Ev.rounds ?_
  simp only [laws_FnExactFaultsIn.f]
  obtain ⟨r, hr, hb⟩ := szEventS_some l hl
  refine ev_val hr (ev_ite (fun _ => Ev.now _) (fun h => ?_))
  have hn := hb h
  have hm : (l.map cvEvent).length ≤ 1048576 := by rw [List.length_map]; exact hn
  have ho := faultsM_length (l.map cvEvent) a b
  have t1 := toEventS_ev l hn
  have e1 := eqFaultS_ev (faultsM (l.map cvEvent) a b) (by omega)
  have i1 := implFaults_ev (l.map cvEvent) a b hm
  have m1 := markFaultS_ev (faultsM (l.map cvEvent) a b) 1 (by omega) (by omega) (by omega)
  have d1 := heldFaultS_ev (faultsM (l.map cvEvent) a b).length 1 (by omega) (by omega) (by omega)
  refine Ev.bind t1 (Ev.bind (specFaults_ev _ a b hm) (Ev.bind t1 (Ev.bind i1 (Ev.bind e1 (ev_pos (by trivial) ?_)))))
  refine Ev.bind t1 (Ev.bind (eqEventS_ev _ hm) (ev_pos (by trivial) ?_))
  refine Ev.bind (markEventS_ev _ 1 (by omega) (by omega) (by omega)) (ev_neg (by simp; omega) (Ev.bind e1 (ev_tail ?_)))
  simp only [laws_FnExactFaultsIn.j0]
  refine ev_neg (by simp) (Ev.bind m1 (Ev.bind d1 (ev_neg (by omega) (ev_pos (by trivial) ?_))))
  exact Ev.bind t1 (Ev.bind i1 (Ev.bind e1 (ev_pos (by trivial) (Ev.bind d1 (ev_neg (by omega) (ev_pos (by trivial) (Ev.now _)))))))
end Go.Proofs.Ytlkcbmcbmanmiaa.Pure
