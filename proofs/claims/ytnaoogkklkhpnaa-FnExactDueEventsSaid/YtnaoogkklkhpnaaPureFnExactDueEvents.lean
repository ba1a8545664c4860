/-
DueEvents of the program and of the reference: the same answer.
Conditions: none.
-/
import Derived.Test.YtnaoogkklkhpnaaPFnExactDueEventsx5
import Derived.Test.YtnaoogkklkhpnaaBase
namespace Go.Proofs.Ytnaoogkklkhpnaa.Pure
open Go.RowKit Go.Proofs.Ytnaoogkklkhpnaa.PFnExactDueEvents Go.Proofs.YtnaoogkklkhpnaaW.PrintWords Go.Proofs.YtnaoogkklkhpnaaW.PrintLast Go.Proofs.YtnaoogkklkhpnaaW.PrintMore Go.Proofs.Ytnaoogkklkhpnaa.Base
set_option linter.unusedVariables false
set_option linter.unusedSimpArgs false

theorem l1In_eq (a b c : Int) : spec_l1In.f a b c = some (decide (b ≤ a ∧ a ≤ c)) := by
  unfold spec_l1In.f
  by_cases h1 : b ≤ a <;> by_cases h2 : a ≤ c <;> simp [h1, h2]
theorem InRange_eq (a b c : Int) : impl_InRange.f a b c = some (decide (b ≤ a ∧ a ≤ c)) := by
  unfold impl_InRange.f
  by_cases h1 : b ≤ a <;> by_cases h2 : a ≤ c <;> simp [h1, h2]

def cvEvent (x : S91) : S89 := ⟨x.f0, x.f1, x.f2, x.f3⟩
theorem rdLEvent (pre : List S91) (x : S91) (t : List S91) : rd_T91 (pre ++ x :: t) ((pre.length : Nat) : Int) = x := getD_mid pre x t z91
theorem rdIEvent (pre : List S89) (x : S89) (t : List S89) : rd_T89 (pre ++ x :: t) ((pre.length : Nat) : Int) = x := getD_mid pre x t z89
theorem toEventS_l0 (suf : List S91) : ∀ pre : List S91, (pre ++ suf).length ≤ 1048576 → Ev (fun k => laws_toEventS.l0 k (pre ++ suf) (pre.map cvEvent ++ List.replicate suf.length z89) (pre.length : Int)) ((pre ++ suf).map cvEvent) := by
  induction suf with
  | nil =>
    intro pre h
    refine ev_tail ?_
    simp only [laws_toEventS.l0]
    refine ev_neg (by simp) ?_
    exact ev_eq (Ev.now _) (by simp)
  | cons x t ih =>
    intro pre h
    have e := ih (pre ++ [x]) (by simpa using h)
    simp only [List.length_append, List.length_cons] at h
    refine ev_tail ?_
    simp only [laws_toEventS.l0, laws_toEvent.f, Option.bind_some]
    refine ev_pos (by simp; omega) (ev_pos (by omega) (ev_pos (by simp; omega) ?_))
    rw [rdLEvent, List.length_cons, List.replicate_succ]
    have e1 : (pre.map cvEvent ++ z89 :: List.replicate t.length z89).set ((pre.length : Nat) : Int).toNat (⟨x.f0, x.f1, x.f2, x.f3⟩ : S89) = (pre ++ [x]).map cvEvent ++ List.replicate t.length z89 := by
      simp [cvEvent]
    rw [e1, wrap_succ (by omega), snoc_cons pre x t, ← length_snoc pre x]
    exact e
theorem toEventS_ev (l : List S91) (h : l.length ≤ 1048576) : Ev (fun k => laws_toEventS.f k l) (l.map cvEvent) := by
  simp only [laws_toEventS.f]
  refine ev_pos (by omega) (ev_pos (by omega) ?_)
  exact toEventS_l0 l [] (by simpa using h)

theorem eqEventS_l0 (suf : List S89) : ∀ pre : List S89, (pre ++ suf).length ≤ 1048576 → Ev (fun k => laws_eqEventS.l0 k (pre ++ suf) (pre ++ suf) (pre.length : Int)) true := by
  induction suf with
  | nil =>
    intro pre h
    refine ev_tail ?_
    simp only [laws_eqEventS.l0]
    exact ev_neg (by simp) (Ev.now true)
  | cons x t ih =>
    intro pre h
    have e := ih (pre ++ [x]) (by simpa using h)
    simp only [List.length_append, List.length_cons] at h
    refine ev_tail ?_
    simp only [laws_eqEventS.l0, laws_eqEvent.f, if_true, Option.bind_some]
    refine ev_pos (by simp; omega) (ev_pos (by omega) (ev_pos (by simp; omega) ?_))
    rw [wrap_succ (by omega), snoc_cons pre x t, ← length_snoc pre x]
    exact e
theorem eqEventS_ev (l : List S89) (h : l.length ≤ 1048576) : Ev (fun k => laws_eqEventS.f k l l) true := by
  simp only [laws_eqEventS.f]
  refine ev_pos (by trivial) ?_
  exact eqEventS_l0 l [] (by simpa using h)

def marksEvent : Nat → Int → List S89
  | 0, _ => []
  | n + 1, m => ⟨m, m + 1, m + 1 + 1, m + 1 + 1 + 1⟩ :: marksEvent n (m + 1 + 1 + 1 + 1)
theorem marksEvent_length (n : Nat) : ∀ m, (marksEvent n m).length = n := by
  induction n with
  | zero => intro m; rfl
  | succ n ih => intro m; simp [marksEvent, ih]
theorem markEventS_l0 (suf : List S89) : ∀ (pre : List S89) (m : Int), (pre ++ suf).length ≤ 8388608 → 0 ≤ m → m ≤ 1099511627776 - 4 * suf.length → Ev (fun k => laws_markEventS.l0 k (pre ++ suf) m (pre.length : Int)) (m + 4 * suf.length, pre ++ marksEvent suf.length m) := by
  induction suf with
  | nil =>
    intro pre m h h0 h1
    refine ev_tail ?_
    simp only [laws_markEventS.l0]
    refine ev_neg (by simp) (ev_eq (Ev.now _) (by simp [marksEvent]))
  | cons y t ih =>
    intro pre m h h0 h1
    simp only [List.length_cons] at h1
    have e := ih (pre ++ [⟨m, m + 1, m + 1 + 1, m + 1 + 1 + 1⟩]) (m + 1 + 1 + 1 + 1) (by simpa using h) (by omega) (by omega)
    simp only [List.length_append, List.length_cons] at h
    refine ev_tail ?_
    simp only [laws_markEventS.l0, Option.bind_some, set_mid, rdIEvent]
    refine ev_pos (by simp; omega) (ev_pos (by omega) ?_)
    rw [wrap_id (n := m + 1) (by omega) (by omega), wrap_id (n := m + 1 + 1) (by omega) (by omega), wrap_id (n := m + 1 + 1 + 1) (by omega) (by omega), wrap_id (n := m + 1 + 1 + 1 + 1) (by omega) (by omega), wrap_succ (by omega), snoc_cons pre _ t, ← length_snoc pre (⟨m, m + 1, m + 1 + 1, m + 1 + 1 + 1⟩ : S89)]
    refine ev_eq e ?_
    simp only [marksEvent, List.length_cons, List.append_assoc, List.singleton_append]
    congr 1
    omega
theorem markEventS_ev (l : List S89) (m : Int) (h : l.length ≤ 8388608) (h0 : 0 ≤ m) (h1 : m ≤ 1099511627776 - 4 * l.length) : Ev (fun k => laws_markEventS.f k l m) (m + 4 * l.length, marksEvent l.length m) := by
  simp only [laws_markEventS.f]
  exact markEventS_l0 l [] m (by simpa using h) h0 h1

theorem heldEventS_l0 (n : Nat) : ∀ (pre : List S89) (m : Int), pre.length + n ≤ 8388608 → 0 ≤ m → m ≤ 1099511627776 - 4 * n → Ev (fun k => laws_heldEventS.l0 k (pre ++ marksEvent n m) m (pre.length : Int)) (m + 4 * n) := by
  induction n with
  | zero =>
    intro pre m h h0 h1
    refine ev_tail ?_
    simp only [laws_heldEventS.l0]
    refine ev_neg (by simp [marksEvent]) (ev_eq (Ev.now _) (by omega))
  | succ n ih =>
    intro pre m h h0 h1
    have e := ih (pre ++ [⟨m, m + 1, m + 1 + 1, m + 1 + 1 + 1⟩]) (m + 1 + 1 + 1 + 1) (by simp; omega) (by omega) (by omega)
    refine ev_tail ?_
    have hm : marksEvent (n + 1) m = ⟨m, m + 1, m + 1 + 1, m + 1 + 1 + 1⟩ :: marksEvent n (m + 1 + 1 + 1 + 1) := rfl
    rw [hm]
    simp only [laws_heldEventS.l0, rdIEvent]
    refine ev_pos (by simp [marksEvent_length]; omega) (ev_pos (by omega) ?_)
    rw [wrap_id (n := m + 1) (by omega) (by omega), wrap_id (n := m + 1 + 1) (by omega) (by omega), wrap_id (n := m + 1 + 1 + 1) (by omega) (by omega), wrap_id (n := m + 1 + 1 + 1 + 1) (by omega) (by omega), wrap_succ (by omega), snoc_cons pre _ (marksEvent n (m + 1 + 1 + 1 + 1)), ← length_snoc pre (⟨m, m + 1, m + 1 + 1, m + 1 + 1 + 1⟩ : S89)]
    simp only [if_true]
    exact ev_eq e (by omega)
theorem heldEventS_ev (n : Nat) (m : Int) (h : n ≤ 8388608) (h0 : 0 ≤ m) (h1 : m ≤ 1099511627776 - 4 * n) : Ev (fun k => laws_heldEventS.f k (marksEvent n m) m) (m + 4 * n) := by
  simp only [laws_heldEventS.f]
  exact heldEventS_l0 n [] m (by simpa using h) h0 h1

theorem szEventS_some (l : List S91) (h : l.length ≤ maxLen) : ∃ r, laws_szEventS.f l 1048576 = some r ∧ (¬ r < 0 → l.length ≤ 1048576) := by
  have hm : maxLen = 9223372036854775807 := rfl
  unfold laws_szEventS.f
  rw [wrap_id (by omega) (by omega)]
  by_cases h0 : (1048576 : Int) - (l.length : Int) < 0
  · exact ⟨-1, by rw [if_pos h0], fun h => absurd (by omega) h⟩
  · exact ⟨_, by rw [if_neg h0], fun _ => by omega⟩

def evOK (e : S89) : Bool := decide (0 ≤ e.f0 ∧ e.f0 ≤ 2000 ∧ 1 ≤ e.f1 ∧ e.f1 ≤ 96 ∧ 21 ≤ e.f2 ∧ e.f2 ≤ 108 ∧ 1 ≤ e.f3 ∧ e.f3 ≤ 4)
/-- In order: by At, then by Voice, then by Pitch. -/
def evLt (a b : S89) : Bool := decide (a.f0 < b.f0 ∨ (a.f0 = b.f0 ∧ (a.f3 < b.f3 ∨ (a.f3 = b.f3 ∧ a.f2 < b.f2))))
def scC (l : List S89) (i : Int) : Bool := evOK (rd_T89 l i) && (decide (i ≤ 0) || evLt (rd_T89 l (i - 1)) (rd_T89 l i))
def scoreM (l : List S89) : Bool := allF (scC l) (decide ((l.length : Int) ≤ 40)) l.length 0
theorem l8Ok_eq (e : S89) : spec_l8Ok.f e.f0 e.f1 e.f2 e.f3 = some (evOK e) := by
  simp only [spec_l8Ok.f, l1In_eq, Option.bind_some, evOK]
  by_cases h1 : 0 ≤ e.f0 ∧ e.f0 ≤ 2000 <;> by_cases h2 : 1 ≤ e.f1 ∧ e.f1 ≤ 96 <;> by_cases h3 : 21 ≤ e.f2 ∧ e.f2 ≤ 108 <;> simp [h1, h2, h3, and_assoc] <;> omega
theorem l8Before_eq (a b : S89) : spec_l8Before.f a.f0 a.f1 a.f2 a.f3 b.f0 b.f1 b.f2 b.f3 = some (evLt a b) := by
  simp only [spec_l8Before.f, evLt]
  by_cases h1 : a.f0 = b.f0
  · rw [if_pos h1]
    by_cases h2 : a.f3 = b.f3
    · rw [if_pos h2]; congr 1; exact decide_eq_decide.mpr (by omega)
    · rw [if_neg h2]; congr 1; exact decide_eq_decide.mpr (by omega)
  · rw [if_neg h1]; congr 1; exact decide_eq_decide.mpr (by omega)
theorem specIsScore_ev (l : List S89) (h : l.length ≤ 1048576) : Ev (fun k => spec_IsScore.f k l) (scoreM l) := by
  simp only [spec_IsScore.f]
  refine ev_all (L := fun k i => spec_IsScore.l0 k l i) (n := l.length) (fun i hi => ?_) ?_ l.length 0 (by omega)
  · have w1 : Aside0 (wrap64 ((i : Int) + 1) = (i : Int) + 1) := ⟨wrap_id (by omega) (by omega)⟩
    have w2 : Aside0 (wrap64 ((i : Int) - 1) = (i : Int) - 1) := ⟨wrap_id (by omega) (by omega)⟩
    constructor
    · intro hc r e
      simp only [scC, Bool.and_eq_true] at hc
      obtain ⟨h1, h2⟩ := hc
      refine ev_tail ?_
      simp only [spec_IsScore.l0, l8Ok_eq, l8Before_eq, Option.bind_some, w1.out, w2.out]
      refine ev_pos (by omega) (ev_pos (by omega) (ev_pos h1 (ev_ite (fun h0 => ?_) (fun _ => e))))
      rw [decide_eq_false (by omega), Bool.false_or] at h2
      exact ev_pos (by omega) (ev_pos (by omega) (ev_pos h2 e))
    · intro hc
      simp only [scC, Bool.and_eq_false_iff] at hc
      refine ev_tail ?_
      simp only [spec_IsScore.l0, l8Ok_eq, l8Before_eq, Option.bind_some, w1.out, w2.out]
      refine ev_pos (by omega) (ev_pos (by omega) (ev_ite (fun h1 => ?_) (fun _ => Ev.now _)))
      rcases hc with hc | hc
      · rw [hc] at h1; exact absurd h1 (by simp)
      · simp only [Bool.or_eq_false_iff, decide_eq_false_iff_not] at hc
        exact ev_pos (by omega) (ev_pos (by omega) (ev_pos (by omega) (ev_neg (by rw [hc.2]; simp) (Ev.now _))))
  · refine ev_tail ?_
    simp only [spec_IsScore.l0]
    exact ev_neg (by omega) (Ev.now _)
theorem cmp_eq (a b : Int) : cmp_Compare_int.f a b = some (if a < b then -1 else if a > b then 1 else 0) := by
  simp only [cmp_Compare_int.f, cmp_isNaN_int.f, Option.bind_some, bne_self_eq_false, Bool.false_eq_true, if_false]
  by_cases h1 : a < b
  · rw [if_pos h1, if_pos h1]
  · rw [if_neg h1, if_neg h1]
    by_cases h2 : a > b
    · rw [if_pos h2, if_pos h2]
    · rw [if_neg h2, if_neg h2]
theorem or_ev (a b c : Int) : Ev (fun k => cmp_Or_int.f k [a, b, c]) (if a = 0 then (if b = 0 then (if c = 0 then 0 else c) else b) else a) := by
  simp only [cmp_Or_int.f]
  have r0 : rd [a, b, c] 0 = a := rfl
  have r1 : rd [a, b, c] 1 = b := rfl
  have r2 : rd [a, b, c] 2 = c := rfl
  have w0 : wrap64 ((0 : Int) + 1) = 1 := by unfold wrap64; omega
  have w1 : wrap64 ((1 : Int) + 1) = 2 := by unfold wrap64; omega
  have w2 : wrap64 ((2 : Int) + 1) = 3 := by unfold wrap64; omega
  refine ev_tail ?_
  simp only [cmp_Or_int.l0, r0, w0]
  refine ev_pos (by simp) (ev_pos (by omega) (ev_pos (by simp) (ev_ite (fun h0 => ?_) (fun h0 => ?_))))
  · rw [if_pos h0]
    refine ev_tail ?_
    simp only [cmp_Or_int.l0, r1, w1]
    refine ev_pos (by simp) (ev_pos (by omega) (ev_pos (by simp) (ev_ite (fun h1 => ?_) (fun h1 => ?_))))
    · rw [if_pos h1]
      refine ev_tail ?_
      simp only [cmp_Or_int.l0, r2, w2]
      refine ev_pos (by simp) (ev_pos (by omega) (ev_pos (by simp) (ev_ite (fun h2 => ?_) (fun h2 => ?_))))
      · rw [if_pos h2]
        refine ev_tail ?_
        simp only [cmp_Or_int.l0]
        exact ev_neg (by simp) (Ev.now _)
      · rw [if_neg h2]; exact Ev.now _
    · rw [if_neg h1]; exact Ev.now _
  · rw [if_neg h0]; exact Ev.now _
theorem eventOrder_ev (a b : S89) : ∃ r, Ev (fun k => impl_eventOrder.f k a.f0 a.f1 a.f2 a.f3 b.f0 b.f1 b.f2 b.f3) r ∧ (evLt a b = true ↔ r < 0) := by
  simp only [impl_eventOrder.f, cmp_eq, Option.bind_some]
  refine ⟨_, Ev.bind (or_ev _ _ _) (Ev.now _), ?_⟩
  simp only [evLt, decide_eq_true_eq]
  repeat' split
  all_goals omega
theorem implIsScore_ev (l : List S89) (h : l.length ≤ 1048576) : Ev (fun k => impl_IsScore.f k l) (scoreM l) := by
  simp only [impl_IsScore.f]
  refine ev_all (L := fun k i => impl_IsScore.l0 k l l (l.length : Int) i) (n := l.length) (fun i hi => ?_) ?_ l.length 0 (by omega)
  · have w1 : Aside0 (wrap64 ((i : Int) + 1) = (i : Int) + 1) := ⟨wrap_id (by omega) (by omega)⟩
    have w2 : Aside0 (wrap64 ((i : Int) - 1) = (i : Int) - 1) := ⟨wrap_id (by omega) (by omega)⟩
    obtain ⟨q, hq, hl⟩ := eventOrder_ev (rd_T89 l ((i : Int) - 1)) (rd_T89 l (i : Int))
    constructor
    · intro hc r e
      simp only [scC, Bool.and_eq_true, evOK, decide_eq_true_eq] at hc
      obtain ⟨h1, h2⟩ := hc
      refine ev_tail ?_
      simp only [impl_IsScore.l0, InRange_eq, Option.bind_some, w1.out, w2.out]
      refine ev_pos (by omega) (ev_pos (by omega) (ev_pos (by omega) (ev_pos (by simp; omega) (ev_pos (by simp; omega) (ev_pos (by simp; omega) (ev_pos (by simp; omega) (ev_ite (fun h0 => ?_) (fun _ => e))))))))
      rw [decide_eq_false (by omega), Bool.false_or] at h2
      have := hl.mp h2
      exact ev_pos (by omega) (ev_pos (by omega) (Ev.bind hq (ev_neg (by omega) e)))
    · intro hc
      refine ev_tail ?_
      simp only [impl_IsScore.l0, InRange_eq, Option.bind_some, w1.out, w2.out]
      refine ev_pos (by omega) (ev_pos (by omega) (ev_pos (by omega) (ev_ite (fun h1 => ev_ite (fun h2 => ev_ite (fun h3 => ev_ite (fun h4 => ?_) (fun _ => Ev.now _)) (fun _ => Ev.now _)) (fun _ => Ev.now _)) (fun _ => Ev.now _))))
      simp only [decide_eq_true_eq] at h1 h2 h3 h4
      simp only [scC, Bool.and_eq_false_iff] at hc
      rcases hc with hc | hc
      · simp only [evOK, decide_eq_false_iff_not] at hc
        exact absurd ⟨h1.1, h1.2, h2.1, h2.2, h3.1, h3.2, h4.1, h4.2⟩ hc
      · simp only [Bool.or_eq_false_iff, decide_eq_false_iff_not] at hc
        have : ¬ q < 0 := fun hlt => by rw [hl.mpr hlt] at hc; exact absurd hc.2 (by simp)
        exact ev_pos (by omega) (ev_pos (by omega) (ev_pos (by omega) (Ev.bind hq (ev_pos (by omega) (Ev.now _)))))
  · refine ev_tail ?_
    simp only [impl_IsScore.l0]
    exact ev_neg (by omega) (Ev.now _)
theorem score_len {l : List S89} (h : scoreM l = true) : l.length ≤ 40 := by
  unfold scoreM at h
  rw [allF_iff] at h
  have := h.1
  simp only [decide_eq_true_eq] at this
  omega

def dueG (l : List S89) (v a b : Int) (i : Int) : Option S89 :=
  if (rd_T89 l i).f3 ≠ v ∧ (rd_T89 l i).f0 > a ∧ (rd_T89 l i).f0 ≤ b then some (rd_T89 l i) else none
def dueM (l : List S89) (v a b : Int) : List S89 := if scoreM l = true then colM (dueG l v a b) l.length 0 else []
theorem specDueEvents_ev (l : List S89) (v a b : Int) (h : l.length ≤ 1048576) : Ev (fun k => spec_DueEvents.f k l v a b) (dueM l v a b) := by
  simp only [spec_DueEvents.f, dueM]
  have hs := specIsScore_ev l h
  by_cases hsc : scoreM l = true
  · rw [if_pos hsc]
    rw [hsc] at hs
    refine ev_col (L := fun k out i => spec_DueEvents.l0 k l v a b out i) (g := dueG l v a b) (fin := id) (n := l.length) (s := 0) (fun i out _ hi ho r e => ?_) (fun out => ?_) l.length 0 [] (by omega) (by omega) (by simp)
    · have w1 : Aside0 (wrap64 ((i : Int) + 1) = (i : Int) + 1) := ⟨wrap_id (by omega) (by omega)⟩
      refine ev_tail ?_
      simp only [spec_DueEvents.l0]
      refine ev_pos (by omega) (Ev.bind hs (ev_tail ?_))
      simp only [spec_DueEvents.j1, w1.out]
      refine ev_pos (by trivial) (ev_pos (by omega) (ev_pos (by omega) ?_))
      unfold dueG at e
      refine ev_ite (fun c1 => ?_) (fun c1 => ev_ite (fun c2 => ev_ite (fun c3 => ev_pos (by omega) ?_) (fun c3 => ?_)) (fun c2 => ?_))
      · rw [if_neg (fun z => z.1 c1)] at e; simpa using e
      · rw [if_pos ⟨c1, c2, c3⟩] at e; exact e
      · rw [if_neg (fun z => c3 z.2.2)] at e; simpa using e
      · rw [if_neg (fun z => c2 z.2.1)] at e; simpa using e
    · refine ev_tail ?_
      simp only [spec_DueEvents.l0]
      refine ev_neg (by omega) (ev_tail ?_)
      simp only [spec_DueEvents.j1]
      exact ev_neg (by simp) (Ev.now _)
  · rw [if_neg hsc]
    rw [Bool.eq_false_iff.mpr hsc] at hs
    refine ev_tail ?_
    simp only [spec_DueEvents.l0]
    refine ev_ite (fun _ => Ev.bind hs (ev_tail ?_)) (fun _ => ev_tail ?_)
    · simp only [spec_DueEvents.j1]
      exact ev_neg (by simp) (Ev.now _)
    · simp only [spec_DueEvents.j1]
      exact ev_neg (by simp) (Ev.now _)
theorem implDueEvents_ev (l : List S89) (v a b : Int) (h : l.length ≤ 1048576) : Ev (fun k => impl_DueEvents.f k l v a b) (dueM l v a b) := by
  simp only [impl_DueEvents.f, Option.bind_some, dueM]
  refine Ev.bind (implIsScore_ev l h) (ev_ite (fun hsc => ?_) (fun hsc => ?_))
  · rw [if_pos hsc]
    refine ev_col (L := fun k out i => impl_DueEvents.l0 k v a b out l (l.length : Int) i) (g := dueG l v a b) (fin := id) (n := l.length) (s := 0) (fun i out _ hi ho r e => ?_) (fun out => ?_) l.length 0 [] (by omega) (by omega) (by simp)
    · have w1 : Aside0 (wrap64 ((i : Int) + 1) = (i : Int) + 1) := ⟨wrap_id (by omega) (by omega)⟩
      refine ev_tail ?_
      simp only [impl_DueEvents.l0, w1.out]
      refine ev_pos (by omega) (ev_pos (by omega) (ev_pos (by omega) ?_))
      unfold dueG at e
      refine ev_ite (fun c1 => ?_) (fun c1 => ev_ite (fun c2 => ev_ite (fun c3 => ev_pos (by omega) ?_) (fun c3 => ?_)) (fun c2 => ?_))
      · rw [if_neg (fun z => z.1 c1)] at e; simpa using e
      · rw [if_pos ⟨c1, c2, c3⟩] at e; exact e
      · rw [if_neg (fun z => c3 z.2.2)] at e; simpa using e
      · rw [if_neg (fun z => c2 z.2.1)] at e; simpa using e
    · refine ev_tail ?_
      simp only [impl_DueEvents.l0]
      exact ev_neg (by omega) (Ev.now _)
  · rw [if_neg hsc]
    exact Ev.now _

theorem colM_len {α : Type} (g : Int → Option α) (d : Nat) : ∀ i, (colM g d i).length ≤ d := by
  induction d with
  | zero => intro i; simp [colM]
  | succ d ih =>
    intro i
    have h1 := ih (i + 1)
    have h2 := toList_le (g (i : Int))
    simp only [colM, List.length_append]
    omega

theorem FnExactDueEvents : ∀ (l0 : List (S91)) (a1 : Int) (a2 : Int) (a3 : Int), (l0.length ≤ maxLen) → (∀ x ∈ l0, ((Lit.int .i64 x.f0).wf = true) ∧ ((Lit.int .i64 x.f1).wf = true) ∧ ((Lit.int .i64 x.f2).wf = true) ∧ ((Lit.int .i64 x.f3).wf = true)) → (Lit.int .i64 a1).wf = true → (Lit.int .i64 a2).wf = true → (Lit.int .i64 a3).wf = true → ∃ k, laws_FnExactDueEvents.f k l0 a1 a2 a3 = some true := by
  intro l v a b hl _ _ _ _
  refine Ev.rounds ?_
  simp only [laws_FnExactDueEvents.f]
  obtain ⟨r, hr, hb⟩ := szEventS_some l hl
  refine ev_val hr (ev_ite (fun _ => Ev.now _) (fun h => ?_))
  have hn := hb h
  have hm : (l.map cvEvent).length ≤ 1048576 := by rw [List.length_map]; exact hn
  have ho : (dueM (l.map cvEvent) v a b).length ≤ 1048576 := by
    have := colM_len (dueG (l.map cvEvent) v a b) (l.map cvEvent).length 0
    unfold dueM
    split
    · omega
    · simp
  have t1 := toEventS_ev l hn
  have e1 := eqEventS_ev (dueM (l.map cvEvent) v a b) ho
  have i1 := implDueEvents_ev (l.map cvEvent) v a b hm
  have m1 := markEventS_ev (dueM (l.map cvEvent) v a b) 1 (by omega) (by omega) (by omega)
  have d1 := heldEventS_ev (dueM (l.map cvEvent) v a b).length 1 (by omega) (by omega) (by omega)
  refine Ev.bind t1 (Ev.bind (specDueEvents_ev _ v a b hm) (Ev.bind t1 (Ev.bind i1 (Ev.bind e1 (ev_pos (by trivial) ?_)))))
  refine Ev.bind t1 (Ev.bind (eqEventS_ev _ hm) (ev_pos (by trivial) ?_))
  refine Ev.bind (markEventS_ev _ 1 (by omega) (by omega) (by omega)) (ev_neg (by simp; omega) (Ev.bind e1 (ev_tail ?_)))
  simp only [laws_FnExactDueEvents.j0]
  refine ev_neg (by simp) (Ev.bind m1 (Ev.bind d1 (ev_neg (by omega) (ev_pos (by trivial) ?_))))
  exact Ev.bind t1 (Ev.bind i1 (Ev.bind e1 (ev_pos (by trivial) (Ev.bind d1 (ev_neg (by omega) (ev_pos (by trivial) (Ev.now _)))))))
end Go.Proofs.Ytnaoogkklkhpnaa.Pure
