/-
HearAll of the program and of the reference: the same answer.
Conditions: none.
-/
import Derived.Test.YtnaoogkklkhpnaaPFnExactHearAllx8
import Derived.Test.YtnaoogkklkhpnaaBase
namespace Go.Proofs.Ytnaoogkklkhpnaa.Pure
open Go.RowKit Go.Proofs.Ytnaoogkklkhpnaa.PFnExactHearAll Go.Proofs.YtnaoogkklkhpnaaW.PrintWords Go.Proofs.YtnaoogkklkhpnaaW.PrintLast Go.Proofs.YtnaoogkklkhpnaaW.PrintMore Go.Proofs.Ytnaoogkklkhpnaa.Base
set_option linter.unusedVariables false
set_option linter.unusedSimpArgs false

theorem l1In_eq (a b c : Int) : spec_l1In.f a b c = some (decide (b ≤ a ∧ a ≤ c)) := by
  unfold spec_l1In.f
  by_cases h1 : b ≤ a <;> by_cases h2 : a ≤ c <;> simp [h1, h2]
theorem InRange_eq (a b c : Int) : impl_InRange.f a b c = some (decide (b ≤ a ∧ a ≤ c)) := by
  unfold impl_InRange.f
  by_cases h1 : b ≤ a <;> by_cases h2 : a ≤ c <;> simp [h1, h2]

theorem toIntS_l0 (suf : List Int) : ∀ pre : List Int, (pre ++ suf).length ≤ 35184372088832 → Ev (fun k => laws_toIntS.l0 k (pre ++ suf) (pre ++ List.replicate suf.length 0) (pre.length : Int)) (pre ++ suf) := by
  induction suf with
  | nil =>
    intro pre h
    refine ev_tail ?_
    simp only [laws_toIntS.l0]
    refine ev_neg (by simp) ?_
    simpa using Ev.now pre
  | cons x t ih =>
    intro pre h
    have e := ih (pre ++ [x]) (by simpa using h)
    simp only [List.length_append, List.length_cons] at h
    refine ev_tail ?_
    simp only [laws_toIntS.l0]
    refine ev_pos (by simp; omega) (ev_pos (by omega) (ev_pos (by simp; omega) ?_))
    rw [rd_mid, List.length_cons, List.replicate_succ, set_mid, wrap_succ (by omega), snoc_cons pre x t, snoc_cons pre x (List.replicate t.length 0), ← length_snoc pre x]
    exact e
theorem toIntS_ev (l : List Int) (h : l.length ≤ 35184372088832) : Ev (fun k => laws_toIntS.f k l) l := by
  simp only [laws_toIntS.f]
  refine ev_pos (by omega) (ev_pos (by omega) ?_)
  exact toIntS_l0 l [] (by simpa using h)

theorem eqIntS_l0 (suf : List Int) : ∀ pre : List Int, (pre ++ suf).length ≤ 35184372088832 → Ev (fun k => laws_eqIntS.l0 k (pre ++ suf) (pre ++ suf) (pre.length : Int)) true := by
  induction suf with
  | nil =>
    intro pre h
    refine ev_tail ?_
    simp only [laws_eqIntS.l0]
    exact ev_neg (by simp) (Ev.now true)
  | cons x t ih =>
    intro pre h
    have e := ih (pre ++ [x]) (by simpa using h)
    simp only [List.length_append, List.length_cons] at h
    refine ev_tail ?_
    simp only [laws_eqIntS.l0]
    refine ev_pos (by simp; omega) (ev_pos (by omega) (ev_pos (by simp; omega) (ev_pos (by trivial) ?_)))
    rw [wrap_succ (by omega), snoc_cons pre x t, ← length_snoc pre x]
    exact e
theorem eqIntS_ev (l : List Int) (h : l.length ≤ 35184372088832) : Ev (fun k => laws_eqIntS.f k l l) true := by
  simp only [laws_eqIntS.f]
  refine ev_pos (by trivial) ?_
  exact eqIntS_l0 l [] (by simpa using h)

theorem szIntS_some (l : List Int) (b : Int) (hb0 : 0 ≤ b) (hb : b ≤ 1048576) (h : l.length ≤ maxLen) : ∃ r, laws_szIntS.f l b = some r ∧ r ≤ b ∧ (¬ r < 0 → 0 ≤ r ∧ (l.length : Int) ≤ b) := by
  have hm : maxLen = 9223372036854775807 := rfl
  unfold laws_szIntS.f
  rw [wrap_id (by omega) (by omega)]
  by_cases h0 : b - (l.length : Int) < 0
  · exact ⟨-1, by rw [if_pos h0], by omega, fun h => absurd (by omega) h⟩
  · exact ⟨_, by rw [if_neg h0], by omega, fun _ => by omega⟩

theorem szFollower_some (l : List Int) (x b : Int) (hb0 : 0 ≤ b) (hb : b ≤ 1048576) (h : l.length ≤ maxLen) : ∃ r, laws_szFollower.f l x b = some r ∧ r ≤ b ∧ (¬ r < 0 → 0 ≤ r ∧ (l.length : Int) ≤ b) := by
  obtain ⟨r, hr, h1, h2⟩ := szIntS_some l b hb0 hb h
  unfold laws_szFollower.f
  rw [hr]
  simp only [Option.bind_some]
  by_cases h0 : r < 0
  · exact ⟨-1, by rw [if_pos h0], by omega, fun h => absurd (by omega) h⟩
  · exact ⟨r, by rw [if_neg h0], h1, h2⟩

theorem toFollower_ev (l : List Int) (x : Int) (h : l.length ≤ 35184372088832) : Ev (fun k => laws_toFollower.f k l x) (l, x) := by
  simp only [laws_toFollower.f]
  exact Ev.bind (toIntS_ev l h) (Ev.now _)

theorem eqFollower_ev (l : List Int) (x : Int) (h : l.length ≤ 35184372088832) : Ev (fun k => laws_eqFollower.f k l x l x) true := by
  simp only [laws_eqFollower.f]
  exact Ev.bind (eqIntS_ev l h) (ev_pos (by trivial) (ev_pos (by trivial) (Ev.now _)))

theorem markIntS_l0 (suf : List Int) : ∀ (pre : List Int) (m : Int), (pre ++ suf).length ≤ 35184372088832 → 0 ≤ m → m + suf.length ≤ 9223372036854775807 → Ev (fun k => laws_markIntS.l0 k (pre ++ suf) m (pre.length : Int)) (m + suf.length, pre ++ marks suf.length m) := by
  induction suf with
  | nil =>
    intro pre m h h0 h1
    refine ev_tail ?_
    simp only [laws_markIntS.l0]
    refine ev_neg (by simp) ?_
    simpa [marks] using Ev.now _
  | cons y t ih =>
    intro pre m h h0 h1
    simp only [List.length_cons] at h1
    have e := ih (pre ++ [m]) (m + 1) (by simpa using h) (by omega) (by omega)
    simp only [List.length_append, List.length_cons] at h
    refine ev_tail ?_
    simp only [laws_markIntS.l0]
    refine ev_pos (by simp; omega) (ev_pos (by omega) ?_)
    rw [set_mid, wrap_succ (by omega), wrap_id (n := m + 1) (by omega) (by omega), snoc_cons pre m t, ← length_snoc pre m]
    refine ev_eq e ?_
    simp only [marks, List.length_cons, List.append_assoc, List.singleton_append]
    congr 1
    omega
theorem markIntS_ev (l : List Int) (m : Int) (h : l.length ≤ 35184372088832) (h0 : 0 ≤ m) (h1 : m + l.length ≤ 9223372036854775807) : Ev (fun k => laws_markIntS.f k l m) (m + l.length, marks l.length m) := by
  simp only [laws_markIntS.f]
  exact markIntS_l0 l [] m (by simpa using h) h0 h1

theorem heldIntS_l0 (n : Nat) : ∀ (pre : List Int) (m : Int), pre.length + n ≤ 35184372088832 → 0 ≤ m → m + n ≤ 9223372036854775807 → Ev (fun k => laws_heldIntS.l0 k (pre ++ marks n m) m (pre.length : Int)) (m + n) := by
  induction n with
  | zero =>
    intro pre m h h0 h1
    refine ev_tail ?_
    simp only [laws_heldIntS.l0]
    refine ev_neg (by simp [marks]) ?_
    simpa using Ev.now m
  | succ n ih =>
    intro pre m h h0 h1
    have e := ih (pre ++ [m]) (m + 1) (by simp; omega) (by omega) (by omega)
    refine ev_tail ?_
    simp only [laws_heldIntS.l0, marks]
    refine ev_pos (by simp [marks_length]; omega) (ev_pos (by omega) (ev_pos (rd_mid pre m _) ?_))
    rw [wrap_succ (by omega), wrap_id (n := m + 1) (by omega) (by omega), snoc_cons pre m (marks n (m + 1)), ← length_snoc pre m]
    exact ev_eq e (by omega)
theorem heldIntS_ev (n : Nat) (m : Int) (h : n ≤ 35184372088832) (h0 : 0 ≤ m) (h1 : m + n ≤ 9223372036854775807) : Ev (fun k => laws_heldIntS.f k (marks n m) m) (m + n) := by
  simp only [laws_heldIntS.f]
  exact heldIntS_l0 n [] m (by simpa using h) h0 h1

theorem markFollower_ev (l : List Int) (x m : Int) (h : l.length ≤ 35184372088832) (h0 : 0 ≤ m) (h1 : m + l.length ≤ 9223372036854775807) : Ev (fun k => laws_markFollower.f k l x m) (m + l.length, marks l.length m) := by
  simp only [laws_markFollower.f]
  exact Ev.bind (markIntS_ev l m h h0 h1) (Ev.now _)
theorem heldFollower_ev (n : Nat) (x m : Int) (h : n ≤ 35184372088832) (h0 : 0 ≤ m) (h1 : m + n ≤ 9223372036854775807) : Ev (fun k => laws_heldFollower.f k (marks n m) x m) (m + n) := by
  simp only [laws_heldFollower.f]
  exact Ev.bind (heldIntS_ev n m h h0 h1) (ev_neg (by omega) (Ev.now _))

def folC (l : List Int) (i : Int) : Bool := decide (0 ≤ rd l i ∧ rd l i ≤ 1000 ∧ (0 < i → -1 ≤ wrap64 (rd l i - rd l (i - 1)) ∧ wrap64 (rd l i - rd l (i - 1)) ≤ 1))
def folM (t l : List Int) (x : Int) : Bool := allF (folC l) (decide ((t.length : Int) ≤ 40 ∧ (l.length : Int) = (t.length : Int) + 1 ∧ 0 ≤ x ∧ x ≤ 1000)) l.length 0
theorem specIsFollower_ev (t l : List Int) (x : Int) (ht : t.length ≤ 1048576) (h : l.length ≤ 1048577) : Ev (fun k => spec_IsFollower.f k t l x) (folM t l x) := by
  simp only [spec_IsFollower.f]
  refine ev_all (L := fun k i => spec_IsFollower.l0 k t i l x) (n := l.length) (fun i hi => ?_) ?_ l.length 0 (by omega)
  · have w1 : wrap64 ((i : Int) + 1) = (i : Int) + 1 := wrap_id (by omega) (by omega)
    have w2 : wrap64 ((i : Int) - 1) = (i : Int) - 1 := wrap_id (by omega) (by omega)
    constructor
    · intro hc r e
      simp only [folC, decide_eq_true_eq] at hc
      obtain ⟨h1, h2, h5⟩ := hc
      refine ev_tail ?_
      simp only [spec_IsFollower.l0, l1In_eq, Option.bind_some, w1, w2]
      refine ev_pos (by omega) (ev_pos (by omega) (ev_pos (by simpa using ⟨h1, h2⟩) ?_))
      refine ev_ite (fun h0 => ?_) (fun _ => e)
      exact ev_pos (by omega) (ev_pos (by omega) (ev_pos (by simpa using h5 h0) e))
    · intro hc
      simp only [folC, decide_eq_false_iff_not] at hc
      refine ev_tail ?_
      simp only [spec_IsFollower.l0, l1In_eq, Option.bind_some, w1, w2]
      refine ev_pos (by omega) (ev_pos (by omega) (ev_ite (fun h1 => ?_) (fun _ => Ev.now _)))
      simp only [decide_eq_true_eq] at h1
      refine ev_ite (fun h0 => ?_) (fun h0 => absurd ⟨h1.1, h1.2, fun h => absurd h h0⟩ hc)
      refine ev_pos (by omega) (ev_pos (by omega) (ev_ite (fun h3 => ?_) (fun _ => Ev.now _)))
      simp only [decide_eq_true_eq] at h3
      exact absurd ⟨h1.1, h1.2, fun _ => h3⟩ hc
  · refine ev_tail ?_
    have w3 : wrap64 ((t.length : Int) + 1) = (t.length : Int) + 1 := wrap_id (by omega) (by omega)
    simp only [spec_IsFollower.l0, l1In_eq, Option.bind_some, w3]
    refine ev_neg (by omega) (ev_ite (fun h1 => ev_ite (fun h2 => ?_) (fun h2 => ?_)) (fun h1 => ?_))
    · simpa [h1, h2] using Ev.now _
    · simpa [h1, h2] using Ev.now _
    · simpa [h1] using Ev.now _
theorem implIsFollower_ev (t l : List Int) (x : Int) (ht : t.length ≤ 1048576) (h : l.length ≤ 1048577) : Ev (fun k => impl_IsFollower.f k t l x) (folM t l x) := by
  simp only [impl_IsFollower.f]
  refine ev_all (L := fun k i => impl_IsFollower.l0 k t l (l.length : Int) i l x) (n := l.length) (fun i hi => ?_) ?_ l.length 0 (by omega)
  · have w1 : wrap64 ((i : Int) + 1) = (i : Int) + 1 := wrap_id (by omega) (by omega)
    have w2 : wrap64 ((i : Int) - 1) = (i : Int) - 1 := wrap_id (by omega) (by omega)
    constructor
    · intro hc r e
      simp only [folC, decide_eq_true_eq] at hc
      obtain ⟨h1, h2, h5⟩ := hc
      refine ev_tail ?_
      simp only [impl_IsFollower.l0, InRange_eq, Option.bind_some, w1, w2]
      refine ev_pos (by omega) (ev_pos (by omega) (ev_pos (by omega) (ev_pos (by simpa using ⟨h1, h2⟩) ?_)))
      refine ev_ite (fun h0 => ?_) (fun _ => e)
      exact ev_pos (by omega) (ev_pos (by omega) (ev_pos (by simpa using h5 h0) e))
    · intro hc
      simp only [folC, decide_eq_false_iff_not] at hc
      refine ev_tail ?_
      simp only [impl_IsFollower.l0, InRange_eq, Option.bind_some, w1, w2]
      refine ev_pos (by omega) (ev_pos (by omega) (ev_pos (by omega) (ev_ite (fun h1 => ?_) (fun _ => Ev.now _))))
      simp only [decide_eq_true_eq] at h1
      refine ev_ite (fun h0 => ?_) (fun h0 => absurd ⟨h1.1, h1.2, fun h => absurd h h0⟩ hc)
      refine ev_pos (by omega) (ev_pos (by omega) (ev_ite (fun h3 => ?_) (fun _ => Ev.now _)))
      simp only [decide_eq_true_eq] at h3
      exact absurd ⟨h1.1, h1.2, fun _ => h3⟩ hc
  · refine ev_tail ?_
    have w3 : wrap64 ((t.length : Int) + 1) = (t.length : Int) + 1 := wrap_id (by omega) (by omega)
    simp only [impl_IsFollower.l0, InRange_eq, Option.bind_some, w3]
    refine ev_neg (by omega) (ev_ite (fun h1 => ev_ite (fun h2 => ?_) (fun h2 => ?_)) (fun h1 => ?_))
    · simpa [h1, h2] using Ev.now _
    · simpa [h1, h2] using Ev.now _
    · simpa [h1] using Ev.now _

theorem rd_at (pre : List Int) (x : Int) (suf : List Int) {i : Int} (h : i = (pre.length : Int)) : rd (pre ++ x :: suf) i = x := by
  subst h; exact rd_mid pre x suf
theorem rd_at1 (pre : List Int) (d x : Int) (suf : List Int) {i : Int} (h : i = ((pre.length + 1 : Nat) : Int)) : rd (pre ++ d :: x :: suf) i = x := by
  rw [snoc_cons]; exact rd_at _ _ _ (by simp; omega)
theorem set_at1 (pre : List Int) (d x y : Int) (suf : List Int) {i : Int} (h : i = ((pre.length + 1 : Nat) : Int)) : (pre ++ d :: x :: suf).set i.toNat y = pre ++ d :: y :: suf := by
  subst h
  rw [snoc_cons]
  have e := set_mid (pre ++ [d]) x y suf
  rw [length_snoc] at e
  rw [e]; simp
/-- 0 for two like numbers, else 1. -/
def unl1 (x p : Int) : Int := if x = p then 0 else 1
theorem unl1_le (x p : Int) : 0 ≤ unl1 x p ∧ unl1 x p ≤ 1 := by unfold unl1; split <;> omega
def stepV (p x d o c : Int) : Int := min (min (c + 1) (o + 1)) (d + unl1 x p)
/-- The costs behind the first one, once a pitch is heard. -/
def folRow (p : Int) : List Int → Int → Int → List Int → List Int
  | x :: t, d, o, c :: cs => stepV p x d o c :: folRow p t c (stepV p x d o c) cs
  | _, _, _, _ => []
theorem folRow_length (p : Int) (t : List Int) : ∀ (d o : Int) (cs : List Int), cs.length = t.length → (folRow p t d o cs).length = cs.length := by
  induction t with
  | nil => intro d o cs h; cases cs with
    | nil => rfl
    | cons c cs => simp at h
  | cons x t ih =>
    intro d o cs h
    cases cs with
    | nil => simp at h
    | cons c cs => simp only [folRow, List.length_cons]; rw [ih _ _ _ (by simpa using h)]
def stepRow (t l : List Int) (x p : Int) : List Int × Int := match l with
  | [] => ([], x + 1)
  | c :: cs => ((c + 1) :: folRow p t c (c + 1) cs, x + 1)
def stepM (t l : List Int) (x p : Int) : List Int × Int := if folM t l x = true ∧ x ≤ 500 then stepRow t l x p else (l, x)
theorem unlike_eq (x p : Int) : impl_unlike.f x p = some (unl1 x p) := by
  unfold impl_unlike.f unl1
  by_cases h : x = p <;> simp [h]
theorem specMin_eq (a b : Int) : spec_Min.f a b = some (min a b) := by
  unfold spec_Min.f
  by_cases h : b < a
  · rw [if_pos h]; congr 1; omega
  · rw [if_neg h]; congr 1; omega
theorem folM_facts {t l : List Int} {x : Int} (h : folM t l x = true) : t.length ≤ 40 ∧ l.length = t.length + 1 ∧ 0 ≤ x ∧ x ≤ 1000 ∧ ∀ c ∈ l, 0 ≤ c ∧ c ≤ 1000 := by
  unfold folM at h
  rw [allF_iff] at h
  obtain ⟨h1, h2⟩ := h
  simp only [decide_eq_true_eq] at h1
  refine ⟨by omega, by omega, h1.2.2.1, h1.2.2.2, fun c hc => ?_⟩
  obtain ⟨j, hj, rfl⟩ := List.getElem_of_mem hc
  have h3 := h2 j (by omega) (by omega)
  simp only [folC, decide_eq_true_eq] at h3
  have e : rd l (j : Int) = l[j] := by rw [rd_nat, List.getD_eq_getElem?_getD, List.getElem?_eq_getElem hj, Option.getD_some]
  rw [e] at h3
  exact ⟨h3.1, h3.2.1⟩
theorem stepV_bound {p x d o c : Int} (hd : 0 ≤ d ∧ d ≤ 1001) (ho : 0 ≤ o ∧ o ≤ 1001) (hc : 0 ≤ c ∧ c ≤ 1000) : 0 ≤ stepV p x d o c ∧ stepV p x d o c ≤ 1001 := by
  have := unl1_le x p
  unfold stepV; omega
theorem implStep_l0 (p x h : Int) (ts : List Int) : ∀ (tp lp op cs : List Int) (d o : Int), tp.length = lp.length → op.length = lp.length → cs.length = ts.length → (tp ++ ts).length ≤ 40 → (0 ≤ d ∧ d ≤ 1000) → (0 ≤ o ∧ o ≤ 1001) → (∀ c ∈ cs, 0 ≤ c ∧ c ≤ 1000) →
    Ev (fun k => impl_StepFollower.l0 k p (tp ++ ts) ((tp ++ ts).length : Int) (tp.length : Int) (lp ++ d :: cs) x (op ++ o :: cs) h) (op ++ o :: folRow p ts d o cs, h) := by
  induction ts with
  | nil =>
    intro tp lp op cs d o h1 h2 h3 h4 _ _ _
    obtain rfl : cs = [] := List.length_eq_zero_iff.1 (by simpa using h3)
    refine ev_tail ?_
    simp only [impl_StepFollower.l0]
    exact ev_neg (by simp) (Ev.now _)
  | cons y t ih =>
    intro tp lp op cs d o h1 h2 h3 h4 hd ho hc
    cases cs with
    | nil => simp at h3
    | cons c cs =>
      have hcc := hc c (by simp)
      have hv := stepV_bound (p := p) (x := y) ⟨hd.1, by omega⟩ ho hcc
      have e := ih (tp ++ [y]) (lp ++ [d]) (op ++ [o]) cs c (stepV p y d o c) (by simp [h1]) (by simp [h2]) (by simpa using h3) (by simpa using h4) hcc hv (fun z hz => hc z (by simp [hz]))
      simp only [List.length_append, List.length_cons] at h4
      refine ev_tail ?_
      simp only [impl_StepFollower.l0]
      have w1 : Aside0 (wrap64 ((tp.length : Int) + 1) = ((tp.length + 1 : Nat) : Int)) := ⟨wrap_succ (by omega)⟩
      rw [w1.out]
      refine ev_pos (by simp; omega) (ev_pos (by omega) (ev_pos (by simp; omega) (ev_pos (by omega) (ev_pos (by simp; omega) (ev_pos (by simp; omega) (ev_pos (by simp; omega) (ev_val (unlike_eq _ _) (ev_pos (by simp; omega) ?_))))))))
      have r1 := rd_mid tp y t
      have r2 := rd_at1 lp d c cs (i := ((tp.length + 1 : Nat) : Int)) (by omega)
      have r3 := rd_at op o (c :: cs) (i := (tp.length : Int)) (by omega)
      have r4 := rd_at lp d (c :: cs) (i := (tp.length : Int)) (by omega)
      have u := unl1_le y p
      rw [r1, r2, r3, r4, set_at1 op o c _ cs (by omega)]
      have ev : mn (mn (wrap64 (c + 1)) (wrap64 (o + 1))) (wrap64 (d + unl1 y p)) = stepV p y d o c := by
        rw [wrap_id (by omega) (by omega), wrap_id (by omega) (by omega), wrap_id (by omega) (by omega), mn_eq, mn_eq]
        rfl
      rw [ev]
      simp only [folRow]
      have e2 := e
      simp only [List.append_assoc, List.singleton_append, length_snoc] at e2
      exact e2
theorem specStep_l0 (p x h : Int) (ts : List Int) : ∀ (tp lp op cs : List Int) (d o : Int), tp.length = lp.length → op.length = lp.length → cs.length = ts.length → (tp ++ ts).length ≤ 40 → (0 ≤ d ∧ d ≤ 1000) → (0 ≤ o ∧ o ≤ 1001) → (∀ c ∈ cs, 0 ≤ c ∧ c ≤ 1000) →
    Ev (fun k => spec_StepFollower.l0 k (tp ++ ts) p ((tp.length + 1 : Nat) : Int) (lp ++ d :: cs) x (op ++ o :: cs) h) (op ++ o :: folRow p ts d o cs, h) := by
  induction ts with
  | nil =>
    intro tp lp op cs d o h1 h2 h3 h4 _ _ _
    obtain rfl : cs = [] := List.length_eq_zero_iff.1 (by simpa using h3)
    refine ev_tail ?_
    simp only [spec_StepFollower.l0]
    exact ev_neg (by simp; omega) (Ev.now _)
  | cons y t ih =>
    intro tp lp op cs d o h1 h2 h3 h4 hd ho hc
    cases cs with
    | nil => simp at h3
    | cons c cs =>
      have hcc := hc c (by simp)
      have hv := stepV_bound (p := p) (x := y) ⟨hd.1, by omega⟩ ho hcc
      have e := ih (tp ++ [y]) (lp ++ [d]) (op ++ [o]) cs c (stepV p y d o c) (by simp [h1]) (by simp [h2]) (by simpa using h3) (by simpa using h4) hcc hv (fun z hz => hc z (by simp [hz]))
      simp only [List.length_append, List.length_cons] at h4
      refine ev_tail ?_
      simp only [spec_StepFollower.l0, specMin_eq, Option.bind_some]
      have w1 : Aside0 (wrap64 (((tp.length + 1 : Nat) : Int) - 1) = (tp.length : Int)) := ⟨by rw [wrap_pred (by omega) (by omega)]; simp⟩
      have w2 : Aside0 (wrap64 (((tp.length + 1 : Nat) : Int) + 1) = ((tp.length + 1 + 1 : Nat) : Int)) := ⟨wrap_succ (by omega)⟩
      rw [w1.out, w2.out]
      have r1 := rd_mid tp y t
      have r2 := rd_at1 lp d c cs (i := ((tp.length + 1 : Nat) : Int)) (by omega)
      have r3 := rd_at op o (c :: cs) (i := (tp.length : Int)) (by omega)
      have r4 := rd_at lp d (c :: cs) (i := (tp.length : Int)) (by omega)
      have hset : ∀ v, (op ++ o :: c :: cs).set (((tp.length + 1 : Nat) : Int)).toNat v = op ++ o :: v :: cs := fun v => set_at1 op o c v cs (by omega)
      refine ev_pos (by simp; omega) (ev_pos (by omega) (ev_pos (by simp; omega) (ev_pos (by simp; omega) ?_)))
      rw [r1, r2, r3, r4]
      simp only [hset]
      have fin : ∀ g : Nat → Option (List Int × Int), (∀ k, g k = spec_StepFollower.l0 k (tp ++ y :: t) p ((tp.length + 1 + 1 : Nat) : Int) (lp ++ d :: c :: cs) x (op ++ o :: stepV p y d o c :: cs) h) → Ev g (op ++ o :: folRow p (y :: t) d o (c :: cs), h) := by
        intro g hg
        have e' : Ev g ((op ++ [o]) ++ stepV p y d o c :: folRow p t c (stepV p y d o c) cs, h) := by
          have hg' : g = fun k => spec_StepFollower.l0 k ((tp ++ [y]) ++ t) p (((tp ++ [y]).length + 1 : Nat) : Int) ((lp ++ [d]) ++ c :: cs) x ((op ++ [o]) ++ stepV p y d o c :: cs) h := by
            funext k; rw [hg k]; simp
          rw [hg']; exact e
        refine ev_eq e' ?_
        simp [folRow]
      by_cases hy : y = p
      · refine ev_pos hy (ev_pos (by omega) (ev_pos (by simp; omega) (ev_pos (by simp; omega) ?_)))
        refine fin _ (fun k => ?_)
        have ev : min d (wrap64 (min c o + 1)) = stepV p y d o c := by
          rw [wrap_id (by omega) (by omega)]; unfold stepV unl1; rw [if_pos hy]; omega
        rw [ev]
      · refine ev_neg hy (ev_pos (by omega) (ev_pos (by simp; omega) (ev_pos (by simp; omega) ?_)))
        refine fin _ (fun k => ?_)
        have ev : min (wrap64 (d + 1)) (wrap64 (min c o + 1)) = stepV p y d o c := by
          rw [wrap_id (by omega) (by omega), wrap_id (by omega) (by omega)]; unfold stepV unl1; rw [if_neg hy]; omega
        rw [ev]
theorem stepRow_length {t l : List Int} {x p : Int} (h : l.length = t.length + 1) : (stepRow t l x p).1.length = l.length := by
  cases l with
  | nil => simp at h
  | cons c cs => simp only [stepRow, List.length_cons]; rw [folRow_length p t _ _ cs (by simpa using h)]
theorem stepM_length (t l : List Int) (x p : Int) : (stepM t l x p).1.length = l.length := by
  unfold stepM
  split
  · rename_i h; exact stepRow_length (folM_facts h.1).2.1
  · rfl
theorem l17Copy_eq (l : List Int) (x : Int) (h : l.length < 17592186044416) : spec_l17Copy.f l x = some (l, x) := by
  unfold spec_l17Copy.f
  simp [h]
theorem clone_eq (l : List Int) (h : l.length < 17592186044416) : impl_clone_int.f l = some l := by
  unfold impl_clone_int.f
  simp [h]
theorem specStep_j0 (t l : List Int) (x p : Int) (hf : folM t l x = true) (b : Bool) (hb : b = decide (x > 500)) : Ev (fun k => spec_StepFollower.j0 k t p b l x l x) (stepM t l x p) := by
  obtain ⟨h1, h2, h3, h4, h5⟩ := folM_facts hf
  refine ev_tail ?_
  simp only [spec_StepFollower.j0]
  by_cases h : x > 500
  · rw [stepM, if_neg (by omega)]
    exact ev_pos (by rw [hb]; simpa using h) (Ev.now _)
  · rw [stepM, if_pos ⟨hf, by omega⟩]
    refine ev_neg (by rw [hb]; simpa using h) ?_
    cases l with
    | nil => simp at h2
    | cons c cs =>
      have hc := h5 c (by simp)
      refine ev_pos (by simp only [List.length_cons]; omega) (ev_pos (by simp only [List.length_cons]; omega) ?_)
      have w1 : wrap64 (rd (c :: cs) 0 + 1) = c + 1 := by
        have : rd (c :: cs) 0 = c := rd_mid [] c cs
        rw [this, wrap_id (by omega) (by omega)]
      have w2 : wrap64 (x + 1) = x + 1 := wrap_id (by omega) (by omega)
      rw [w1, w2]
      exact specStep_l0 p x (x + 1) t [] [] [] cs c (c + 1) rfl rfl (by simpa using h2) (by simpa using h1) hc (by omega) (fun z hz => h5 z (by simp [hz]))
theorem implStep_j0 (t l : List Int) (x p : Int) (hf : folM t l x = true) (b : Bool) (hb : b = decide (x > 500)) : Ev (fun k => impl_StepFollower.j0 k t p b l x l x) (stepM t l x p) := by
  obtain ⟨h1, h2, h3, h4, h5⟩ := folM_facts hf
  refine ev_tail ?_
  simp only [impl_StepFollower.j0]
  by_cases h : x > 500
  · rw [stepM, if_neg (by omega)]
    exact ev_pos (by rw [hb]; simpa using h) (Ev.now _)
  · rw [stepM, if_pos ⟨hf, by omega⟩]
    refine ev_neg (by rw [hb]; simpa using h) ?_
    cases l with
    | nil => simp at h2
    | cons c cs =>
      have hc := h5 c (by simp)
      refine ev_pos (by simp only [List.length_cons]; omega) ?_
      have w1 : wrap64 (rd (c :: cs) 0 + 1) = c + 1 := by
        have : rd (c :: cs) 0 = c := rd_mid [] c cs
        rw [this, wrap_id (by omega) (by omega)]
      have w2 : wrap64 (x + 1) = x + 1 := wrap_id (by omega) (by omega)
      rw [w1, w2]
      exact implStep_l0 p x (x + 1) t [] [] [] cs c (c + 1) rfl rfl (by simpa using h2) (by simpa using h1) hc (by omega) (fun z hz => h5 z (by simp [hz]))
theorem specStepFollower_ev (t l : List Int) (x p : Int) (ht : t.length ≤ 1048576) (hl : l.length ≤ 1048577) : Ev (fun k => spec_StepFollower.f k t l x p) (stepM t l x p) := by
  simp only [spec_StepFollower.f, l17Copy_eq l x (by omega), Option.bind_some]
  refine Ev.bind (specIsFollower_ev t l x ht hl) ?_
  refine ev_ite (fun h => specStep_j0 t l x p h _ rfl) (fun h => ?_)
  refine ev_tail ?_
  simp only [spec_StepFollower.j0, if_true]
  rw [stepM, if_neg (fun z => h z.1)]
  exact Ev.now _
theorem implStepFollower_ev (t l : List Int) (x p : Int) (ht : t.length ≤ 1048576) (hl : l.length ≤ 1048577) : Ev (fun k => impl_StepFollower.f k t l x p) (stepM t l x p) := by
  simp only [impl_StepFollower.f, clone_eq l (by omega), Option.bind_some]
  refine Ev.bind (implIsFollower_ev t l x ht hl) ?_
  refine ev_ite (fun h => implStep_j0 t l x p h _ rfl) (fun h => ?_)
  refine ev_tail ?_
  simp only [impl_StepFollower.j0, if_true]
  rw [stepM, if_neg (fun z => h z.1)]
  exact Ev.now _

def hearM (t l : List Int) (x : Int) (ps : List Int) : List Int × Int := ps.foldl (fun s p => stepM t s.1 s.2 p) (l, x)
theorem hearM_length (t : List Int) (ps : List Int) : ∀ (l : List Int) (x : Int), (hearM t l x ps).1.length = l.length := by
  induction ps with
  | nil => intro l x; rfl
  | cons p ps ih =>
    intro l x
    have e := ih (stepM t l x p).1 (stepM t l x p).2
    rw [stepM_length] at e
    exact e
theorem specHear_l0 (t : List Int) (ht : t.length ≤ 1048576) (suf : List Int) : ∀ (pre l : List Int) (x : Int), (pre ++ suf).length ≤ 1048576 → l.length ≤ 1048577 → Ev (fun k => spec_HearAll.l0 k t (pre ++ suf) (pre.length : Int) l x) (hearM t l x suf) := by
  induction suf with
  | nil =>
    intro pre l x h hl
    refine ev_tail ?_
    simp only [spec_HearAll.l0]
    exact ev_neg (by simp) (Ev.now _)
  | cons p ps ih =>
    intro pre l x h hl
    have hs := stepM_length t l x p
    have e := ih (pre ++ [p]) (stepM t l x p).1 (stepM t l x p).2 (by simpa using h) (by omega)
    simp only [List.length_append, List.length_cons] at h
    refine ev_tail ?_
    simp only [spec_HearAll.l0]
    refine ev_pos (by simp; omega) (ev_pos (by omega) ?_)
    rw [rd_mid]
    refine Ev.bind (specStepFollower_ev t l x p ht hl) ?_
    rw [wrap_succ (by omega), snoc_cons pre p ps, ← length_snoc pre p]
    exact e
theorem implHear_l0 (t : List Int) (ht : t.length ≤ 1048576) (suf : List Int) : ∀ (pre l : List Int) (x : Int), (pre ++ suf).length ≤ 1048576 → l.length ≤ 1048577 → Ev (fun k => impl_HearAll.l0 k t (pre ++ suf) ((pre ++ suf).length : Int) (pre.length : Int) l x) (hearM t l x suf) := by
  induction suf with
  | nil =>
    intro pre l x h hl
    refine ev_tail ?_
    simp only [impl_HearAll.l0]
    exact ev_neg (by simp) (Ev.now _)
  | cons p ps ih =>
    intro pre l x h hl
    have hs := stepM_length t l x p
    have e := ih (pre ++ [p]) (stepM t l x p).1 (stepM t l x p).2 (by simpa using h) (by omega)
    simp only [List.length_append, List.length_cons] at h
    refine ev_tail ?_
    simp only [impl_HearAll.l0]
    refine ev_pos (by simp; omega) (ev_pos (by omega) (ev_pos (by simp; omega) ?_))
    rw [rd_mid]
    refine Ev.bind (implStepFollower_ev t l x p ht hl) ?_
    rw [wrap_succ (by omega), snoc_cons pre p ps, ← length_snoc pre p]
    exact e
theorem specHearAll_ev (t l : List Int) (x : Int) (ps : List Int) (ht : t.length ≤ 1048576) (hl : l.length ≤ 1048577) (hp : ps.length ≤ 1048576) : Ev (fun k => spec_HearAll.f k t l x ps) (hearM t l x ps) := by
  simp only [spec_HearAll.f, l17Copy_eq l x (by omega), Option.bind_some]
  exact specHear_l0 t ht ps [] l x (by simpa using hp) hl
theorem implHearAll_ev (t l : List Int) (x : Int) (ps : List Int) (ht : t.length ≤ 1048576) (hl : l.length ≤ 1048577) (hp : ps.length ≤ 1048576) : Ev (fun k => impl_HearAll.f k t l x ps) (hearM t l x ps) := by
  simp only [impl_HearAll.f, clone_eq l (by omega), Option.bind_some]
  exact implHear_l0 t ht ps [] l x (by simpa using hp) hl

theorem FnExactHearAll : ∀ (l0 : List (Int)) (l1_0 : List (Int)) (a1_1 : Int) (l2 : List (Int)), (l0.length ≤ maxLen) → (∀ x ∈ l0, (Lit.int .i64 x).wf = true) → (l1_0.length ≤ maxLen) → (∀ x ∈ l1_0, (Lit.int .i64 x).wf = true) → (Lit.int .i64 a1_1).wf = true → (l2.length ≤ maxLen) → (∀ x ∈ l2, (Lit.int .i64 x).wf = true) → ∃ k, laws_FnExactHearAll.f k l0 l1_0 a1_1 l2 = some true := by
  intro t l x p _ _ hlm _ _ _ _
  refine Ev.rounds ?_
  simp only [laws_FnExactHearAll.f]
  refine ev_ite (fun _ => Ev.now _) (fun h => ev_ite (fun _ => Ev.now _) (fun h' => ?_))
  have ht : t.length ≤ 1048576 := by omega
  have hp : p.length ≤ 1048576 := by omega
  obtain ⟨r, hr, _, hb⟩ := szFollower_some l x 1048576 (by omega) (by omega) hlm
  refine ev_val hr (ev_ite (fun _ => Ev.now _) (fun h => ?_))
  obtain ⟨_, hl⟩ := hb h
  have hl2 : l.length ≤ 1048576 := by omega
  have hs := hearM_length t p l x
  have hc : (hearM t l x p).1.length ≤ 35184372088832 := by omega
  refine Ev.bind (toIntS_ev t (by omega)) (Ev.bind (toFollower_ev l x (by omega)) (Ev.bind (toIntS_ev p (by omega)) (Ev.bind (specHearAll_ev t l x p ht (by omega) hp) (Ev.bind (toIntS_ev t (by omega)) (Ev.bind (toFollower_ev l x (by omega)) (Ev.bind (toIntS_ev p (by omega)) (Ev.bind (implHearAll_ev t l x p ht (by omega) hp) ?_)))))))
  refine Ev.bind (eqFollower_ev _ _ hc) (ev_pos (by trivial) (Ev.bind (toIntS_ev t (by omega)) (Ev.bind (eqIntS_ev t (by omega)) (ev_pos (by trivial) ?_))))
  refine Ev.bind (toFollower_ev l x (by omega)) (Ev.bind (eqFollower_ev l x (by omega)) (ev_pos (by trivial) ?_))
  refine Ev.bind (toIntS_ev p (by omega)) (Ev.bind (eqIntS_ev p (by omega)) (ev_pos (by trivial) ?_))
  refine Ev.bind (markIntS_ev t 1 (by omega) (by omega) (by omega)) (Ev.bind (markFollower_ev l x _ (by omega) (by simp; omega) (by simp; omega)) (Ev.bind (markIntS_ev p _ (by omega) (by simp; omega) (by simp; omega)) (ev_neg (by simp; omega) ?_)))
  refine Ev.bind (eqFollower_ev _ _ hc) (ev_tail ?_)
  simp only [laws_FnExactHearAll.j0]
  refine ev_neg (by simp) (Ev.bind (markFollower_ev _ _ 1 hc (by omega) (by omega)) ?_)
  refine Ev.bind (heldFollower_ev _ _ 1 hc (by omega) (by omega)) (ev_neg (by omega) (ev_pos (by trivial) ?_))
  refine Ev.bind (toIntS_ev t (by omega)) (Ev.bind (toFollower_ev l x (by omega)) (Ev.bind (toIntS_ev p (by omega)) (Ev.bind (implHearAll_ev t l x p ht (by omega) hp) (Ev.bind (eqFollower_ev _ _ hc) (ev_pos (by trivial) ?_)))))
  refine Ev.bind (heldFollower_ev _ _ 1 hc (by omega) (by omega)) (ev_neg (by omega) (ev_pos (by trivial) (Ev.now _)))
end Go.Proofs.Ytnaoogkklkhpnaa.Pure
