/-
LastRate of the program and of the reference: the same answer.
Conditions: none.
-/
import Derived.Test.YtnaoogkklkhpnaaPFnExactLastRatex7
import Derived.Test.YtnaoogkklkhpnaaBase
namespace Go.Proofs.Ytnaoogkklkhpnaa.Pure
open Go.RowKit Go.Proofs.Ytnaoogkklkhpnaa.PFnExactLastRate Go.Proofs.YtnaoogkklkhpnaaW.PrintWords Go.Proofs.YtnaoogkklkhpnaaW.PrintLast Go.Proofs.YtnaoogkklkhpnaaW.PrintMore Go.Proofs.Ytnaoogkklkhpnaa.Base
set_option linter.unusedVariables false
set_option linter.unusedSimpArgs false

theorem l1In_eq (a b c : Int) : spec_l1In.f a b c = some (decide (b ≤ a ∧ a ≤ c)) := by
  unfold spec_l1In.f
  by_cases h1 : b ≤ a <;> by_cases h2 : a ≤ c <;> simp [h1, h2]
theorem InRange_eq (a b c : Int) : impl_InRange.f a b c = some (decide (b ≤ a ∧ a ≤ c)) := by
  unfold impl_InRange.f
  by_cases h1 : b ≤ a <;> by_cases h2 : a ≤ c <;> simp [h1, h2]

def cvPoint (x : S110) : S107 := ⟨x.f0, x.f1⟩
theorem rdLPoint (pre : List S110) (x : S110) (t : List S110) : rd_T110 (pre ++ x :: t) ((pre.length : Nat) : Int) = x := getD_mid pre x t z110
theorem rdIPoint (pre : List S107) (x : S107) (t : List S107) : rd_T107 (pre ++ x :: t) ((pre.length : Nat) : Int) = x := getD_mid pre x t z107
theorem toPointS_l0 (suf : List S110) : ∀ pre : List S110, (pre ++ suf).length ≤ 1048576 → Ev (fun k => laws_toPointS.l0 k (pre ++ suf) (pre.map cvPoint ++ List.replicate suf.length z107) (pre.length : Int)) ((pre ++ suf).map cvPoint) := by
  induction suf with
  | nil =>
    intro pre h
    refine ev_tail ?_
    simp only [laws_toPointS.l0]
    refine ev_neg (by simp) ?_
    exact ev_eq (Ev.now _) (by simp)
  | cons x t ih =>
    intro pre h
    have e := ih (pre ++ [x]) (by simpa using h)
    simp only [List.length_append, List.length_cons] at h
    refine ev_tail ?_
    simp only [laws_toPointS.l0, laws_toPoint.f, Option.bind_some]
    refine ev_pos (by simp; omega) (ev_pos (by omega) (ev_pos (by simp; omega) ?_))
    rw [rdLPoint, List.length_cons, List.replicate_succ]
    have e1 : (pre.map cvPoint ++ z107 :: List.replicate t.length z107).set ((pre.length : Nat) : Int).toNat (⟨x.f0, x.f1⟩ : S107) = (pre ++ [x]).map cvPoint ++ List.replicate t.length z107 := by
      simp [cvPoint]
    rw [e1, wrap_succ (by omega), snoc_cons pre x t, ← length_snoc pre x]
    exact e
theorem toPointS_ev (l : List S110) (h : l.length ≤ 1048576) : Ev (fun k => laws_toPointS.f k l) (l.map cvPoint) := by
  simp only [laws_toPointS.f]
  refine ev_pos (by omega) (ev_pos (by omega) ?_)
  exact toPointS_l0 l [] (by simpa using h)

theorem eqPointS_l0 (suf : List S107) : ∀ pre : List S107, (pre ++ suf).length ≤ 1048576 → Ev (fun k => laws_eqPointS.l0 k (pre ++ suf) (pre ++ suf) (pre.length : Int)) true := by
  induction suf with
  | nil =>
    intro pre h
    refine ev_tail ?_
    simp only [laws_eqPointS.l0]
    exact ev_neg (by simp) (Ev.now true)
  | cons x t ih =>
    intro pre h
    have e := ih (pre ++ [x]) (by simpa using h)
    simp only [List.length_append, List.length_cons] at h
    refine ev_tail ?_
    simp only [laws_eqPointS.l0, laws_eqPoint.f, if_true, Option.bind_some]
    refine ev_pos (by simp; omega) (ev_pos (by omega) (ev_pos (by simp; omega) ?_))
    rw [wrap_succ (by omega), snoc_cons pre x t, ← length_snoc pre x]
    exact e
theorem eqPointS_ev (l : List S107) (h : l.length ≤ 1048576) : Ev (fun k => laws_eqPointS.f k l l) true := by
  simp only [laws_eqPointS.f]
  refine ev_pos (by trivial) ?_
  exact eqPointS_l0 l [] (by simpa using h)

theorem szPointS_some (l : List S110) (h : l.length ≤ maxLen) : ∃ r, laws_szPointS.f l 1048576 = some r ∧ (¬ r < 0 → l.length ≤ 1048576) := by
  have hm : maxLen = 9223372036854775807 := rfl
  unfold laws_szPointS.f
  rw [wrap_id (by omega) (by omega)]
  by_cases h0 : (1048576 : Int) - (l.length : Int) < 0
  · exact ⟨-1, by rw [if_pos h0], fun h => absurd (by omega) h⟩
  · exact ⟨_, by rw [if_neg h0], fun _ => by omega⟩

def apC (l : List S107) (i : Int) : Bool := decide (0 ≤ (rd_T107 l i).f0 ∧ (rd_T107 l i).f0 ≤ 2000 ∧ 0 ≤ (rd_T107 l i).f1 ∧ (rd_T107 l i).f1 ≤ 10000000 ∧ (0 < i → (rd_T107 l (i - 1)).f0 < (rd_T107 l i).f0 ∧ (rd_T107 l (i - 1)).f1 < (rd_T107 l i).f1))
def arePM (l : List S107) : Bool := allF (apC l) (decide ((l.length : Int) ≤ 60)) l.length 0
theorem specArePoints_ev (l : List S107) (h : l.length ≤ 1048576) : Ev (fun k => spec_ArePoints.f k l) (arePM l) := by
  simp only [spec_ArePoints.f]
  refine ev_all (L := fun k i => spec_ArePoints.l0 k l i) (n := l.length) (fun i hi => ?_) ?_ l.length 0 (by omega)
  · have w1 : wrap64 ((i : Int) + 1) = (i : Int) + 1 := wrap_id (by omega) (by omega)
    have w2 : wrap64 ((i : Int) - 1) = (i : Int) - 1 := wrap_id (by omega) (by omega)
    constructor
    · intro hc r e
      simp only [apC, decide_eq_true_eq] at hc
      obtain ⟨h1, h2, h3, h4, h5⟩ := hc
      refine ev_tail ?_
      simp only [spec_ArePoints.l0, l1In_eq, Option.bind_some, w1, w2]
      refine ev_pos (by omega) (ev_pos (by omega) (ev_pos (by simpa using ⟨h1, h2⟩) (ev_pos (by simpa using ⟨h3, h4⟩) ?_)))
      refine ev_ite (fun h0 => ?_) (fun _ => e)
      have := h5 h0
      exact ev_pos (by omega) (ev_pos (by omega) (ev_neg (by omega) (ev_neg (by omega) e)))
    · intro hc
      simp only [apC, decide_eq_false_iff_not] at hc
      refine ev_tail ?_
      simp only [spec_ArePoints.l0, l1In_eq, Option.bind_some, w1, w2]
      refine ev_pos (by omega) (ev_pos (by omega) (ev_ite (fun h1 => ev_ite (fun h2 => ?_) (fun _ => Ev.now _)) (fun _ => Ev.now _)))
      simp only [decide_eq_true_eq] at h1 h2
      refine ev_ite (fun h0 => ?_) (fun h0 => absurd ⟨h1.1, h1.2, h2.1, h2.2, fun h => absurd h h0⟩ hc)
      refine ev_pos (by omega) (ev_pos (by omega) (ev_ite (fun _ => Ev.now _) (fun h3 => ev_ite (fun _ => Ev.now _) (fun h4 => ?_))))
      exact absurd ⟨h1.1, h1.2, h2.1, h2.2, fun _ => ⟨by omega, by omega⟩⟩ hc
  · refine ev_tail ?_
    simp only [spec_ArePoints.l0]
    exact ev_neg (by omega) (Ev.now _)
theorem implArePoints_ev (l : List S107) (h : l.length ≤ 1048576) : Ev (fun k => impl_ArePoints.f k l) (arePM l) := by
  simp only [impl_ArePoints.f]
  refine ev_all (L := fun k i => impl_ArePoints.l0 k l l (l.length : Int) i) (n := l.length) (fun i hi => ?_) ?_ l.length 0 (by omega)
  · have w1 : wrap64 ((i : Int) + 1) = (i : Int) + 1 := wrap_id (by omega) (by omega)
    have w2 : wrap64 ((i : Int) - 1) = (i : Int) - 1 := wrap_id (by omega) (by omega)
    constructor
    · intro hc r e
      simp only [apC, decide_eq_true_eq] at hc
      obtain ⟨h1, h2, h3, h4, h5⟩ := hc
      refine ev_tail ?_
      simp only [impl_ArePoints.l0, InRange_eq, Option.bind_some, w1, w2]
      refine ev_pos (by omega) (ev_pos (by omega) (ev_pos (by omega) (ev_pos (by simpa using ⟨h1, h2⟩) (ev_pos (by simpa using ⟨h3, h4⟩) ?_))))
      refine ev_ite (fun h0 => ?_) (fun _ => e)
      have := h5 h0
      exact ev_pos (by omega) (ev_pos (by omega) (ev_neg (by omega) (ev_neg (by omega) e)))
    · intro hc
      simp only [apC, decide_eq_false_iff_not] at hc
      refine ev_tail ?_
      simp only [impl_ArePoints.l0, InRange_eq, Option.bind_some, w1, w2]
      refine ev_pos (by omega) (ev_pos (by omega) (ev_pos (by omega) (ev_ite (fun h1 => ev_ite (fun h2 => ?_) (fun _ => Ev.now _)) (fun _ => Ev.now _))))
      simp only [decide_eq_true_eq] at h1 h2
      refine ev_ite (fun h0 => ?_) (fun h0 => absurd ⟨h1.1, h1.2, h2.1, h2.2, fun h => absurd h h0⟩ hc)
      refine ev_pos (by omega) (ev_pos (by omega) (ev_ite (fun _ => Ev.now _) (fun h3 => ev_ite (fun _ => Ev.now _) (fun h4 => ?_))))
      exact absurd ⟨h1.1, h1.2, h2.1, h2.2, fun _ => ⟨by omega, by omega⟩⟩ hc
  · refine ev_tail ?_
    simp only [impl_ArePoints.l0]
    exact ev_neg (by omega) (Ev.now _)

def gcdI (a b : Int) : Int := ((Nat.gcd a.natAbs b.natAbs : Nat) : Int)
theorem tmod_nat (a b : Nat) : Int.tmod (a : Int) (b : Int) = ((a % b : Nat) : Int) := rfl
theorem specGcd_l0 (b : Nat) : ∀ a : Nat, Ev (fun k => spec_l4Gcd.l0 k (a : Int) (b : Int)) ((Nat.gcd a b : Nat) : Int) := by
  induction b using Nat.strongRecOn with
  | _ b ih =>
    intro a
    refine ev_tail ?_
    simp only [spec_l4Gcd.l0]
    by_cases h : b = 0
    · subst h
      exact ev_pos (by simp) (ev_eq (Ev.now _) (by simp))
    · refine ev_neg (by omega) ?_
      rw [tmod_nat]
      have e := ih (a % b) (Nat.mod_lt _ (by omega)) b
      rw [Nat.gcd_comm b (a % b), ← Nat.gcd_rec b a, Nat.gcd_comm b a] at e
      exact e
theorem implGcd_l0 (b : Nat) : ∀ a : Nat, Ev (fun k => impl_divisor.l0 k (a : Int) (b : Int)) ((Nat.gcd a b : Nat) : Int) := by
  induction b using Nat.strongRecOn with
  | _ b ih =>
    intro a
    refine ev_tail ?_
    simp only [impl_divisor.l0]
    by_cases h : b = 0
    · subst h
      exact ev_pos (by simp) (ev_eq (Ev.now _) (by simp))
    · refine ev_neg (by omega) ?_
      rw [tmod_nat]
      have e := ih (a % b) (Nat.mod_lt _ (by omega)) b
      rw [Nat.gcd_comm b (a % b), ← Nat.gcd_rec b a, Nat.gcd_comm b a] at e
      exact e
theorem specGcd_ev (a b : Int) (ha : 0 ≤ a) (hb : 0 ≤ b) : Ev (fun k => spec_l4Gcd.f k a b) (gcdI a b) := by
  simp only [spec_l4Gcd.f, gcdI]
  have e := specGcd_l0 b.natAbs a.natAbs
  rw [show ((a.natAbs : Nat) : Int) = a by omega, show ((b.natAbs : Nat) : Int) = b by omega] at e
  exact e
theorem implGcd_ev (a b : Int) (ha : 0 ≤ a) (hb : 0 ≤ b) : Ev (fun k => impl_divisor.f k a b) (gcdI a b) := by
  simp only [impl_divisor.f, gcdI]
  have e := implGcd_l0 b.natAbs a.natAbs
  rw [show ((a.natAbs : Nat) : Int) = a by omega, show ((b.natAbs : Nat) : Int) = b by omega] at e
  exact e
theorem gcdI_abs (a b : Int) : gcdI ((a.natAbs : Nat) : Int) b = gcdI a b := by simp [gcdI]
theorem gcdI_nonneg (a b : Int) : 0 ≤ gcdI a b := by unfold gcdI; omega
theorem gcdI_pos (a b : Int) (h : 0 < b) : 0 < gcdI a b := by
  unfold gcdI
  have := Nat.gcd_pos_of_pos_right a.natAbs (show 0 < b.natAbs by omega)
  omega
theorem l4Abs_eq (a : Int) (h : -9223372036854775807 ≤ a) (h2 : a ≤ 9223372036854775807) : spec_l4Abs.f a = some ((a.natAbs : Nat) : Int) := by
  unfold spec_l4Abs.f
  by_cases h0 : a < 0
  · rw [if_pos h0, wrap_id (by omega) (by omega)]; congr 1; omega
  · rw [if_neg h0]; congr 1; omega
theorem mx_abs (a : Int) (h : -9223372036854775807 ≤ a) (h2 : a ≤ 9223372036854775807) : mx a (wrap64 (-a)) = ((a.natAbs : Nat) : Int) := by
  rw [wrap_id (by omega) (by omega), mx_eq]; omega
def ratioOK (n d : Int) : Bool := decide (1 ≤ d ∧ d ≤ 1000000 ∧ -1000000000 ≤ n ∧ n ≤ 1000000000) && (gcdI n d == 1)
theorem specIsRatio_ev (n d : Int) : Ev (fun k => spec_IsRatio.f k n d) (ratioOK n d) := by
  simp only [spec_IsRatio.f, l1In_eq, Option.bind_some, ratioOK]
  by_cases h1 : 1 ≤ d ∧ d ≤ 1000000
  · refine ev_pos (by simpa using h1) ?_
    by_cases h2 : -1000000000 ≤ n ∧ n ≤ 1000000000
    · refine ev_pos (by simpa using h2) (ev_val (l4Abs_eq n (by omega) (by omega)) (Ev.bind (specGcd_ev _ d (by omega) (by omega)) ?_))
      rw [gcdI_abs, decide_eq_true ⟨h1.1, h1.2, h2.1, h2.2⟩, Bool.true_and]
      exact Ev.now _
    · refine ev_neg (by simpa using h2) (ev_eq (Ev.now _) ?_)
      rw [decide_eq_false (fun z => h2 ⟨z.2.2.1, z.2.2.2⟩), Bool.false_and]
  · refine ev_neg (by simpa using h1) (ev_eq (Ev.now _) ?_)
    rw [decide_eq_false (fun z => h1 ⟨z.1, z.2.1⟩), Bool.false_and]
theorem implIsRatio_ev (n d : Int) : Ev (fun k => impl_IsRatio.f k n d) (ratioOK n d) := by
  simp only [impl_IsRatio.f, InRange_eq, Option.bind_some, ratioOK]
  by_cases h1 : 1 ≤ d ∧ d ≤ 1000000
  · refine ev_pos (by simpa using h1) ?_
    by_cases h2 : -1000000000 ≤ n ∧ n ≤ 1000000000
    · refine ev_pos (by simpa using h2) ?_
      rw [mx_abs n (by omega) (by omega)]
      refine Ev.bind (implGcd_ev _ d (by omega) (by omega)) ?_
      rw [gcdI_abs, decide_eq_true ⟨h1.1, h1.2, h2.1, h2.2⟩, Bool.true_and]
      exact Ev.now _
    · refine ev_neg (by simpa using h2) (ev_eq (Ev.now _) ?_)
      rw [decide_eq_false (fun z => h2 ⟨z.2.2.1, z.2.2.2⟩), Bool.false_and]
  · refine ev_neg (by simpa using h1) (ev_eq (Ev.now _) ?_)
    rw [decide_eq_false (fun z => h1 ⟨z.1, z.2.1⟩), Bool.false_and]
/-- A fraction in lowest terms, if it is a ratio (d above 0). -/
def lowM (n d : Int) : Int × Int × Bool :=
  if ratioOK (Int.tdiv n (gcdI n d)) (Int.tdiv d (gcdI n d)) = true then (Int.tdiv n (gcdI n d), Int.tdiv d (gcdI n d), true) else (0, 0, false)
theorem tdiv_bd (n g : Int) (B : Int) (hB : 0 ≤ B) (h1 : -B ≤ n) (h2 : n ≤ B) (hg : 0 < g) : -B ≤ Int.tdiv n g ∧ Int.tdiv n g ≤ B := by
  have h := Int.natAbs_tdiv_le_natAbs n g
  omega
def makeM (n d : Int) : Int × Int × Bool :=
  if -1000000000000000 ≤ n ∧ n ≤ 1000000000000000 ∧ -1000000000000000 ≤ d ∧ d ≤ 1000000000000000 ∧ d ≠ 0 then (if d < 0 then lowM (-n) (-d) else lowM n d) else (0, 0, false)
theorem specMake_j1 (n d : Int) (h1 : -1000000000000000000 ≤ n) (h2 : n ≤ 1000000000000000000) (h3 : 0 < d) (h4 : d ≤ 1000000000000000000) : Ev (fun k => spec_MakeRatio.j1 k n d) (lowM n d) := by
  refine ev_tail ?_
  simp only [spec_MakeRatio.j1]
  refine ev_val (l4Abs_eq n (by omega) (by omega)) (Ev.bind (specGcd_ev _ d (by omega) (by omega)) ?_)
  rw [gcdI_abs]
  have hg := gcdI_pos n d h3
  have b1 := tdiv_bd n (gcdI n d) 1000000000000000000 (by omega) h1 h2 hg
  have b2 := tdiv_bd d (gcdI n d) 1000000000000000000 (by omega) (by omega) h4 hg
  rw [wrap_id (n := Int.tdiv n (gcdI n d)) (by omega) (by omega), wrap_id (n := Int.tdiv d (gcdI n d)) (by omega) (by omega)]
  refine ev_neg (by omega) (Ev.bind (specIsRatio_ev _ _) ?_)
  unfold lowM
  exact ev_ite (fun h => by rw [if_pos h]; exact Ev.now _) (fun h => by rw [if_neg h]; exact Ev.now _)
theorem implLow_j0 (n d : Int) (h1 : -1000000000000000000 ≤ n) (h2 : n ≤ 1000000000000000000) (h3 : 0 < d) (h4 : d ≤ 1000000000000000000) : Ev (fun k => impl_lowest.j0 k n d) (lowM n d) := by
  refine ev_tail ?_
  simp only [impl_lowest.j0]
  rw [mx_abs n (by omega) (by omega)]
  refine ev_neg (by omega) (Ev.bind (implGcd_ev _ d (by omega) (by omega)) ?_)
  rw [gcdI_abs]
  have hg := gcdI_pos n d h3
  have b1 := tdiv_bd n (gcdI n d) 1000000000000000000 (by omega) h1 h2 hg
  have b2 := tdiv_bd d (gcdI n d) 1000000000000000000 (by omega) (by omega) h4 hg
  rw [wrap_id (n := Int.tdiv n (gcdI n d)) (by omega) (by omega), wrap_id (n := Int.tdiv d (gcdI n d)) (by omega) (by omega)]
  refine ev_neg (by omega) (Ev.bind (implIsRatio_ev _ _) ?_)
  unfold lowM
  exact ev_ite (fun h => by rw [if_pos h]; exact Ev.now _) (fun h => by rw [if_neg h]; exact Ev.now _)
theorem specMake_j0 (n d : Int) (x : Bool) (h : x = true) : Ev (fun k => spec_MakeRatio.j0 k n d x) (0, 0, false) := by
  subst h
  refine ev_tail ?_
  simp only [spec_MakeRatio.j0]
  exact ev_pos (by trivial) (Ev.now _)
theorem specMakeRatio_ev (n d : Int) : Ev (fun k => spec_MakeRatio.f k n d) (makeM n d) := by
  simp only [spec_MakeRatio.f, l1In_eq, Option.bind_some, makeM]
  by_cases h1 : -1000000000000000 ≤ n ∧ n ≤ 1000000000000000
  · refine ev_pos (by simpa using h1) ?_
    by_cases h2 : -1000000000000000 ≤ d ∧ d ≤ 1000000000000000
    · refine ev_pos (by simpa using h2) ?_
      by_cases h3 : d = 0
      · rw [if_neg (fun z => z.2.2.2.2 h3)]
        exact specMake_j0 n d _ (by simpa using h3)
      · rw [if_pos ⟨h1.1, h1.2, h2.1, h2.2, h3⟩]
        refine ev_tail ?_
        simp only [spec_MakeRatio.j0]
        refine ev_neg (by simpa using h3) (ev_ite (fun h4 => ?_) (fun h4 => ?_))
        · rw [if_pos h4, wrap_id (n := -n) (by omega) (by omega), wrap_id (n := -d) (by omega) (by omega)]
          exact specMake_j1 _ _ (by omega) (by omega) (by omega) (by omega)
        · rw [if_neg h4]
          exact specMake_j1 _ _ (by omega) (by omega) (by omega) (by omega)
    · rw [if_neg (fun z => h2 ⟨z.2.2.1, z.2.2.2.1⟩)]
      exact ev_neg (by simpa using h2) (specMake_j0 n d _ rfl)
  · rw [if_neg (fun z => h1 ⟨z.1, z.2.1⟩)]
    exact ev_neg (by simpa using h1) (specMake_j0 n d _ rfl)
/-- impl.lowest: as it stands, d any number. -/
def lowestM (n d : Int) : Int × Int × Bool := if d = 0 then (0, 0, false) else if d < 0 then lowM (-n) (-d) else lowM n d
theorem implLowest_ev (n d : Int) (h1 : -1000000000000000000 ≤ n) (h2 : n ≤ 1000000000000000000) (h3 : -1000000000000000000 ≤ d) (h4 : d ≤ 1000000000000000000) : Ev (fun k => impl_lowest.f k n d) (lowestM n d) := by
  simp only [impl_lowest.f, lowestM]
  by_cases h5 : d = 0
  · rw [if_pos h5]
    subst h5
    refine ev_neg (by omega) (ev_tail ?_)
    simp only [impl_lowest.j0]
    exact ev_pos (by trivial) (Ev.now _)
  · rw [if_neg h5]
    refine ev_ite (fun h6 => ?_) (fun h6 => ?_)
    · rw [if_pos h6, wrap_id (n := -n) (by omega) (by omega), wrap_id (n := -d) (by omega) (by omega)]
      exact implLow_j0 _ _ (by omega) (by omega) (by omega) (by omega)
    · rw [if_neg h6]
      exact implLow_j0 _ _ (by omega) (by omega) (by omega) (by omega)
theorem implMakeRatio_ev (n d : Int) : Ev (fun k => impl_MakeRatio.f k n d) (makeM n d) := by
  simp only [impl_MakeRatio.f, InRange_eq, Option.bind_some, makeM]
  by_cases h1 : -1000000000000000 ≤ n ∧ n ≤ 1000000000000000
  · refine ev_pos (by simpa using h1) ?_
    by_cases h2 : -1000000000000000 ≤ d ∧ d ≤ 1000000000000000
    · refine ev_pos (by simpa using h2) (Ev.bind (implLowest_ev n d (by omega) (by omega) (by omega) (by omega)) (ev_eq (Ev.now _) ?_))
      unfold lowestM
      by_cases h3 : d = 0
      · rw [if_pos h3, if_neg (fun z => z.2.2.2.2 h3)]
      · have hh : -1000000000000000 ≤ n ∧ n ≤ 1000000000000000 ∧ -1000000000000000 ≤ d ∧ d ≤ 1000000000000000 ∧ d ≠ 0 := ⟨h1.1, h1.2, h2.1, h2.2, h3⟩
        rw [if_neg h3, if_pos hh]
    · rw [if_neg (fun z => h2 ⟨z.2.2.1, z.2.2.2.1⟩)]
      exact ev_neg (by simpa using h2) (Ev.now _)
  · rw [if_neg (fun z => h1 ⟨z.1, z.2.1⟩)]
    exact ev_neg (by simpa using h1) (Ev.now _)

theorem arePM_len {l : List S107} (h : arePM l = true) : l.length ≤ 60 := by
  unfold arePM at h
  rw [allF_iff] at h
  have := h.1
  simp only [decide_eq_true_eq] at this
  omega
theorem specMax_eq (a b : Int) : spec_Max.f a b = some (max a b) := by
  unfold spec_Max.f
  split <;> (congr 1; omega)
def meanM (l : List S107) (p : Int) : Int × Int × Bool :=
  if arePM l = true ∧ 2 ≤ l.length ∧ 1 ≤ p ∧ p ≤ 60 then
    makeM (wrap64 ((rd_T107 l ((l.length : Int) - 1)).f1 - (rd_T107 l (max 0 ((l.length : Int) - 1 - p))).f1)) (wrap64 ((rd_T107 l ((l.length : Int) - 1)).f0 - (rd_T107 l (max 0 ((l.length : Int) - 1 - p))).f0))
  else (0, 0, false)
theorem specMean_j0 (l : List S107) (p : Int) (x : Bool) (h : x = true) : Ev (fun k => spec_MeanRate.j0 k l p x) (0, 0, false) := by
  subst h
  refine ev_tail ?_
  simp only [spec_MeanRate.j0]
  exact ev_pos (by trivial) (Ev.now _)
theorem specMeanRate_ev (l : List S107) (p : Int) (h : l.length ≤ 1048576) : Ev (fun k => spec_MeanRate.f k l p) (meanM l p) := by
  simp only [spec_MeanRate.f, l1In_eq, Option.bind_some, meanM]
  refine Ev.bind (specArePoints_ev l h) (ev_ite (fun h1 => ev_ite (fun h2 => ?_) (fun h2 => ?_)) (fun h1 => ?_))
  · rw [if_neg (fun z => by omega)]
    exact specMean_j0 l p _ rfl
  · by_cases h3 : 1 ≤ p ∧ p ≤ 60
    · rw [if_pos ⟨h1, by omega, h3.1, h3.2⟩]
      have w1 : Aside0 (wrap64 ((l.length : Int) - 1) = (l.length : Int) - 1) := ⟨wrap_id (by omega) (by omega)⟩
      have w2 : Aside0 (wrap64 ((l.length : Int) - 1 - p) = (l.length : Int) - 1 - p) := ⟨wrap_id (by omega) (by omega)⟩
      refine ev_tail ?_
      simp only [spec_MeanRate.j0, w1.out, w2.out, specMax_eq, Option.bind_some]
      refine ev_neg (by simp; omega) (ev_pos (by omega) (ev_pos (by omega) (ev_pos (by omega) (ev_pos (by omega) ?_))))
      exact Ev.bind (specMakeRatio_ev _ _) (Ev.now _)
    · rw [if_neg (fun z => h3 z.2.2)]
      exact specMean_j0 l p _ (by simp; omega)
  · rw [if_neg (fun z => h1 z.1)]
    exact specMean_j0 l p _ rfl
theorem implMeanRate_ev (l : List S107) (p : Int) (h : l.length ≤ 1048576) : Ev (fun k => impl_MeanRate.f k l p) (meanM l p) := by
  simp only [impl_MeanRate.f, InRange_eq, Option.bind_some, meanM]
  refine Ev.bind (implArePoints_ev l h) (ev_ite (fun h1 => ev_ite (fun h2 => ?_) (fun h2 => ?_)) (fun h1 => ?_))
  · rw [if_neg (fun z => by omega)]
    exact Ev.now _
  · by_cases h3 : 1 ≤ p ∧ p ≤ 60
    · rw [if_pos ⟨h1, by omega, h3.1, h3.2⟩]
      have w1 : Aside0 (wrap64 ((l.length : Int) - 1) = (l.length : Int) - 1) := ⟨wrap_id (by omega) (by omega)⟩
      have w2 : Aside0 (wrap64 ((l.length : Int) - 1 - p) = (l.length : Int) - 1 - p) := ⟨wrap_id (by omega) (by omega)⟩
      have w3 : Aside0 (mx ((l.length : Int) - 1 - p) 0 = max 0 ((l.length : Int) - 1 - p)) := ⟨by rw [mx_eq]; omega⟩
      simp only [w1.out, w2.out, w3.out]
      refine ev_pos (by simpa using h3) (ev_pos (by omega) (ev_pos (by omega) (ev_pos (by omega) (ev_pos (by omega) ?_))))
      exact Ev.bind (implMakeRatio_ev _ _) (Ev.now _)
    · rw [if_neg (fun z => h3 z.2.2)]
      exact ev_neg (by simpa using h3) (Ev.now _)
  · rw [if_neg (fun z => h1 z.1)]
    exact Ev.now _

theorem eqRatio_eq (a b : Int) : laws_eqRatio.f a b a b = some true := by simp [laws_eqRatio.f]
theorem specLastRate_ev (l : List S107) (h : l.length ≤ 1048576) : Ev (fun k => spec_LastRate.f k l) (meanM l 1) := by
  simp only [spec_LastRate.f]
  exact Ev.bind (specMeanRate_ev l 1 h) (Ev.now _)
theorem implLastRate_ev (l : List S107) (h : l.length ≤ 1048576) : Ev (fun k => impl_LastRate.f k l) (meanM l 1) := by
  simp only [impl_LastRate.f]
  exact Ev.bind (implMeanRate_ev l 1 h) (Ev.now _)
theorem FnExactLastRate : ∀ (l0 : List (S110)), (l0.length ≤ maxLen) → (∀ x ∈ l0, ((Lit.int .i64 x.f0).wf = true) ∧ ((Lit.int .i64 x.f1).wf = true)) → ∃ k, laws_FnExactLastRate.f k l0 = some true := by
  intro l hl _
  refine Ev.rounds ?_
  simp only [laws_FnExactLastRate.f]
  obtain ⟨r, hr, hb⟩ := szPointS_some l hl
  refine ev_val hr (ev_ite (fun _ => Ev.now _) (fun h => ?_))
  have hn := hb h
  have hm : (l.map cvPoint).length ≤ 1048576 := by rw [List.length_map]; exact hn
  refine Ev.bind (toPointS_ev l hn) (Ev.bind (specLastRate_ev _ hm) (Ev.bind (toPointS_ev l hn) (Ev.bind (implLastRate_ev _ hm) (ev_val (eqRatio_eq _ _) (ev_pos (by trivial) (ev_tail ?_))))))
  simp only [laws_FnExactLastRate.j0]
  refine ev_neg (by simp) ?_
  exact Ev.bind (toPointS_ev l hn) (Ev.bind (eqPointS_ev _ hm) (ev_pos (by trivial) (Ev.now _)))
end Go.Proofs.Ytnaoogkklkhpnaa.Pure
