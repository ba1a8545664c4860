/-
ExpectMs of the program and of the reference: the same answer.
Conditions: none.
-/
import Derived.Test.YtlkcbmcbmanmiaaPFnExactExpectMsx10
import Derived.Test.YtlkcbmcbmanmiaaBase
namespace Go.Proofs.Ytlkcbmcbmanmiaa.Pure
open Go.RowKit Go.Proofs.Ytlkcbmcbmanmiaa.PFnExactExpectMs Go.Proofs.YtlkcbmcbmanmiaaW.PrintWords Go.Proofs.YtlkcbmcbmanmiaaW.PrintLast Go.Proofs.YtlkcbmcbmanmiaaW.PrintMore Go.Proofs.Ytlkcbmcbmanmiaa.Base
set_option linter.unusedVariables false
set_option linter.unusedSimpArgs false

theorem l1In_eq (a b c : Int) : spec_l1In.f a b c = some (decide (b ≤ a ∧ a ≤ c)) := by
  unfold spec_l1In.f
  by_cases h1 : b ≤ a <;> by_cases h2 : a ≤ c <;> simp [h1, h2]
theorem InRange_eq (a b c : Int) : impl_InRange.f a b c = some (decide (b ≤ a ∧ a ≤ c)) := by
  unfold impl_InRange.f
  by_cases h1 : b ≤ a <;> by_cases h2 : a ≤ c <;> simp [h1, h2]

def cvPoint (x : S95) : S91 := ⟨x.f0, x.f1⟩
theorem rdLPoint (pre : List S95) (x : S95) (t : List S95) : rd_T95 (pre ++ x :: t) ((pre.length : Nat) : Int) = x := getD_mid pre x t z95
theorem rdIPoint (pre : List S91) (x : S91) (t : List S91) : rd_T91 (pre ++ x :: t) ((pre.length : Nat) : Int) = x := getD_mid pre x t z91
theorem toPointS_l0 (suf : List S95) : ∀ pre : List S95, (pre ++ suf).length ≤ 1048576 → Ev (fun k => laws_toPointS.l0 k (pre ++ suf) (pre.map cvPoint ++ List.replicate suf.length z91) (pre.length : Int)) ((pre ++ suf).map cvPoint) := by
  induction suf with
  | nil =>
    intro pre h
    refine ev_tail ?_
    simp only [laws_toPointS.l0]
    refine ev_neg (by simp) ?_
    exact ev_eq (Ev.now _) (by simp)
  | cons x t ih =>
    intro pre h
    have e := ih (pre ++ [x]) (by simpa using h)
    simp only [List.length_append, List.length_cons] at h
    refine ev_tail ?_
    simp only [laws_toPointS.l0, laws_toPoint.f, Option.bind_some]
    refine ev_pos (by simp; omega) (ev_pos (by omega) (ev_pos (by simp; omega) ?_))
    rw [rdLPoint, List.length_cons, List.replicate_succ]
    have e1 : (pre.map cvPoint ++ z91 :: List.replicate t.length z91).set ((pre.length : Nat) : Int).toNat (⟨x.f0, x.f1⟩ : S91) = (pre ++ [x]).map cvPoint ++ List.replicate t.length z91 := by
      simp [cvPoint]
    rw [e1, wrap_succ (by omega), snoc_cons pre x t, ← length_snoc pre x]
    exact e
theorem toPointS_ev (l : List S95) (h : l.length ≤ 1048576) : Ev (fun k => laws_toPointS.f k l) (l.map cvPoint) := by
  simp only [laws_toPointS.f]
  refine ev_pos (by omega) (ev_pos (by omega) ?_)
  exact toPointS_l0 l [] (by simpa using h)

theorem eqPointS_l0 (suf : List S91) : ∀ pre : List S91, (pre ++ suf).length ≤ 1048576 → Ev (fun k => laws_eqPointS.l0 k (pre ++ suf) (pre ++ suf) (pre.length : Int)) true := by
  induction suf with
  | nil =>
    intro pre h
    refine ev_tail ?_
    simp only [laws_eqPointS.l0]
    exact ev_neg (by simp) (Ev.now true)
  | cons x t ih =>
    intro pre h
    have e := ih (pre ++ [x]) (by simpa using h)
    simp only [List.length_append, List.length_cons] at h
    refine ev_tail ?_
    simp only [laws_eqPointS.l0, laws_eqPoint.f, if_true, Option.bind_some]
    refine ev_pos (by simp; omega) (ev_pos (by omega) (ev_pos (by simp; omega) ?_))
    rw [wrap_succ (by omega), snoc_cons pre x t, ← length_snoc pre x]
    exact e
theorem eqPointS_ev (l : List S91) (h : l.length ≤ 1048576) : Ev (fun k => laws_eqPointS.f k l l) true := by
  simp only [laws_eqPointS.f]
  refine ev_pos (by trivial) ?_
  exact eqPointS_l0 l [] (by simpa using h)

theorem szPointS_some (l : List S95) (h : l.length ≤ maxLen) : ∃ r, laws_szPointS.f l 1048576 = some r ∧ (¬ r < 0 → l.length ≤ 1048576) := by
  have hm : maxLen = 9223372036854775807 := rfl
  unfold laws_szPointS.f
  rw [wrap_id (by omega) (by omega)]
  by_cases h0 : (1048576 : Int) - (l.length : Int) < 0
  · exact ⟨-1, by rw [if_pos h0], fun h => absurd (by omega) h⟩
  · exact ⟨_, by rw [if_neg h0], fun _ => by omega⟩

def apC (l : List S91) (i : Int) : Bool := decide (0 ≤ (rd_T91 l i).f0 ∧ (rd_T91 l i).f0 ≤ 2000 ∧ 0 ≤ (rd_T91 l i).f1 ∧ (rd_T91 l i).f1 ≤ 10000000 ∧ (0 < i → (rd_T91 l (i - 1)).f0 < (rd_T91 l i).f0 ∧ (rd_T91 l (i - 1)).f1 < (rd_T91 l i).f1))
def arePM (l : List S91) : Bool := allF (apC l) (decide ((l.length : Int) ≤ 60)) l.length 0
theorem specArePoints_ev (l : List S91) (h : l.length ≤ 1048576) : Ev (fun k => spec_ArePoints.f k l) (arePM l) := by
  simp only [spec_ArePoints.f]
  refine ev_all (L := fun k i => spec_ArePoints.l0 k l i) (n := l.length) (fun i hi => ?_) ?_ l.length 0 (by omega)
  · have w1 : wrap64 ((i : Int) + 1) = (i : Int) + 1 := wrap_id (by omega) (by omega)
    have w2 : wrap64 ((i : Int) - 1) = (i : Int) - 1 := wrap_id (by omega) (by omega)
    constructor
    · intro hc r e
      simp only [apC, decide_eq_true_eq] at hc
      obtain ⟨h1, h2, h3, h4, h5⟩ := hc
      refine ev_tail ?_
      simp only [spec_ArePoints.l0, l1In_eq, Option.bind_some, w1, w2]
      refine ev_pos (by omega) (ev_pos (by omega) (ev_pos (by simpa using ⟨h1, h2⟩) (ev_pos (by simpa using ⟨h3, h4⟩) ?_)))
      refine ev_ite (fun h0 => ?_) (fun _ => e)
      have := h5 h0
      exact ev_pos (by omega) (ev_pos (by omega) (ev_neg (by omega) (ev_neg (by omega) e)))
    · intro hc
      simp only [apC, decide_eq_false_iff_not] at hc
      refine ev_tail ?_
      simp only [spec_ArePoints.l0, l1In_eq, Option.bind_some, w1, w2]
      refine ev_pos (by omega) (ev_pos (by omega) (ev_ite (fun h1 => ev_ite (fun h2 => ?_) (fun _ => Ev.now _)) (fun _ => Ev.now _)))
      simp only [decide_eq_true_eq] at h1 h2
      refine ev_ite (fun h0 => ?_) (fun h0 => absurd ⟨h1.1, h1.2, h2.1, h2.2, fun h => absurd h h0⟩ hc)
      refine ev_pos (by omega) (ev_pos (by omega) (ev_ite (fun _ => Ev.now _) (fun h3 => ev_ite (fun _ => Ev.now _) (fun h4 => ?_))))
      exact absurd ⟨h1.1, h1.2, h2.1, h2.2, fun _ => ⟨by omega, by omega⟩⟩ hc
  · refine ev_tail ?_
    simp only [spec_ArePoints.l0]
    exact ev_neg (by omega) (Ev.now _)
theorem implArePoints_ev (l : List S91) (h : l.length ≤ 1048576) : Ev (fun k => impl_ArePoints.f k l) (arePM l) := by
  simp only [impl_ArePoints.f]
  refine ev_all (L := fun k i => impl_ArePoints.l0 k l l (l.length : Int) i) (n := l.length) (fun i hi => ?_) ?_ l.length 0 (by omega)
  · have w1 : wrap64 ((i : Int) + 1) = (i : Int) + 1 := wrap_id (by omega) (by omega)
    have w2 : wrap64 ((i : Int) - 1) = (i : Int) - 1 := wrap_id (by omega) (by omega)
    constructor
    · intro hc r e
      simp only [apC, decide_eq_true_eq] at hc
      obtain ⟨h1, h2, h3, h4, h5⟩ := hc
      refine ev_tail ?_
      simp only [impl_ArePoints.l0, InRange_eq, Option.bind_some, w1, w2]
      refine ev_pos (by omega) (ev_pos (by omega) (ev_pos (by omega) (ev_pos (by simpa using ⟨h1, h2⟩) (ev_pos (by simpa using ⟨h3, h4⟩) ?_))))
      refine ev_ite (fun h0 => ?_) (fun _ => e)
      have := h5 h0
      exact ev_pos (by omega) (ev_pos (by omega) (ev_neg (by omega) (ev_neg (by omega) e)))
    · intro hc
      simp only [apC, decide_eq_false_iff_not] at hc
      refine ev_tail ?_
      simp only [impl_ArePoints.l0, InRange_eq, Option.bind_some, w1, w2]
      refine ev_pos (by omega) (ev_pos (by omega) (ev_pos (by omega) (ev_ite (fun h1 => ev_ite (fun h2 => ?_) (fun _ => Ev.now _)) (fun _ => Ev.now _))))
      simp only [decide_eq_true_eq] at h1 h2
      refine ev_ite (fun h0 => ?_) (fun h0 => absurd ⟨h1.1, h1.2, h2.1, h2.2, fun h => absurd h h0⟩ hc)
      refine ev_pos (by omega) (ev_pos (by omega) (ev_ite (fun _ => Ev.now _) (fun h3 => ev_ite (fun _ => Ev.now _) (fun h4 => ?_))))
      exact absurd ⟨h1.1, h1.2, h2.1, h2.2, fun _ => ⟨by omega, by omega⟩⟩ hc
  · refine ev_tail ?_
    simp only [impl_ArePoints.l0]
    exact ev_neg (by omega) (Ev.now _)

def gcdI (a b : Int) : Int := ((Nat.gcd a.natAbs b.natAbs : Nat) : Int)
theorem tmod_nat (a b : Nat) : Int.tmod (a : Int) (b : Int) = ((a % b : Nat) : Int) := rfl
theorem specGcd_l0 (b : Nat) : ∀ a : Nat, Ev (fun k => spec_l4Gcd.l0 k (a : Int) (b : Int)) ((Nat.gcd a b : Nat) : Int) := by
  induction b using Nat.strongRecOn with
  | _ b ih =>
    intro a
    refine ev_tail ?_
    simp only [spec_l4Gcd.l0]
    by_cases h : b = 0
    · subst h
      exact ev_pos (by simp) (ev_eq (Ev.now _) (by simp))
    · refine ev_neg (by omega) ?_
      rw [tmod_nat]
      have e := ih (a % b) (Nat.mod_lt _ (by omega)) b
      rw [Nat.gcd_comm b (a % b), ← Nat.gcd_rec b a, Nat.gcd_comm b a] at e
      exact e
theorem implGcd_l0 (b : Nat) : ∀ a : Nat, Ev (fun k => impl_divisor.l0 k (a : Int) (b : Int)) ((Nat.gcd a b : Nat) : Int) := by
  induction b using Nat.strongRecOn with
  | _ b ih =>
    intro a
    refine ev_tail ?_
    simp only [impl_divisor.l0]
    by_cases h : b = 0
    · subst h
      exact ev_pos (by simp) (ev_eq (Ev.now _) (by simp))
    · refine ev_neg (by omega) ?_
      rw [tmod_nat]
      have e := ih (a % b) (Nat.mod_lt _ (by omega)) b
      rw [Nat.gcd_comm b (a % b), ← Nat.gcd_rec b a, Nat.gcd_comm b a] at e
      exact e
theorem specGcd_ev (a b : Int) (ha : 0 ≤ a) (hb : 0 ≤ b) : Ev (fun k => spec_l4Gcd.f k a b) (gcdI a b) := by
  simp only [spec_l4Gcd.f, gcdI]
  have e := specGcd_l0 b.natAbs a.natAbs
  rw [show ((a.natAbs : Nat) : Int) = a by omega, show ((b.natAbs : Nat) : Int) = b by omega] at e
  exact e
theorem implGcd_ev (a b : Int) (ha : 0 ≤ a) (hb : 0 ≤ b) : Ev (fun k => impl_divisor.f k a b) (gcdI a b) := by
  simp only [impl_divisor.f, gcdI]
  have e := implGcd_l0 b.natAbs a.natAbs
  rw [show ((a.natAbs : Nat) : Int) = a by omega, show ((b.natAbs : Nat) : Int) = b by omega] at e
  exact e
theorem gcdI_abs (a b : Int) : gcdI ((a.natAbs : Nat) : Int) b = gcdI a b := by simp [gcdI]
theorem gcdI_nonneg (a b : Int) : 0 ≤ gcdI a b := by unfold gcdI; omega
theorem gcdI_pos (a b : Int) (h : 0 < b) : 0 < gcdI a b := by
  unfold gcdI
  have := Nat.gcd_pos_of_pos_right a.natAbs (show 0 < b.natAbs by omega)
  omega
theorem l4Abs_eq (a : Int) (h : -9223372036854775807 ≤ a) (h2 : a ≤ 9223372036854775807) : spec_l4Abs.f a = some ((a.natAbs : Nat) : Int) := by
  unfold spec_l4Abs.f
  by_cases h0 : a < 0
  · rw [if_pos h0, wrap_id (by omega) (by omega)]; congr 1; omega
  · rw [if_neg h0]; congr 1; omega
theorem mx_abs (a : Int) (h : -9223372036854775807 ≤ a) (h2 : a ≤ 9223372036854775807) : mx a (wrap64 (-a)) = ((a.natAbs : Nat) : Int) := by
  rw [wrap_id (by omega) (by omega), mx_eq]; omega
def ratioOK (n d : Int) : Bool := decide (1 ≤ d ∧ d ≤ 1000000 ∧ -1000000000 ≤ n ∧ n ≤ 1000000000) && (gcdI n d == 1)
theorem specIsRatio_ev (n d : Int) : Ev (fun k => spec_IsRatio.f k n d) (ratioOK n d) := by
  simp only [spec_IsRatio.f, l1In_eq, Option.bind_some, ratioOK]
  by_cases h1 : 1 ≤ d ∧ d ≤ 1000000
  · refine ev_pos (by simpa using h1) ?_
    by_cases h2 : -1000000000 ≤ n ∧ n ≤ 1000000000
    · refine ev_pos (by simpa using h2) (ev_val (l4Abs_eq n (by omega) (by omega)) (Ev.bind (specGcd_ev _ d (by omega) (by omega)) ?_))
      rw [gcdI_abs, decide_eq_true ⟨h1.1, h1.2, h2.1, h2.2⟩, Bool.true_and]
      exact Ev.now _
    · refine ev_neg (by simpa using h2) (ev_eq (Ev.now _) ?_)
      rw [decide_eq_false (fun z => h2 ⟨z.2.2.1, z.2.2.2⟩), Bool.false_and]
  · refine ev_neg (by simpa using h1) (ev_eq (Ev.now _) ?_)
    rw [decide_eq_false (fun z => h1 ⟨z.1, z.2.1⟩), Bool.false_and]
theorem implIsRatio_ev (n d : Int) : Ev (fun k => impl_IsRatio.f k n d) (ratioOK n d) := by
  simp only [impl_IsRatio.f, InRange_eq, Option.bind_some, ratioOK]
  by_cases h1 : 1 ≤ d ∧ d ≤ 1000000
  · refine ev_pos (by simpa using h1) ?_
    by_cases h2 : -1000000000 ≤ n ∧ n ≤ 1000000000
    · refine ev_pos (by simpa using h2) ?_
      rw [mx_abs n (by omega) (by omega)]
      refine Ev.bind (implGcd_ev _ d (by omega) (by omega)) ?_
      rw [gcdI_abs, decide_eq_true ⟨h1.1, h1.2, h2.1, h2.2⟩, Bool.true_and]
      exact Ev.now _
    · refine ev_neg (by simpa using h2) (ev_eq (Ev.now _) ?_)
      rw [decide_eq_false (fun z => h2 ⟨z.2.2.1, z.2.2.2⟩), Bool.false_and]
  · refine ev_neg (by simpa using h1) (ev_eq (Ev.now _) ?_)
    rw [decide_eq_false (fun z => h1 ⟨z.1, z.2.1⟩), Bool.false_and]
/-- A fraction in lowest terms, if it is a ratio (d above 0). -/
def lowM (n d : Int) : Int × Int × Bool :=
  if ratioOK (Int.tdiv n (gcdI n d)) (Int.tdiv d (gcdI n d)) = true then (Int.tdiv n (gcdI n d), Int.tdiv d (gcdI n d), true) else (0, 0, false)
theorem tdiv_bd (n g : Int) (B : Int) (hB : 0 ≤ B) (h1 : -B ≤ n) (h2 : n ≤ B) (hg : 0 < g) : -B ≤ Int.tdiv n g ∧ Int.tdiv n g ≤ B := by
  have h := Int.natAbs_tdiv_le_natAbs n g
  omega
def makeM (n d : Int) : Int × Int × Bool :=
  if -1000000000000000 ≤ n ∧ n ≤ 1000000000000000 ∧ -1000000000000000 ≤ d ∧ d ≤ 1000000000000000 ∧ d ≠ 0 then (if d < 0 then lowM (-n) (-d) else lowM n d) else (0, 0, false)
theorem specMake_j1 (n d : Int) (h1 : -1000000000000000000 ≤ n) (h2 : n ≤ 1000000000000000000) (h3 : 0 < d) (h4 : d ≤ 1000000000000000000) : Ev (fun k => spec_MakeRatio.j1 k n d) (lowM n d) := by
  refine ev_tail ?_
  simp only [spec_MakeRatio.j1]
  refine ev_val (l4Abs_eq n (by omega) (by omega)) (Ev.bind (specGcd_ev _ d (by omega) (by omega)) ?_)
  rw [gcdI_abs]
  have hg := gcdI_pos n d h3
  have b1 := tdiv_bd n (gcdI n d) 1000000000000000000 (by omega) h1 h2 hg
  have b2 := tdiv_bd d (gcdI n d) 1000000000000000000 (by omega) (by omega) h4 hg
  rw [wrap_id (n := Int.tdiv n (gcdI n d)) (by omega) (by omega), wrap_id (n := Int.tdiv d (gcdI n d)) (by omega) (by omega)]
  refine ev_neg (by omega) (Ev.bind (specIsRatio_ev _ _) ?_)
  unfold lowM
  exact ev_ite (fun h => by rw [if_pos h]; exact Ev.now _) (fun h => by rw [if_neg h]; exact Ev.now _)
theorem implLow_j0 (n d : Int) (h1 : -1000000000000000000 ≤ n) (h2 : n ≤ 1000000000000000000) (h3 : 0 < d) (h4 : d ≤ 1000000000000000000) : Ev (fun k => impl_lowest.j0 k n d) (lowM n d) := by
  refine ev_tail ?_
  simp only [impl_lowest.j0]
  rw [mx_abs n (by omega) (by omega)]
  refine ev_neg (by omega) (Ev.bind (implGcd_ev _ d (by omega) (by omega)) ?_)
  rw [gcdI_abs]
  have hg := gcdI_pos n d h3
  have b1 := tdiv_bd n (gcdI n d) 1000000000000000000 (by omega) h1 h2 hg
  have b2 := tdiv_bd d (gcdI n d) 1000000000000000000 (by omega) (by omega) h4 hg
  rw [wrap_id (n := Int.tdiv n (gcdI n d)) (by omega) (by omega), wrap_id (n := Int.tdiv d (gcdI n d)) (by omega) (by omega)]
  refine ev_neg (by omega) (Ev.bind (implIsRatio_ev _ _) ?_)
  unfold lowM
  exact ev_ite (fun h => by rw [if_pos h]; exact Ev.now _) (fun h => by rw [if_neg h]; exact Ev.now _)
theorem specMake_j0 (n d : Int) (x : Bool) (h : x = true) : Ev (fun k => spec_MakeRatio.j0 k n d x) (0, 0, false) := by
  subst h
  refine ev_tail ?_
  simp only [spec_MakeRatio.j0]
  exact ev_pos (by trivial) (Ev.now _)
theorem specMakeRatio_ev (n d : Int) : Ev (fun k => spec_MakeRatio.f k n d) (makeM n d) := by
  simp only [spec_MakeRatio.f, l1In_eq, Option.bind_some, makeM]
  by_cases h1 : -1000000000000000 ≤ n ∧ n ≤ 1000000000000000
  · refine ev_pos (by simpa using h1) ?_
    by_cases h2 : -1000000000000000 ≤ d ∧ d ≤ 1000000000000000
    · refine ev_pos (by simpa using h2) ?_
      by_cases h3 : d = 0
      · rw [if_neg (fun z => z.2.2.2.2 h3)]
        exact specMake_j0 n d _ (by simpa using h3)
      · rw [if_pos ⟨h1.1, h1.2, h2.1, h2.2, h3⟩]
        refine ev_tail ?_
        simp only [spec_MakeRatio.j0]
        refine ev_neg (by simpa using h3) (ev_ite (fun h4 => ?_) (fun h4 => ?_))
        · rw [if_pos h4, wrap_id (n := -n) (by omega) (by omega), wrap_id (n := -d) (by omega) (by omega)]
          exact specMake_j1 _ _ (by omega) (by omega) (by omega) (by omega)
        · rw [if_neg h4]
          exact specMake_j1 _ _ (by omega) (by omega) (by omega) (by omega)
    · rw [if_neg (fun z => h2 ⟨z.2.2.1, z.2.2.2.1⟩)]
      exact ev_neg (by simpa using h2) (specMake_j0 n d _ rfl)
  · rw [if_neg (fun z => h1 ⟨z.1, z.2.1⟩)]
    exact ev_neg (by simpa using h1) (specMake_j0 n d _ rfl)
/-- impl.lowest: as it stands, d any number. -/
def lowestM (n d : Int) : Int × Int × Bool := if d = 0 then (0, 0, false) else if d < 0 then lowM (-n) (-d) else lowM n d
theorem implLowest_ev (n d : Int) (h1 : -1000000000000000000 ≤ n) (h2 : n ≤ 1000000000000000000) (h3 : -1000000000000000000 ≤ d) (h4 : d ≤ 1000000000000000000) : Ev (fun k => impl_lowest.f k n d) (lowestM n d) := by
  simp only [impl_lowest.f, lowestM]
  by_cases h5 : d = 0
  · rw [if_pos h5]
    subst h5
    refine ev_neg (by omega) (ev_tail ?_)
    simp only [impl_lowest.j0]
    exact ev_pos (by trivial) (Ev.now _)
  · rw [if_neg h5]
    refine ev_ite (fun h6 => ?_) (fun h6 => ?_)
    · rw [if_pos h6, wrap_id (n := -n) (by omega) (by omega), wrap_id (n := -d) (by omega) (by omega)]
      exact implLow_j0 _ _ (by omega) (by omega) (by omega) (by omega)
    · rw [if_neg h6]
      exact implLow_j0 _ _ (by omega) (by omega) (by omega) (by omega)
theorem implMakeRatio_ev (n d : Int) : Ev (fun k => impl_MakeRatio.f k n d) (makeM n d) := by
  simp only [impl_MakeRatio.f, InRange_eq, Option.bind_some, makeM]
  by_cases h1 : -1000000000000000 ≤ n ∧ n ≤ 1000000000000000
  · refine ev_pos (by simpa using h1) ?_
    by_cases h2 : -1000000000000000 ≤ d ∧ d ≤ 1000000000000000
    · refine ev_pos (by simpa using h2) (Ev.bind (implLowest_ev n d (by omega) (by omega) (by omega) (by omega)) (ev_eq (Ev.now _) ?_))
      unfold lowestM
      by_cases h3 : d = 0
      · rw [if_pos h3, if_neg (fun z => z.2.2.2.2 h3)]
      · have hh : -1000000000000000 ≤ n ∧ n ≤ 1000000000000000 ∧ -1000000000000000 ≤ d ∧ d ≤ 1000000000000000 ∧ d ≠ 0 := ⟨h1.1, h1.2, h2.1, h2.2, h3⟩
        rw [if_neg h3, if_pos hh]
    · rw [if_neg (fun z => h2 ⟨z.2.2.1, z.2.2.2.1⟩)]
      exact ev_neg (by simpa using h2) (Ev.now _)
  · rw [if_neg (fun z => h1 ⟨z.1, z.2.1⟩)]
    exact ev_neg (by simpa using h1) (Ev.now _)

def modM (p q : Int) : Int := if 1 ≤ q ∧ q ≤ 1000000000000 then Int.tmod (wrap64 (Int.tmod p q + q)) q else 0
theorem specMod_eq (p q : Int) : spec_Mod.f p q = some (modM p q) := by
  simp only [spec_Mod.f, l1In_eq, Option.bind_some, modM]
  by_cases h : 1 ≤ q ∧ q ≤ 1000000000000
  · rw [if_pos (by simpa using h), if_neg (by omega), if_pos h]
  · rw [if_neg (by simpa using h), if_neg h]
theorem implMod_eq (p q : Int) : impl_Mod.f p q = some (modM p q) := by
  simp only [impl_Mod.f, InRange_eq, Option.bind_some, modM]
  by_cases h : 1 ≤ q ∧ q ≤ 1000000000000
  · rw [if_pos (by simpa using h), if_neg (by omega), if_pos h]
  · rw [if_neg (by simpa using h), if_neg h]

theorem arePM_len {l : List S91} (h : arePM l = true) : l.length ≤ 60 := by
  unfold arePM at h
  rw [allF_iff] at h
  have := h.1
  simp only [decide_eq_true_eq] at this
  omega
theorem specMax_eq (a b : Int) : spec_Max.f a b = some (max a b) := by
  unfold spec_Max.f
  split <;> (congr 1; omega)
def meanM (l : List S91) (p : Int) : Int × Int × Bool :=
  if arePM l = true ∧ 2 ≤ l.length ∧ 1 ≤ p ∧ p ≤ 60 then
    makeM (wrap64 ((rd_T91 l ((l.length : Int) - 1)).f1 - (rd_T91 l (max 0 ((l.length : Int) - 1 - p))).f1)) (wrap64 ((rd_T91 l ((l.length : Int) - 1)).f0 - (rd_T91 l (max 0 ((l.length : Int) - 1 - p))).f0))
  else (0, 0, false)
theorem specMean_j0 (l : List S91) (p : Int) (x : Bool) (h : x = true) : Ev (fun k => spec_MeanRate.j0 k l p x) (0, 0, false) := by
  subst h
  refine ev_tail ?_
  simp only [spec_MeanRate.j0]
  exact ev_pos (by trivial) (Ev.now _)
theorem specMeanRate_ev (l : List S91) (p : Int) (h : l.length ≤ 1048576) : Ev (fun k => spec_MeanRate.f k l p) (meanM l p) := by
  simp only [spec_MeanRate.f, l1In_eq, Option.bind_some, meanM]
  refine Ev.bind (specArePoints_ev l h) (ev_ite (fun h1 => ev_ite (fun h2 => ?_) (fun h2 => ?_)) (fun h1 => ?_))
  · rw [if_neg (fun z => by omega)]
    exact specMean_j0 l p _ rfl
  · by_cases h3 : 1 ≤ p ∧ p ≤ 60
    · rw [if_pos ⟨h1, by omega, h3.1, h3.2⟩]
      have w1 : Aside0 (wrap64 ((l.length : Int) - 1) = (l.length : Int) - 1) := ⟨wrap_id (by omega) (by omega)⟩
      have w2 : Aside0 (wrap64 ((l.length : Int) - 1 - p) = (l.length : Int) - 1 - p) := ⟨wrap_id (by omega) (by omega)⟩
      refine ev_tail ?_
      simp only [spec_MeanRate.j0, w1.out, w2.out, specMax_eq, Option.bind_some]
      refine ev_neg (by simp; omega) (ev_pos (by omega) (ev_pos (by omega) (ev_pos (by omega) (ev_pos (by omega) ?_))))
      exact Ev.bind (specMakeRatio_ev _ _) (Ev.now _)
    · rw [if_neg (fun z => h3 z.2.2)]
      exact specMean_j0 l p _ (by simp; omega)
  · rw [if_neg (fun z => h1 z.1)]
    exact specMean_j0 l p _ rfl
theorem implMeanRate_ev (l : List S91) (p : Int) (h : l.length ≤ 1048576) : Ev (fun k => impl_MeanRate.f k l p) (meanM l p) := by
  simp only [impl_MeanRate.f, InRange_eq, Option.bind_some, meanM]
  refine Ev.bind (implArePoints_ev l h) (ev_ite (fun h1 => ev_ite (fun h2 => ?_) (fun h2 => ?_)) (fun h1 => ?_))
  · rw [if_neg (fun z => by omega)]
    exact Ev.now _
  · by_cases h3 : 1 ≤ p ∧ p ≤ 60
    · rw [if_pos ⟨h1, by omega, h3.1, h3.2⟩]
      have w1 : Aside0 (wrap64 ((l.length : Int) - 1) = (l.length : Int) - 1) := ⟨wrap_id (by omega) (by omega)⟩
      have w2 : Aside0 (wrap64 ((l.length : Int) - 1 - p) = (l.length : Int) - 1 - p) := ⟨wrap_id (by omega) (by omega)⟩
      have w3 : Aside0 (mx ((l.length : Int) - 1 - p) 0 = max 0 ((l.length : Int) - 1 - p)) := ⟨by rw [mx_eq]; omega⟩
      simp only [w1.out, w2.out, w3.out]
      refine ev_pos (by simpa using h3) (ev_pos (by omega) (ev_pos (by omega) (ev_pos (by omega) (ev_pos (by omega) ?_))))
      exact Ev.bind (implMakeRatio_ev _ _) (Ev.now _)
    · rw [if_neg (fun z => h3 z.2.2)]
      exact ev_neg (by simpa using h3) (Ev.now _)
  · rw [if_neg (fun z => h1 z.1)]
    exact Ev.now _

theorem ratioOK_facts {n d : Int} (h : ratioOK n d = true) : (1 ≤ d ∧ d ≤ 1000000) ∧ (-1000000000 ≤ n ∧ n ≤ 1000000000) ∧ gcdI n d = 1 := by
  unfold ratioOK at h
  simp only [Bool.and_eq_true, decide_eq_true_eq, beq_iff_eq] at h
  exact ⟨⟨h.1.1, h.1.2.1⟩, ⟨h.1.2.2.1, h.1.2.2.2⟩, h.2⟩
theorem ratioOK_one (t : Int) (h1 : -1000000000 ≤ t) (h2 : t ≤ 1000000000) : ratioOK t 1 = true := by
  unfold ratioOK
  simp only [Bool.and_eq_true, decide_eq_true_eq, beq_iff_eq]
  exact ⟨⟨by omega, by omega, h1, h2⟩, by simp [gcdI]⟩
theorem lowM_ok {n d : Int} (h : (lowM n d).2.2 = true) : ratioOK (lowM n d).1 (lowM n d).2.1 = true := by
  unfold lowM at h ⊢
  by_cases c : ratioOK (Int.tdiv n (gcdI n d)) (Int.tdiv d (gcdI n d)) = true
  · rw [if_pos c]; exact c
  · rw [if_neg c] at h; simp at h
theorem lowM_no {n d : Int} (h : ¬ (lowM n d).2.2 = true) : lowM n d = (0, 0, false) := by
  unfold lowM at h ⊢
  by_cases c : ratioOK (Int.tdiv n (gcdI n d)) (Int.tdiv d (gcdI n d)) = true
  · rw [if_pos c] at h; simp at h
  · rw [if_neg c]
theorem meanM_ok {l : List S91} {p : Int} (h : (meanM l p).2.2 = true) : ratioOK (meanM l p).1 (meanM l p).2.1 = true ∧ arePM l = true ∧ 2 ≤ l.length := by
  by_cases c : arePM l = true ∧ 2 ≤ l.length ∧ 1 ≤ p ∧ p ≤ 60
  · refine ⟨?_, c.1, c.2.1⟩
    unfold meanM at h ⊢
    rw [if_pos c] at h ⊢
    generalize wrap64 ((rd_T91 l ((l.length : Int) - 1)).f1 - (rd_T91 l (max 0 ((l.length : Int) - 1 - p))).f1) = n at h ⊢
    generalize wrap64 ((rd_T91 l ((l.length : Int) - 1)).f0 - (rd_T91 l (max 0 ((l.length : Int) - 1 - p))).f0) = d at h ⊢
    unfold makeM at h ⊢
    by_cases c2 : -1000000000000000 ≤ n ∧ n ≤ 1000000000000000 ∧ -1000000000000000 ≤ d ∧ d ≤ 1000000000000000 ∧ d ≠ 0
    · rw [if_pos c2] at h ⊢
      by_cases c3 : d < 0
      · rw [if_pos c3] at h ⊢; exact lowM_ok h
      · rw [if_neg c3] at h ⊢; exact lowM_ok h
    · rw [if_neg c2] at h; simp at h
  · unfold meanM at h
    rw [if_neg c] at h; simp at h
theorem arePM_at {l : List S91} (h : arePM l = true) (i : Nat) (hi : i < l.length) : (0 ≤ (rd_T91 l (i : Int)).f0 ∧ (rd_T91 l (i : Int)).f0 ≤ 2000) ∧ 0 ≤ (rd_T91 l (i : Int)).f1 ∧ (rd_T91 l (i : Int)).f1 ≤ 10000000 := by
  unfold arePM at h
  rw [allF_iff] at h
  have := h.2 i (by omega) (by omega)
  simp only [apC, decide_eq_true_eq] at this
  exact ⟨⟨this.1, this.2.1⟩, this.2.2.1, this.2.2.2.1⟩
theorem gcdI_mul (n t d : Int) (h : gcdI n d = 1) : gcdI (n * t) d = gcdI t d := by
  unfold gcdI at h ⊢
  have h1 : Nat.gcd n.natAbs d.natAbs = 1 := by omega
  rw [Int.natAbs_mul, Nat.Coprime.gcd_mul_left_cancel t.natAbs (Nat.Coprime.symm (Nat.Coprime.symm h1))]
theorem gcdI_dvd (a b : Int) : gcdI a b ∣ a := by
  unfold gcdI
  exact Int.ofNat_dvd_left.2 (Nat.gcd_dvd_left _ _)
theorem gcdI_one (n : Int) : gcdI n 1 = 1 := by simp [gcdI]
theorem mul_bd {a b A B : Int} (h1 : -A ≤ a) (h2 : a ≤ A) (h3 : -B ≤ b) (h4 : b ≤ B) (hA : 0 ≤ A) (hB : 0 ≤ B) : -(A * B) ≤ a * b ∧ a * b ≤ A * B := by
  have h : (a * b).natAbs ≤ (A * B).natAbs := by
    rw [Int.natAbs_mul, Int.natAbs_mul]
    exact Nat.mul_le_mul (by omega) (by omega)
  have h5 : 0 ≤ A * B := Int.mul_nonneg hA hB
  omega
theorem specMul_ev (n d t : Int) (hr : ratioOK n d = true) (h1 : -2000 ≤ t) (h2 : t ≤ 2000) : Ev (fun k => spec_MulRatio.f k n d t 1) (lowM (n * t) d) := by
  obtain ⟨⟨d1, d2⟩, ⟨n1, n2⟩, hg⟩ := ratioOK_facts hr
  have hm := mul_bd n1 n2 h1 h2 (by omega) (by omega)
  simp only [spec_MulRatio.f]
  refine Ev.bind (specIsRatio_ev n d) (ev_pos hr ?_)
  have r1 := ratioOK_one t (by omega) (by omega)
  refine Ev.bind (specIsRatio_ev t 1) (ev_tail ?_)
  simp only [spec_MulRatio.j0]
  refine ev_neg (by rw [r1]; simp) ?_
  refine ev_val (l4Abs_eq n (by omega) (by omega)) (Ev.bind (specGcd_ev _ 1 (by omega) (by omega)) ?_)
  rw [gcdI_one]
  refine ev_val (l4Abs_eq t (by omega) (by omega)) (Ev.bind (specGcd_ev _ d (by omega) (by omega)) ?_)
  rw [gcdI_abs]
  have hp := gcdI_pos t d (by omega)
  have b1 := tdiv_bd t (gcdI t d) 2000 (by omega) h1 h2 hp
  have b2 := tdiv_bd d (gcdI t d) 1000000 (by omega) (by omega) d2 hp
  have hm2 := mul_bd n1 n2 b1.1 b1.2 (by omega) (by omega)
  have e1 : n * Int.tdiv t (gcdI t d) = Int.tdiv (n * t) (gcdI t d) := (Int.mul_tdiv_assoc n (gcdI_dvd t d)).symm
  rw [Int.tdiv_one, Int.tdiv_one, wrap_id (n := n) (by omega) (by omega), wrap_id (n := Int.tdiv t (gcdI t d)) (by omega) (by omega), wrap_id (n := Int.tdiv d (gcdI t d)) (by omega) (by omega), wrap_id (n := n * Int.tdiv t (gcdI t d)) (by omega) (by omega), wrap_id (n := 1) (by omega) (by omega), Int.mul_one, wrap_id (n := Int.tdiv d (gcdI t d)) (by omega) (by omega), e1]
  refine ev_neg (by omega) (ev_neg (by omega) (Ev.bind (specIsRatio_ev _ _) ?_))
  unfold lowM
  rw [gcdI_mul n t d hg]
  exact ev_ite (fun h => by rw [if_pos h]; exact Ev.now _) (fun h => by rw [if_neg h]; exact Ev.now _)
theorem lowest_pos (n d : Int) (h : 0 < d) : lowestM n d = lowM n d := by
  unfold lowestM
  rw [if_neg (by omega), if_neg (by omega)]
theorem implMul_ev (n d t : Int) (hr : ratioOK n d = true) (h1 : -2000 ≤ t) (h2 : t ≤ 2000) : Ev (fun k => impl_MulRatio.f k n d t 1) (lowM (n * t) d) := by
  obtain ⟨⟨d1, d2⟩, ⟨n1, n2⟩, hg⟩ := ratioOK_facts hr
  have hm := mul_bd n1 n2 h1 h2 (by omega) (by omega)
  simp only [impl_MulRatio.f]
  refine Ev.bind (implIsRatio_ev n d) (ev_pos hr (Ev.bind (implIsRatio_ev t 1) (ev_pos (ratioOK_one t (by omega) (by omega)) ?_)))
  rw [Int.mul_one, wrap_id (n := n * t) (by omega) (by omega), wrap_id (n := d) (by omega) (by omega)]
  refine Ev.bind (implLowest_ev (n * t) d (by omega) (by omega) (by omega) (by omega)) ?_
  rw [lowest_pos _ _ (by omega)]
  exact Ev.now _
/-- A ratio (if it is one) and a whole number. -/
def addM (n d m : Int) : Int × Int × Bool := if ratioOK n d = true then lowM (n + m * d) d else (0, 0, false)
theorem specAdd_ev (n d m : Int) (h1 : 0 ≤ m) (h2 : m ≤ 10000000) : Ev (fun k => spec_AddRatio.f k n d m 1) (addM n d m) := by
  simp only [spec_AddRatio.f]
  have r1 := ratioOK_one m (by omega) (by omega)
  refine Ev.bind (specIsRatio_ev n d) (ev_ite (fun hr => ?_) (fun hr => ?_))
  · obtain ⟨⟨d1, d2⟩, ⟨n1, n2⟩, hg⟩ := ratioOK_facts hr
    have hm := mul_bd (a := m) (b := d) (A := 10000000) (B := 1000000) (by omega) h2 (by omega) d2 (by omega) (by omega)
    refine Ev.bind (specIsRatio_ev m 1) (ev_tail ?_)
    simp only [spec_AddRatio.j0]
    refine ev_neg (by rw [r1]; simp) (Ev.bind (specGcd_ev d 1 (by omega) (by omega)) ?_)
    rw [gcdI_one, Int.tdiv_one, Int.tdiv_one, wrap_id (n := 1) (by omega) (by omega), wrap_id (n := d) (by omega) (by omega), Int.mul_one, Int.mul_one, wrap_id (n := n) (by omega) (by omega), wrap_id (n := m * d) (by omega) (by omega), wrap_id (n := n + m * d) (by omega) (by omega), wrap_id (n := d) (by omega) (by omega)]
    refine ev_neg (by omega) (ev_val (l4Abs_eq _ (by omega) (by omega)) (Ev.bind (specGcd_ev _ d (by omega) (by omega)) ?_))
    rw [gcdI_abs]
    have hp := gcdI_pos (n + m * d) d (by omega)
    have b1 := tdiv_bd (n + m * d) (gcdI (n + m * d) d) 100000000000000 (by omega) (by omega) (by omega) hp
    have b2 := tdiv_bd d (gcdI (n + m * d) d) 1000000 (by omega) (by omega) d2 hp
    rw [wrap_id (n := Int.tdiv (n + m * d) (gcdI (n + m * d) d)) (by omega) (by omega), wrap_id (n := Int.tdiv d (gcdI (n + m * d) d)) (by omega) (by omega)]
    refine ev_neg (by omega) (Ev.bind (specIsRatio_ev _ _) ?_)
    rw [addM, if_pos hr]
    unfold lowM
    exact ev_ite (fun h => by rw [if_pos h]; exact Ev.now _) (fun h => by rw [if_neg h]; exact Ev.now _)
  · refine ev_tail ?_
    simp only [spec_AddRatio.j0]
    rw [addM, if_neg hr]
    exact ev_pos (by trivial) (Ev.now _)
theorem implAdd_ev (n d m : Int) (h1 : 0 ≤ m) (h2 : m ≤ 10000000) : Ev (fun k => impl_AddRatio.f k m 1 n d) (addM n d m) := by
  simp only [impl_AddRatio.f]
  refine Ev.bind (implIsRatio_ev m 1) (ev_pos (ratioOK_one m (by omega) (by omega)) (Ev.bind (implIsRatio_ev n d) (ev_ite (fun hr => ?_) (fun hr => ?_))))
  · obtain ⟨⟨d1, d2⟩, ⟨n1, n2⟩, hg⟩ := ratioOK_facts hr
    have hm := mul_bd (a := m) (b := d) (A := 10000000) (B := 1000000) (by omega) h2 (by omega) d2 (by omega) (by omega)
    rw [Int.mul_one, Int.one_mul, wrap_id (n := m * d) (by omega) (by omega), wrap_id (n := n) (by omega) (by omega), wrap_id (n := m * d + n) (by omega) (by omega), wrap_id (n := d) (by omega) (by omega)]
    refine Ev.bind (implLowest_ev (m * d + n) d (by omega) (by omega) (by omega) (by omega)) ?_
    rw [lowest_pos _ _ (by omega), addM, if_pos hr, Int.add_comm n (m * d)]
    exact Ev.now _
  · rw [addM, if_neg hr]
    exact Ev.now _
def floorM (n d : Int) : Int := if ratioOK n d = true then wrap64 (Int.tdiv (wrap64 (n - modM n d)) d) else 0
theorem specFloor_ev (n d : Int) : Ev (fun k => spec_FloorRatio.f k n d) (floorM n d) := by
  simp only [spec_FloorRatio.f]
  refine Ev.bind (specIsRatio_ev n d) (ev_ite (fun hr => ?_) (fun hr => ?_))
  · have := (ratioOK_facts hr).1
    rw [floorM, if_pos hr]
    exact ev_val (specMod_eq n d) (ev_neg (by omega) (Ev.now _))
  · rw [floorM, if_neg hr]; exact Ev.now _
theorem implFloor_ev (n d : Int) : Ev (fun k => impl_FloorRatio.f k n d) (floorM n d) := by
  simp only [impl_FloorRatio.f]
  refine Ev.bind (implIsRatio_ev n d) (ev_ite (fun hr => ?_) (fun hr => ?_))
  · have := (ratioOK_facts hr).1
    rw [floorM, if_pos hr]
    exact ev_val (implMod_eq n d) (ev_neg (by omega) (Ev.now _))
  · rw [floorM, if_neg hr]; exact Ev.now _
def expTail (m o : Int × Int × Bool) : Int × Bool := if m.2.2 = true then (if o.2.2 = true then (floorM o.1 o.2.1, true) else (0, false)) else (0, false)
def expM (l : List S91) (p t : Int) : Int × Bool :=
  if (meanM l p).2.2 = true ∧ 0 ≤ t ∧ t ≤ 2000 then
    expTail (lowM ((meanM l p).1 * (t - (rd_T91 l ((l.length : Int) - 1)).f0)) (meanM l p).2.1)
      (addM (lowM ((meanM l p).1 * (t - (rd_T91 l ((l.length : Int) - 1)).f0)) (meanM l p).2.1).1 (lowM ((meanM l p).1 * (t - (rd_T91 l ((l.length : Int) - 1)).f0)) (meanM l p).2.1).2.1 (rd_T91 l ((l.length : Int) - 1)).f1)
  else (0, false)
theorem expM_facts {l : List S91} {p : Int} (hm : (meanM l p).2.2 = true) : 2 ≤ l.length ∧ l.length ≤ 60 ∧ (0 ≤ (rd_T91 l ((l.length : Int) - 1)).f0 ∧ (rd_T91 l ((l.length : Int) - 1)).f0 ≤ 2000) ∧ 0 ≤ (rd_T91 l ((l.length : Int) - 1)).f1 ∧ (rd_T91 l ((l.length : Int) - 1)).f1 ≤ 10000000 := by
  obtain ⟨_, ha, hl⟩ := meanM_ok hm
  have := arePM_at ha (l.length - 1) (by omega)
  rw [show ((l.length - 1 : Nat) : Int) = (l.length : Int) - 1 by omega] at this
  exact ⟨hl, arePM_len ha, this.1, this.2⟩
theorem specExpectMs_ev (l : List S91) (p t : Int) (h : l.length ≤ 1048576) : Ev (fun k => spec_ExpectMs.f k l p t) (expM l p t) := by
  simp only [spec_ExpectMs.f, l1In_eq, Option.bind_some]
  refine Ev.bind (specMeanRate_ev l p h) (ev_ite (fun hm => ?_) (fun hm => ?_))
  · obtain ⟨hl, _, ⟨f1, f2⟩, g1, g2⟩ := expM_facts hm
    refine ev_tail ?_
    simp only [spec_ExpectMs.j0]
    by_cases ht : 0 ≤ t ∧ t ≤ 2000
    · refine ev_neg (by simpa using ht) ?_
      have w1 : Aside0 (wrap64 ((l.length : Int) - 1) = (l.length : Int) - 1) := ⟨wrap_id (by omega) (by omega)⟩
      rw [w1.out, expM, if_pos ⟨hm, ht.1, ht.2⟩, wrap_id (n := t - (rd_T91 l ((l.length : Int) - 1)).f0) (by omega) (by omega)]
      refine ev_pos (by omega) (ev_pos (by omega) (Ev.bind (specMul_ev _ _ _ (meanM_ok hm).1 (by omega) (by omega)) (Ev.bind (specAdd_ev _ _ _ g1 g2) ?_)))
      unfold expTail
      refine ev_ite (fun a => ?_) (fun a => ?_)
      · rw [if_pos a]
        refine ev_ite (fun b => ?_) (fun b => ?_)
        · rw [if_pos b]; exact Ev.bind (specFloor_ev _ _) (Ev.now _)
        · rw [if_neg b]; exact Ev.now _
      · rw [if_neg a]; exact Ev.now _
    · refine ev_pos (by rw [decide_eq_false ht]; rfl) ?_
      rw [expM, if_neg (fun z => ht z.2)]
      exact Ev.now _
  · refine ev_tail ?_
    simp only [spec_ExpectMs.j0]
    rw [expM, if_neg (fun z => hm z.1)]
    exact ev_pos (by trivial) (Ev.now _)
theorem implExpectMs_ev (l : List S91) (p t : Int) (h : l.length ≤ 1048576) : Ev (fun k => impl_ExpectMs.f k l p t) (expM l p t) := by
  simp only [impl_ExpectMs.f, InRange_eq, Option.bind_some]
  refine Ev.bind (implMeanRate_ev l p h) (ev_ite (fun hm => ?_) (fun hm => ?_))
  · obtain ⟨hl, _, ⟨f1, f2⟩, g1, g2⟩ := expM_facts hm
    refine ev_tail ?_
    simp only [impl_ExpectMs.j0]
    by_cases ht : 0 ≤ t ∧ t ≤ 2000
    · refine ev_neg (by simpa using ht) ?_
      have w1 : Aside0 (wrap64 ((l.length : Int) - 1) = (l.length : Int) - 1) := ⟨wrap_id (by omega) (by omega)⟩
      rw [w1.out, expM, if_pos ⟨hm, ht.1, ht.2⟩, wrap_id (n := t - (rd_T91 l ((l.length : Int) - 1)).f0) (by omega) (by omega)]
      refine ev_pos (by omega) (ev_pos (by omega) (Ev.bind (implMul_ev _ _ _ (meanM_ok hm).1 (by omega) (by omega)) (Ev.bind (implAdd_ev _ _ _ g1 g2) ?_)))
      unfold expTail
      refine ev_ite (fun a => ?_) (fun a => ?_)
      · rw [if_pos a]
        refine ev_ite (fun b => ?_) (fun b => ?_)
        · rw [if_pos b]; exact Ev.bind (implFloor_ev _ _) (Ev.now _)
        · rw [if_neg b]; exact Ev.now _
      · rw [if_neg a]; exact Ev.now _
    · refine ev_pos (by rw [decide_eq_false ht]; rfl) ?_
      rw [expM, if_neg (fun z => ht z.2)]
      exact Ev.now _
  · refine ev_tail ?_
    simp only [impl_ExpectMs.j0]
    rw [expM, if_neg (fun z => hm z.1)]
    exact ev_pos (by trivial) (Ev.now _)

theorem FnExactExpectMs : ∀ (l0 : List (S95)) (a1 : Int) (a2 : Int), (l0.length ≤ maxLen) → (∀ x ∈ l0, ((Lit.int .i64 x.f0).wf = true) ∧ ((Lit.int .i64 x.f1).wf = true)) → (Lit.int .i64 a1).wf = true → (Lit.int .i64 a2).wf = true → ∃ k, laws_FnExactExpectMs.f k l0 a1 a2 = some true := by
  intro l p t hl _ _ _
  refine Ev.rounds ?_
  simp only [laws_FnExactExpectMs.f]
  obtain ⟨r, hr, hb⟩ := szPointS_some l hl
  refine ev_val hr (ev_ite (fun _ => Ev.now _) (fun h => ?_))
  have hn := hb h
  have hm : (l.map cvPoint).length ≤ 1048576 := by rw [List.length_map]; exact hn
  refine Ev.bind (toPointS_ev l hn) (Ev.bind (specExpectMs_ev _ p t hm) (Ev.bind (toPointS_ev l hn) (Ev.bind (implExpectMs_ev _ p t hm) (ev_pos rfl (ev_tail ?_)))))
  simp only [laws_FnExactExpectMs.j0]
  refine ev_neg (by simp) ?_
  exact Ev.bind (toPointS_ev l hn) (Ev.bind (eqPointS_ev _ hm) (ev_pos (by trivial) (Ev.now _)))
end Go.Proofs.Ytlkcbmcbmanmiaa.Pure
