/-
A steady player is expected when they come: the law answers true for whatever bytes it draws from.
Conditions: none.
-/
import Derived.Test.YtlkfhddckgjlnaaPFnPacesx14
import Derived.Test.YtlkfhddckgjlnaaBase
namespace Go.Proofs.Ytlkfhddckgjlnaa.Pure
open Go.RowKit Go.Proofs.Ytlkfhddckgjlnaa.PFnPaces Go.Proofs.YtlkfhddckgjlnaaW.PrintWords Go.Proofs.YtlkfhddckgjlnaaW.PrintLast Go.Proofs.YtlkfhddckgjlnaaW.PrintMore Go.Proofs.Ytlkfhddckgjlnaa.Base
set_option linter.unusedVariables false
set_option linter.unusedSimpArgs false

theorem l1In_eq (a b c : Int) : spec_l1In.f a b c = some (decide (b ≤ a ∧ a ≤ c)) := by
  unfold spec_l1In.f
  by_cases h1 : b ≤ a <;> by_cases h2 : a ≤ c <;> simp [h1, h2]
theorem InRange_eq (a b c : Int) : impl_InRange.f a b c = some (decide (b ≤ a ∧ a ≤ c)) := by
  unfold impl_InRange.f
  by_cases h1 : b ≤ a <;> by_cases h2 : a ≤ c <;> simp [h1, h2]

def apC (l : List S35) (i : Int) : Bool := decide (0 ≤ (rd_T35 l i).f0 ∧ (rd_T35 l i).f0 ≤ 2000 ∧ 0 ≤ (rd_T35 l i).f1 ∧ (rd_T35 l i).f1 ≤ 10000000 ∧ (0 < i → (rd_T35 l (i - 1)).f0 < (rd_T35 l i).f0 ∧ (rd_T35 l (i - 1)).f1 < (rd_T35 l i).f1))
def arePM (l : List S35) : Bool := allF (apC l) (decide ((l.length : Int) ≤ 60)) l.length 0
theorem specArePoints_ev (l : List S35) (h : l.length ≤ 1048576) : Ev (fun k => spec_ArePoints.f k l) (arePM l) := by
  simp only [spec_ArePoints.f]
  refine ev_all (L := fun k i => spec_ArePoints.l0 k l i) (n := l.length) (fun i hi => ?_) ?_ l.length 0 (by omega)
  · have w1 : wrap64 ((i : Int) + 1) = (i : Int) + 1 := wrap_id (by omega) (by omega)
    have w2 : wrap64 ((i : Int) - 1) = (i : Int) - 1 := wrap_id (by omega) (by omega)
    constructor
    · intro hc r e
      simp only [apC, decide_eq_true_eq] at hc
      obtain ⟨h1, h2, h3, h4, h5⟩ := hc
      refine ev_tail ?_
      simp only [spec_ArePoints.l0, l1In_eq, Option.bind_some, w1, w2]
      refine ev_pos (by omega) (ev_pos (by omega) (ev_pos (by simpa using ⟨h1, h2⟩) (ev_pos (by simpa using ⟨h3, h4⟩) ?_)))
      refine ev_ite (fun h0 => ?_) (fun _ => e)
      have := h5 h0
      exact ev_pos (by omega) (ev_pos (by omega) (ev_neg (by omega) (ev_neg (by omega) e)))
    · intro hc
      simp only [apC, decide_eq_false_iff_not] at hc
      refine ev_tail ?_
      simp only [spec_ArePoints.l0, l1In_eq, Option.bind_some, w1, w2]
      refine ev_pos (by omega) (ev_pos (by omega) (ev_ite (fun h1 => ev_ite (fun h2 => ?_) (fun _ => Ev.now _)) (fun _ => Ev.now _)))
      simp only [decide_eq_true_eq] at h1 h2
      refine ev_ite (fun h0 => ?_) (fun h0 => absurd ⟨h1.1, h1.2, h2.1, h2.2, fun h => absurd h h0⟩ hc)
      refine ev_pos (by omega) (ev_pos (by omega) (ev_ite (fun _ => Ev.now _) (fun h3 => ev_ite (fun _ => Ev.now _) (fun h4 => ?_))))
      exact absurd ⟨h1.1, h1.2, h2.1, h2.2, fun _ => ⟨by omega, by omega⟩⟩ hc
  · refine ev_tail ?_
    simp only [spec_ArePoints.l0]
    exact ev_neg (by omega) (Ev.now _)
theorem implArePoints_ev (l : List S35) (h : l.length ≤ 1048576) : Ev (fun k => impl_ArePoints.f k l) (arePM l) := by
  simp only [impl_ArePoints.f]
  refine ev_all (L := fun k i => impl_ArePoints.l0 k l l (l.length : Int) i) (n := l.length) (fun i hi => ?_) ?_ l.length 0 (by omega)
  · have w1 : wrap64 ((i : Int) + 1) = (i : Int) + 1 := wrap_id (by omega) (by omega)
    have w2 : wrap64 ((i : Int) - 1) = (i : Int) - 1 := wrap_id (by omega) (by omega)
    constructor
    · intro hc r e
      simp only [apC, decide_eq_true_eq] at hc
      obtain ⟨h1, h2, h3, h4, h5⟩ := hc
      refine ev_tail ?_
      simp only [impl_ArePoints.l0, InRange_eq, Option.bind_some, w1, w2]
      refine ev_pos (by omega) (ev_pos (by omega) (ev_pos (by omega) (ev_pos (by simpa using ⟨h1, h2⟩) (ev_pos (by simpa using ⟨h3, h4⟩) ?_))))
      refine ev_ite (fun h0 => ?_) (fun _ => e)
      have := h5 h0
      exact ev_pos (by omega) (ev_pos (by omega) (ev_neg (by omega) (ev_neg (by omega) e)))
    · intro hc
      simp only [apC, decide_eq_false_iff_not] at hc
      refine ev_tail ?_
      simp only [impl_ArePoints.l0, InRange_eq, Option.bind_some, w1, w2]
      refine ev_pos (by omega) (ev_pos (by omega) (ev_pos (by omega) (ev_ite (fun h1 => ev_ite (fun h2 => ?_) (fun _ => Ev.now _)) (fun _ => Ev.now _))))
      simp only [decide_eq_true_eq] at h1 h2
      refine ev_ite (fun h0 => ?_) (fun h0 => absurd ⟨h1.1, h1.2, h2.1, h2.2, fun h => absurd h h0⟩ hc)
      refine ev_pos (by omega) (ev_pos (by omega) (ev_ite (fun _ => Ev.now _) (fun h3 => ev_ite (fun _ => Ev.now _) (fun h4 => ?_))))
      exact absurd ⟨h1.1, h1.2, h2.1, h2.2, fun _ => ⟨by omega, by omega⟩⟩ hc
  · refine ev_tail ?_
    simp only [impl_ArePoints.l0]
    exact ev_neg (by omega) (Ev.now _)

def gcdI (a b : Int) : Int := ((Nat.gcd a.natAbs b.natAbs : Nat) : Int)
theorem tmod_nat (a b : Nat) : Int.tmod (a : Int) (b : Int) = ((a % b : Nat) : Int) := rfl
theorem specGcd_l0 (b : Nat) : ∀ a : Nat, Ev (fun k => spec_l4Gcd.l0 k (a : Int) (b : Int)) ((Nat.gcd a b : Nat) : Int) := by
  induction b using Nat.strongRecOn with
  | _ b ih =>
    intro a
    refine ev_tail ?_
    simp only [spec_l4Gcd.l0]
    by_cases h : b = 0
    · subst h
      exact ev_pos (by simp) (ev_eq (Ev.now _) (by simp))
    · refine ev_neg (by omega) ?_
      rw [tmod_nat]
      have e := ih (a % b) (Nat.mod_lt _ (by omega)) b
      rw [Nat.gcd_comm b (a % b), ← Nat.gcd_rec b a, Nat.gcd_comm b a] at e
      exact e
theorem implGcd_l0 (b : Nat) : ∀ a : Nat, Ev (fun k => impl_divisor.l0 k (a : Int) (b : Int)) ((Nat.gcd a b : Nat) : Int) := by
  induction b using Nat.strongRecOn with
  | _ b ih =>
    intro a
    refine ev_tail ?_
    simp only [impl_divisor.l0]
    by_cases h : b = 0
    · subst h
      exact ev_pos (by simp) (ev_eq (Ev.now _) (by simp))
    · refine ev_neg (by omega) ?_
      rw [tmod_nat]
      have e := ih (a % b) (Nat.mod_lt _ (by omega)) b
      rw [Nat.gcd_comm b (a % b), ← Nat.gcd_rec b a, Nat.gcd_comm b a] at e
      exact e
theorem specGcd_ev (a b : Int) (ha : 0 ≤ a) (hb : 0 ≤ b) : Ev (fun k => spec_l4Gcd.f k a b) (gcdI a b) := by
  simp only [spec_l4Gcd.f, gcdI]
  have e := specGcd_l0 b.natAbs a.natAbs
  rw [show ((a.natAbs : Nat) : Int) = a by omega, show ((b.natAbs : Nat) : Int) = b by omega] at e
  exact e
theorem implGcd_ev (a b : Int) (ha : 0 ≤ a) (hb : 0 ≤ b) : Ev (fun k => impl_divisor.f k a b) (gcdI a b) := by
  simp only [impl_divisor.f, gcdI]
  have e := implGcd_l0 b.natAbs a.natAbs
  rw [show ((a.natAbs : Nat) : Int) = a by omega, show ((b.natAbs : Nat) : Int) = b by omega] at e
  exact e
theorem gcdI_abs (a b : Int) : gcdI ((a.natAbs : Nat) : Int) b = gcdI a b := by simp [gcdI]
theorem gcdI_pos (a b : Int) (h : 0 < b) : 0 < gcdI a b := by
  unfold gcdI
  have := Nat.gcd_pos_of_pos_right a.natAbs (show 0 < b.natAbs by omega)
  omega
theorem l4Abs_eq (a : Int) (h : -9223372036854775807 ≤ a) (h2 : a ≤ 9223372036854775807) : spec_l4Abs.f a = some ((a.natAbs : Nat) : Int) := by
  unfold spec_l4Abs.f
  by_cases h0 : a < 0
  · rw [if_pos h0, wrap_id (by omega) (by omega)]; congr 1; omega
  · rw [if_neg h0]; congr 1; omega
theorem mx_abs (a : Int) (h : -9223372036854775807 ≤ a) (h2 : a ≤ 9223372036854775807) : mx a (wrap64 (-a)) = ((a.natAbs : Nat) : Int) := by
  rw [wrap_id (by omega) (by omega), mx_eq]; omega
def ratioOK (n d : Int) : Bool := decide (1 ≤ d ∧ d ≤ 1000000 ∧ -1000000000 ≤ n ∧ n ≤ 1000000000) && (gcdI n d == 1)
theorem specIsRatio_ev (n d : Int) : Ev (fun k => spec_IsRatio.f k n d) (ratioOK n d) := by
  simp only [spec_IsRatio.f, l1In_eq, Option.bind_some, ratioOK]
  by_cases h1 : 1 ≤ d ∧ d ≤ 1000000
  · refine ev_pos (by simpa using h1) ?_
    by_cases h2 : -1000000000 ≤ n ∧ n ≤ 1000000000
    · refine ev_pos (by simpa using h2) (ev_val (l4Abs_eq n (by omega) (by omega)) (Ev.bind (specGcd_ev _ d (by omega) (by omega)) ?_))
      rw [gcdI_abs, decide_eq_true ⟨h1.1, h1.2, h2.1, h2.2⟩, Bool.true_and]
      exact Ev.now _
    · refine ev_neg (by simpa using h2) (ev_eq (Ev.now _) ?_)
      rw [decide_eq_false (fun z => h2 ⟨z.2.2.1, z.2.2.2⟩), Bool.false_and]
  · refine ev_neg (by simpa using h1) (ev_eq (Ev.now _) ?_)
    rw [decide_eq_false (fun z => h1 ⟨z.1, z.2.1⟩), Bool.false_and]
theorem implIsRatio_ev (n d : Int) : Ev (fun k => impl_IsRatio.f k n d) (ratioOK n d) := by
  simp only [impl_IsRatio.f, InRange_eq, Option.bind_some, ratioOK]
  by_cases h1 : 1 ≤ d ∧ d ≤ 1000000
  · refine ev_pos (by simpa using h1) ?_
    by_cases h2 : -1000000000 ≤ n ∧ n ≤ 1000000000
    · refine ev_pos (by simpa using h2) ?_
      rw [mx_abs n (by omega) (by omega)]
      refine Ev.bind (implGcd_ev _ d (by omega) (by omega)) ?_
      rw [gcdI_abs, decide_eq_true ⟨h1.1, h1.2, h2.1, h2.2⟩, Bool.true_and]
      exact Ev.now _
    · refine ev_neg (by simpa using h2) (ev_eq (Ev.now _) ?_)
      rw [decide_eq_false (fun z => h2 ⟨z.2.2.1, z.2.2.2⟩), Bool.false_and]
  · refine ev_neg (by simpa using h1) (ev_eq (Ev.now _) ?_)
    rw [decide_eq_false (fun z => h1 ⟨z.1, z.2.1⟩), Bool.false_and]
/-- A fraction in lowest terms, if it is a ratio (d above 0). -/
def lowM (n d : Int) : Int × Int × Bool :=
  if ratioOK (Int.tdiv n (gcdI n d)) (Int.tdiv d (gcdI n d)) = true then (Int.tdiv n (gcdI n d), Int.tdiv d (gcdI n d), true) else (0, 0, false)
theorem tdiv_bd (n g : Int) (B : Int) (hB : 0 ≤ B) (h1 : -B ≤ n) (h2 : n ≤ B) (hg : 0 < g) : -B ≤ Int.tdiv n g ∧ Int.tdiv n g ≤ B := by
  have h := Int.natAbs_tdiv_le_natAbs n g
  omega
def makeM (n d : Int) : Int × Int × Bool :=
  if -1000000000000000 ≤ n ∧ n ≤ 1000000000000000 ∧ -1000000000000000 ≤ d ∧ d ≤ 1000000000000000 ∧ d ≠ 0 then (if d < 0 then lowM (-n) (-d) else lowM n d) else (0, 0, false)
theorem specMake_j1 (n d : Int) (h1 : -1000000000000000000 ≤ n) (h2 : n ≤ 1000000000000000000) (h3 : 0 < d) (h4 : d ≤ 1000000000000000000) : Ev (fun k => spec_MakeRatio.j1 k n d) (lowM n d) := by
  refine ev_tail ?_
  simp only [spec_MakeRatio.j1]
  refine ev_val (l4Abs_eq n (by omega) (by omega)) (Ev.bind (specGcd_ev _ d (by omega) (by omega)) ?_)
  rw [gcdI_abs]
  have hg := gcdI_pos n d h3
  have b1 := tdiv_bd n (gcdI n d) 1000000000000000000 (by omega) h1 h2 hg
  have b2 := tdiv_bd d (gcdI n d) 1000000000000000000 (by omega) (by omega) h4 hg
  rw [wrap_id (n := Int.tdiv n (gcdI n d)) (by omega) (by omega), wrap_id (n := Int.tdiv d (gcdI n d)) (by omega) (by omega)]
  refine ev_neg (by omega) (Ev.bind (specIsRatio_ev _ _) ?_)
  unfold lowM
  exact ev_ite (fun h => by rw [if_pos h]; exact Ev.now _) (fun h => by rw [if_neg h]; exact Ev.now _)
theorem implLow_j0 (n d : Int) (h1 : -1000000000000000000 ≤ n) (h2 : n ≤ 1000000000000000000) (h3 : 0 < d) (h4 : d ≤ 1000000000000000000) : Ev (fun k => impl_lowest.j0 k n d) (lowM n d) := by
  refine ev_tail ?_
  simp only [impl_lowest.j0]
  rw [mx_abs n (by omega) (by omega)]
  refine ev_neg (by omega) (Ev.bind (implGcd_ev _ d (by omega) (by omega)) ?_)
  rw [gcdI_abs]
  have hg := gcdI_pos n d h3
  have b1 := tdiv_bd n (gcdI n d) 1000000000000000000 (by omega) h1 h2 hg
  have b2 := tdiv_bd d (gcdI n d) 1000000000000000000 (by omega) (by omega) h4 hg
  rw [wrap_id (n := Int.tdiv n (gcdI n d)) (by omega) (by omega), wrap_id (n := Int.tdiv d (gcdI n d)) (by omega) (by omega)]
  refine ev_neg (by omega) (Ev.bind (implIsRatio_ev _ _) ?_)
  unfold lowM
  exact ev_ite (fun h => by rw [if_pos h]; exact Ev.now _) (fun h => by rw [if_neg h]; exact Ev.now _)
theorem specMake_j0 (n d : Int) (x : Bool) (h : x = true) : Ev (fun k => spec_MakeRatio.j0 k n d x) (0, 0, false) := by
  subst h
  refine ev_tail ?_
  simp only [spec_MakeRatio.j0]
  exact ev_pos (by trivial) (Ev.now _)
theorem specMakeRatio_ev (n d : Int) : Ev (fun k => spec_MakeRatio.f k n d) (makeM n d) := by
  simp only [spec_MakeRatio.f, l1In_eq, Option.bind_some, makeM]
  by_cases h1 : -1000000000000000 ≤ n ∧ n ≤ 1000000000000000
  · refine ev_pos (by simpa using h1) ?_
    by_cases h2 : -1000000000000000 ≤ d ∧ d ≤ 1000000000000000
    · refine ev_pos (by simpa using h2) ?_
      by_cases h3 : d = 0
      · rw [if_neg (fun z => z.2.2.2.2 h3)]
        exact specMake_j0 n d _ (by simpa using h3)
      · rw [if_pos ⟨h1.1, h1.2, h2.1, h2.2, h3⟩]
        refine ev_tail ?_
        simp only [spec_MakeRatio.j0]
        refine ev_neg (by simpa using h3) (ev_ite (fun h4 => ?_) (fun h4 => ?_))
        · rw [if_pos h4, wrap_id (n := -n) (by omega) (by omega), wrap_id (n := -d) (by omega) (by omega)]
          exact specMake_j1 _ _ (by omega) (by omega) (by omega) (by omega)
        · rw [if_neg h4]
          exact specMake_j1 _ _ (by omega) (by omega) (by omega) (by omega)
    · rw [if_neg (fun z => h2 ⟨z.2.2.1, z.2.2.2.1⟩)]
      exact ev_neg (by simpa using h2) (specMake_j0 n d _ rfl)
  · rw [if_neg (fun z => h1 ⟨z.1, z.2.1⟩)]
    exact ev_neg (by simpa using h1) (specMake_j0 n d _ rfl)
/-- impl.lowest: as it stands, d any number. -/
def lowestM (n d : Int) : Int × Int × Bool := if d = 0 then (0, 0, false) else if d < 0 then lowM (-n) (-d) else lowM n d
theorem implLowest_ev (n d : Int) (h1 : -1000000000000000000 ≤ n) (h2 : n ≤ 1000000000000000000) (h3 : -1000000000000000000 ≤ d) (h4 : d ≤ 1000000000000000000) : Ev (fun k => impl_lowest.f k n d) (lowestM n d) := by
  simp only [impl_lowest.f, lowestM]
  by_cases h5 : d = 0
  · rw [if_pos h5]
    subst h5
    refine ev_neg (by omega) (ev_tail ?_)
    simp only [impl_lowest.j0]
    exact ev_pos (by trivial) (Ev.now _)
  · rw [if_neg h5]
    refine ev_ite (fun h6 => ?_) (fun h6 => ?_)
    · rw [if_pos h6, wrap_id (n := -n) (by omega) (by omega), wrap_id (n := -d) (by omega) (by omega)]
      exact implLow_j0 _ _ (by omega) (by omega) (by omega) (by omega)
    · rw [if_neg h6]
      exact implLow_j0 _ _ (by omega) (by omega) (by omega) (by omega)
theorem implMakeRatio_ev (n d : Int) : Ev (fun k => impl_MakeRatio.f k n d) (makeM n d) := by
  simp only [impl_MakeRatio.f, InRange_eq, Option.bind_some, makeM]
  by_cases h1 : -1000000000000000 ≤ n ∧ n ≤ 1000000000000000
  · refine ev_pos (by simpa using h1) ?_
    by_cases h2 : -1000000000000000 ≤ d ∧ d ≤ 1000000000000000
    · refine ev_pos (by simpa using h2) (Ev.bind (implLowest_ev n d (by omega) (by omega) (by omega) (by omega)) (ev_eq (Ev.now _) ?_))
      unfold lowestM
      by_cases h3 : d = 0
      · rw [if_pos h3, if_neg (fun z => z.2.2.2.2 h3)]
      · have hh : -1000000000000000 ≤ n ∧ n ≤ 1000000000000000 ∧ -1000000000000000 ≤ d ∧ d ≤ 1000000000000000 ∧ d ≠ 0 := ⟨h1.1, h1.2, h2.1, h2.2, h3⟩
        rw [if_neg h3, if_pos hh]
    · rw [if_neg (fun z => h2 ⟨z.2.2.1, z.2.2.2.1⟩)]
      exact ev_neg (by simpa using h2) (Ev.now _)
  · rw [if_neg (fun z => h1 ⟨z.1, z.2.1⟩)]
    exact ev_neg (by simpa using h1) (Ev.now _)

def modM (p q : Int) : Int := if 1 ≤ q ∧ q ≤ 1000000000000 then Int.tmod (wrap64 (Int.tmod p q + q)) q else 0
theorem specMod_eq (p q : Int) : spec_Mod.f p q = some (modM p q) := by
  simp only [spec_Mod.f, l1In_eq, Option.bind_some, modM]
  by_cases h : 1 ≤ q ∧ q ≤ 1000000000000
  · rw [if_pos (by simpa using h), if_neg (by omega), if_pos h]
  · rw [if_neg (by simpa using h), if_neg h]
theorem implMod_eq (p q : Int) : impl_Mod.f p q = some (modM p q) := by
  simp only [impl_Mod.f, InRange_eq, Option.bind_some, modM]
  by_cases h : 1 ≤ q ∧ q ≤ 1000000000000
  · rw [if_pos (by simpa using h), if_neg (by omega), if_pos h]
  · rw [if_neg (by simpa using h), if_neg h]

theorem arePM_len {l : List S35} (h : arePM l = true) : l.length ≤ 60 := by
  unfold arePM at h
  rw [allF_iff] at h
  have := h.1
  simp only [decide_eq_true_eq] at this
  omega
theorem specMax_eq (a b : Int) : spec_Max.f a b = some (max a b) := by
  unfold spec_Max.f
  split <;> (congr 1; omega)
def meanM (l : List S35) (p : Int) : Int × Int × Bool :=
  if arePM l = true ∧ 2 ≤ l.length ∧ 1 ≤ p ∧ p ≤ 60 then
    makeM (wrap64 ((rd_T35 l ((l.length : Int) - 1)).f1 - (rd_T35 l (max 0 ((l.length : Int) - 1 - p))).f1)) (wrap64 ((rd_T35 l ((l.length : Int) - 1)).f0 - (rd_T35 l (max 0 ((l.length : Int) - 1 - p))).f0))
  else (0, 0, false)
theorem specMean_j0 (l : List S35) (p : Int) (x : Bool) (h : x = true) : Ev (fun k => spec_MeanRate.j0 k l p x) (0, 0, false) := by
  subst h
  refine ev_tail ?_
  simp only [spec_MeanRate.j0]
  exact ev_pos (by trivial) (Ev.now _)
theorem specMeanRate_ev (l : List S35) (p : Int) (h : l.length ≤ 1048576) : Ev (fun k => spec_MeanRate.f k l p) (meanM l p) := by
  simp only [spec_MeanRate.f, l1In_eq, Option.bind_some, meanM]
  refine Ev.bind (specArePoints_ev l h) (ev_ite (fun h1 => ev_ite (fun h2 => ?_) (fun h2 => ?_)) (fun h1 => ?_))
  · rw [if_neg (fun z => by omega)]
    exact specMean_j0 l p _ rfl
  · by_cases h3 : 1 ≤ p ∧ p ≤ 60
    · rw [if_pos ⟨h1, by omega, h3.1, h3.2⟩]
      have w1 : Aside0 (wrap64 ((l.length : Int) - 1) = (l.length : Int) - 1) := ⟨wrap_id (by omega) (by omega)⟩
      have w2 : Aside0 (wrap64 ((l.length : Int) - 1 - p) = (l.length : Int) - 1 - p) := ⟨wrap_id (by omega) (by omega)⟩
      refine ev_tail ?_
      simp only [spec_MeanRate.j0, w1.out, w2.out, specMax_eq, Option.bind_some]
      refine ev_neg (by simp; omega) (ev_pos (by omega) (ev_pos (by omega) (ev_pos (by omega) (ev_pos (by omega) ?_))))
      exact Ev.bind (specMakeRatio_ev _ _) (Ev.now _)
    · rw [if_neg (fun z => h3 z.2.2)]
      exact specMean_j0 l p _ (by simp; omega)
  · rw [if_neg (fun z => h1 z.1)]
    exact specMean_j0 l p _ rfl
theorem implMeanRate_ev (l : List S35) (p : Int) (h : l.length ≤ 1048576) : Ev (fun k => impl_MeanRate.f k l p) (meanM l p) := by
  simp only [impl_MeanRate.f, InRange_eq, Option.bind_some, meanM]
  refine Ev.bind (implArePoints_ev l h) (ev_ite (fun h1 => ev_ite (fun h2 => ?_) (fun h2 => ?_)) (fun h1 => ?_))
  · rw [if_neg (fun z => by omega)]
    exact Ev.now _
  · by_cases h3 : 1 ≤ p ∧ p ≤ 60
    · rw [if_pos ⟨h1, by omega, h3.1, h3.2⟩]
      have w1 : Aside0 (wrap64 ((l.length : Int) - 1) = (l.length : Int) - 1) := ⟨wrap_id (by omega) (by omega)⟩
      have w2 : Aside0 (wrap64 ((l.length : Int) - 1 - p) = (l.length : Int) - 1 - p) := ⟨wrap_id (by omega) (by omega)⟩
      have w3 : Aside0 (mx ((l.length : Int) - 1 - p) 0 = max 0 ((l.length : Int) - 1 - p)) := ⟨by rw [mx_eq]; omega⟩
      simp only [w1.out, w2.out, w3.out]
      refine ev_pos (by simpa using h3) (ev_pos (by omega) (ev_pos (by omega) (ev_pos (by omega) (ev_pos (by omega) ?_))))
      exact Ev.bind (implMakeRatio_ev _ _) (Ev.now _)
    · rw [if_neg (fun z => h3 z.2.2)]
      exact ev_neg (by simpa using h3) (Ev.now _)
  · rw [if_neg (fun z => h1 z.1)]
    exact Ev.now _

theorem ratioOK_facts {n d : Int} (h : ratioOK n d = true) : (1 ≤ d ∧ d ≤ 1000000) ∧ (-1000000000 ≤ n ∧ n ≤ 1000000000) ∧ gcdI n d = 1 := by
  unfold ratioOK at h
  simp only [Bool.and_eq_true, decide_eq_true_eq, beq_iff_eq] at h
  exact ⟨⟨h.1.1, h.1.2.1⟩, ⟨h.1.2.2.1, h.1.2.2.2⟩, h.2⟩
theorem ratioOK_one (t : Int) (h1 : -1000000000 ≤ t) (h2 : t ≤ 1000000000) : ratioOK t 1 = true := by
  unfold ratioOK
  simp only [Bool.and_eq_true, decide_eq_true_eq, beq_iff_eq]
  exact ⟨⟨by omega, by omega, h1, h2⟩, by simp [gcdI]⟩
theorem lowM_ok {n d : Int} (h : (lowM n d).2.2 = true) : ratioOK (lowM n d).1 (lowM n d).2.1 = true := by
  unfold lowM at h ⊢
  by_cases c : ratioOK (Int.tdiv n (gcdI n d)) (Int.tdiv d (gcdI n d)) = true
  · rw [if_pos c]; exact c
  · rw [if_neg c] at h; simp at h
theorem meanM_ok {l : List S35} {p : Int} (h : (meanM l p).2.2 = true) : ratioOK (meanM l p).1 (meanM l p).2.1 = true ∧ arePM l = true ∧ 2 ≤ l.length := by
  by_cases c : arePM l = true ∧ 2 ≤ l.length ∧ 1 ≤ p ∧ p ≤ 60
  · refine ⟨?_, c.1, c.2.1⟩
    unfold meanM at h ⊢
    rw [if_pos c] at h ⊢
    generalize wrap64 ((rd_T35 l ((l.length : Int) - 1)).f1 - (rd_T35 l (max 0 ((l.length : Int) - 1 - p))).f1) = n at h ⊢
    generalize wrap64 ((rd_T35 l ((l.length : Int) - 1)).f0 - (rd_T35 l (max 0 ((l.length : Int) - 1 - p))).f0) = d at h ⊢
    unfold makeM at h ⊢
    by_cases c2 : -1000000000000000 ≤ n ∧ n ≤ 1000000000000000 ∧ -1000000000000000 ≤ d ∧ d ≤ 1000000000000000 ∧ d ≠ 0
    · rw [if_pos c2] at h ⊢
      by_cases c3 : d < 0
      · rw [if_pos c3] at h ⊢; exact lowM_ok h
      · rw [if_neg c3] at h ⊢; exact lowM_ok h
    · rw [if_neg c2] at h; simp at h
  · unfold meanM at h
    rw [if_neg c] at h; simp at h
theorem arePM_at {l : List S35} (h : arePM l = true) (i : Nat) (hi : i < l.length) : (0 ≤ (rd_T35 l (i : Int)).f0 ∧ (rd_T35 l (i : Int)).f0 ≤ 2000) ∧ 0 ≤ (rd_T35 l (i : Int)).f1 ∧ (rd_T35 l (i : Int)).f1 ≤ 10000000 := by
  unfold arePM at h
  rw [allF_iff] at h
  have := h.2 i (by omega) (by omega)
  simp only [apC, decide_eq_true_eq] at this
  exact ⟨⟨this.1, this.2.1⟩, this.2.2.1, this.2.2.2.1⟩
theorem gcdI_mul (n t d : Int) (h : gcdI n d = 1) : gcdI (n * t) d = gcdI t d := by
  unfold gcdI at h ⊢
  have h1 : Nat.gcd n.natAbs d.natAbs = 1 := by omega
  rw [Int.natAbs_mul, Nat.Coprime.gcd_mul_left_cancel t.natAbs (Nat.Coprime.symm (Nat.Coprime.symm h1))]
theorem gcdI_dvd (a b : Int) : gcdI a b ∣ a := by
  unfold gcdI
  exact Int.ofNat_dvd_left.2 (Nat.gcd_dvd_left _ _)
theorem gcdI_one (n : Int) : gcdI n 1 = 1 := by simp [gcdI]
theorem mul_bd {a b A B : Int} (h1 : -A ≤ a) (h2 : a ≤ A) (h3 : -B ≤ b) (h4 : b ≤ B) (hA : 0 ≤ A) (hB : 0 ≤ B) : -(A * B) ≤ a * b ∧ a * b ≤ A * B := by
  have h : (a * b).natAbs ≤ (A * B).natAbs := by
    rw [Int.natAbs_mul, Int.natAbs_mul]
    exact Nat.mul_le_mul (by omega) (by omega)
  have h5 : 0 ≤ A * B := Int.mul_nonneg hA hB
  omega
theorem specMul_ev (n d t : Int) (hr : ratioOK n d = true) (h1 : -2000 ≤ t) (h2 : t ≤ 2000) : Ev (fun k => spec_MulRatio.f k n d t 1) (lowM (n * t) d) := by
  obtain ⟨⟨d1, d2⟩, ⟨n1, n2⟩, hg⟩ := ratioOK_facts hr
  have hm := mul_bd n1 n2 h1 h2 (by omega) (by omega)
  simp only [spec_MulRatio.f]
  refine Ev.bind (specIsRatio_ev n d) (ev_pos hr ?_)
  have r1 := ratioOK_one t (by omega) (by omega)
  refine Ev.bind (specIsRatio_ev t 1) (ev_tail ?_)
  simp only [spec_MulRatio.j0]
  refine ev_neg (by rw [r1]; simp) ?_
  refine ev_val (l4Abs_eq n (by omega) (by omega)) (Ev.bind (specGcd_ev _ 1 (by omega) (by omega)) ?_)
  rw [gcdI_one]
  refine ev_val (l4Abs_eq t (by omega) (by omega)) (Ev.bind (specGcd_ev _ d (by omega) (by omega)) ?_)
  rw [gcdI_abs]
  have hp := gcdI_pos t d (by omega)
  have b1 := tdiv_bd t (gcdI t d) 2000 (by omega) h1 h2 hp
  have b2 := tdiv_bd d (gcdI t d) 1000000 (by omega) (by omega) d2 hp
  have hm2 := mul_bd n1 n2 b1.1 b1.2 (by omega) (by omega)
  have e1 : n * Int.tdiv t (gcdI t d) = Int.tdiv (n * t) (gcdI t d) := (Int.mul_tdiv_assoc n (gcdI_dvd t d)).symm
  rw [Int.tdiv_one, Int.tdiv_one, wrap_id (n := n) (by omega) (by omega), wrap_id (n := Int.tdiv t (gcdI t d)) (by omega) (by omega), wrap_id (n := Int.tdiv d (gcdI t d)) (by omega) (by omega), wrap_id (n := n * Int.tdiv t (gcdI t d)) (by omega) (by omega), wrap_id (n := 1) (by omega) (by omega), Int.mul_one, wrap_id (n := Int.tdiv d (gcdI t d)) (by omega) (by omega), e1]
  refine ev_neg (by omega) (ev_neg (by omega) (Ev.bind (specIsRatio_ev _ _) ?_))
  unfold lowM
  rw [gcdI_mul n t d hg]
  exact ev_ite (fun h => by rw [if_pos h]; exact Ev.now _) (fun h => by rw [if_neg h]; exact Ev.now _)
theorem lowest_pos (n d : Int) (h : 0 < d) : lowestM n d = lowM n d := by
  unfold lowestM
  rw [if_neg (by omega), if_neg (by omega)]
theorem implMul_ev (n d t : Int) (hr : ratioOK n d = true) (h1 : -2000 ≤ t) (h2 : t ≤ 2000) : Ev (fun k => impl_MulRatio.f k n d t 1) (lowM (n * t) d) := by
  obtain ⟨⟨d1, d2⟩, ⟨n1, n2⟩, hg⟩ := ratioOK_facts hr
  have hm := mul_bd n1 n2 h1 h2 (by omega) (by omega)
  simp only [impl_MulRatio.f]
  refine Ev.bind (implIsRatio_ev n d) (ev_pos hr (Ev.bind (implIsRatio_ev t 1) (ev_pos (ratioOK_one t (by omega) (by omega)) ?_)))
  rw [Int.mul_one, wrap_id (n := n * t) (by omega) (by omega), wrap_id (n := d) (by omega) (by omega)]
  refine Ev.bind (implLowest_ev (n * t) d (by omega) (by omega) (by omega) (by omega)) ?_
  rw [lowest_pos _ _ (by omega)]
  exact Ev.now _
/-- A ratio (if it is one) and a whole number. -/
def addM (n d m : Int) : Int × Int × Bool := if ratioOK n d = true then lowM (n + m * d) d else (0, 0, false)
theorem specAdd_ev (n d m : Int) (h1 : 0 ≤ m) (h2 : m ≤ 10000000) : Ev (fun k => spec_AddRatio.f k n d m 1) (addM n d m) := by
  simp only [spec_AddRatio.f]
  have r1 := ratioOK_one m (by omega) (by omega)
  refine Ev.bind (specIsRatio_ev n d) (ev_ite (fun hr => ?_) (fun hr => ?_))
  · obtain ⟨⟨d1, d2⟩, ⟨n1, n2⟩, hg⟩ := ratioOK_facts hr
    have hm := mul_bd (a := m) (b := d) (A := 10000000) (B := 1000000) (by omega) h2 (by omega) d2 (by omega) (by omega)
    refine Ev.bind (specIsRatio_ev m 1) (ev_tail ?_)
    simp only [spec_AddRatio.j0]
    refine ev_neg (by rw [r1]; simp) (Ev.bind (specGcd_ev d 1 (by omega) (by omega)) ?_)
    rw [gcdI_one, Int.tdiv_one, Int.tdiv_one, wrap_id (n := 1) (by omega) (by omega), wrap_id (n := d) (by omega) (by omega), Int.mul_one, Int.mul_one, wrap_id (n := n) (by omega) (by omega), wrap_id (n := m * d) (by omega) (by omega), wrap_id (n := n + m * d) (by omega) (by omega), wrap_id (n := d) (by omega) (by omega)]
    refine ev_neg (by omega) (ev_val (l4Abs_eq _ (by omega) (by omega)) (Ev.bind (specGcd_ev _ d (by omega) (by omega)) ?_))
    rw [gcdI_abs]
    have hp := gcdI_pos (n + m * d) d (by omega)
    have b1 := tdiv_bd (n + m * d) (gcdI (n + m * d) d) 100000000000000 (by omega) (by omega) (by omega) hp
    have b2 := tdiv_bd d (gcdI (n + m * d) d) 1000000 (by omega) (by omega) d2 hp
    rw [wrap_id (n := Int.tdiv (n + m * d) (gcdI (n + m * d) d)) (by omega) (by omega), wrap_id (n := Int.tdiv d (gcdI (n + m * d) d)) (by omega) (by omega)]
    refine ev_neg (by omega) (Ev.bind (specIsRatio_ev _ _) ?_)
    rw [addM, if_pos hr]
    unfold lowM
    exact ev_ite (fun h => by rw [if_pos h]; exact Ev.now _) (fun h => by rw [if_neg h]; exact Ev.now _)
  · refine ev_tail ?_
    simp only [spec_AddRatio.j0]
    rw [addM, if_neg hr]
    exact ev_pos (by trivial) (Ev.now _)
theorem implAdd_ev (n d m : Int) (h1 : 0 ≤ m) (h2 : m ≤ 10000000) : Ev (fun k => impl_AddRatio.f k m 1 n d) (addM n d m) := by
  simp only [impl_AddRatio.f]
  refine Ev.bind (implIsRatio_ev m 1) (ev_pos (ratioOK_one m (by omega) (by omega)) (Ev.bind (implIsRatio_ev n d) (ev_ite (fun hr => ?_) (fun hr => ?_))))
  · obtain ⟨⟨d1, d2⟩, ⟨n1, n2⟩, hg⟩ := ratioOK_facts hr
    have hm := mul_bd (a := m) (b := d) (A := 10000000) (B := 1000000) (by omega) h2 (by omega) d2 (by omega) (by omega)
    rw [Int.mul_one, Int.one_mul, wrap_id (n := m * d) (by omega) (by omega), wrap_id (n := n) (by omega) (by omega), wrap_id (n := m * d + n) (by omega) (by omega), wrap_id (n := d) (by omega) (by omega)]
    refine Ev.bind (implLowest_ev (m * d + n) d (by omega) (by omega) (by omega) (by omega)) ?_
    rw [lowest_pos _ _ (by omega), addM, if_pos hr, Int.add_comm n (m * d)]
    exact Ev.now _
  · rw [addM, if_neg hr]
    exact Ev.now _
def floorM (n d : Int) : Int := if ratioOK n d = true then wrap64 (Int.tdiv (wrap64 (n - modM n d)) d) else 0
theorem specFloor_ev (n d : Int) : Ev (fun k => spec_FloorRatio.f k n d) (floorM n d) := by
  simp only [spec_FloorRatio.f]
  refine Ev.bind (specIsRatio_ev n d) (ev_ite (fun hr => ?_) (fun hr => ?_))
  · have := (ratioOK_facts hr).1
    rw [floorM, if_pos hr]
    exact ev_val (specMod_eq n d) (ev_neg (by omega) (Ev.now _))
  · rw [floorM, if_neg hr]; exact Ev.now _
theorem implFloor_ev (n d : Int) : Ev (fun k => impl_FloorRatio.f k n d) (floorM n d) := by
  simp only [impl_FloorRatio.f]
  refine Ev.bind (implIsRatio_ev n d) (ev_ite (fun hr => ?_) (fun hr => ?_))
  · have := (ratioOK_facts hr).1
    rw [floorM, if_pos hr]
    exact ev_val (implMod_eq n d) (ev_neg (by omega) (Ev.now _))
  · rw [floorM, if_neg hr]; exact Ev.now _
def expTail (m o : Int × Int × Bool) : Int × Bool := if m.2.2 = true then (if o.2.2 = true then (floorM o.1 o.2.1, true) else (0, false)) else (0, false)
def expM (l : List S35) (p t : Int) : Int × Bool :=
  if (meanM l p).2.2 = true ∧ 0 ≤ t ∧ t ≤ 2000 then
    expTail (lowM ((meanM l p).1 * (t - (rd_T35 l ((l.length : Int) - 1)).f0)) (meanM l p).2.1)
      (addM (lowM ((meanM l p).1 * (t - (rd_T35 l ((l.length : Int) - 1)).f0)) (meanM l p).2.1).1 (lowM ((meanM l p).1 * (t - (rd_T35 l ((l.length : Int) - 1)).f0)) (meanM l p).2.1).2.1 (rd_T35 l ((l.length : Int) - 1)).f1)
  else (0, false)
theorem expM_facts {l : List S35} {p : Int} (hm : (meanM l p).2.2 = true) : 2 ≤ l.length ∧ l.length ≤ 60 ∧ (0 ≤ (rd_T35 l ((l.length : Int) - 1)).f0 ∧ (rd_T35 l ((l.length : Int) - 1)).f0 ≤ 2000) ∧ 0 ≤ (rd_T35 l ((l.length : Int) - 1)).f1 ∧ (rd_T35 l ((l.length : Int) - 1)).f1 ≤ 10000000 := by
  obtain ⟨_, ha, hl⟩ := meanM_ok hm
  have := arePM_at ha (l.length - 1) (by omega)
  rw [show ((l.length - 1 : Nat) : Int) = (l.length : Int) - 1 by omega] at this
  exact ⟨hl, arePM_len ha, this.1, this.2⟩
theorem specExpectMs_ev (l : List S35) (p t : Int) (h : l.length ≤ 1048576) : Ev (fun k => spec_ExpectMs.f k l p t) (expM l p t) := by
  simp only [spec_ExpectMs.f, l1In_eq, Option.bind_some]
  refine Ev.bind (specMeanRate_ev l p h) (ev_ite (fun hm => ?_) (fun hm => ?_))
  · obtain ⟨hl, _, ⟨f1, f2⟩, g1, g2⟩ := expM_facts hm
    refine ev_tail ?_
    simp only [spec_ExpectMs.j0]
    by_cases ht : 0 ≤ t ∧ t ≤ 2000
    · refine ev_neg (by simpa using ht) ?_
      have w1 : Aside0 (wrap64 ((l.length : Int) - 1) = (l.length : Int) - 1) := ⟨wrap_id (by omega) (by omega)⟩
      rw [w1.out, expM, if_pos ⟨hm, ht.1, ht.2⟩, wrap_id (n := t - (rd_T35 l ((l.length : Int) - 1)).f0) (by omega) (by omega)]
      refine ev_pos (by omega) (ev_pos (by omega) (Ev.bind (specMul_ev _ _ _ (meanM_ok hm).1 (by omega) (by omega)) (Ev.bind (specAdd_ev _ _ _ g1 g2) ?_)))
      unfold expTail
      refine ev_ite (fun a => ?_) (fun a => ?_)
      · rw [if_pos a]
        refine ev_ite (fun b => ?_) (fun b => ?_)
        · rw [if_pos b]; exact Ev.bind (specFloor_ev _ _) (Ev.now _)
        · rw [if_neg b]; exact Ev.now _
      · rw [if_neg a]; exact Ev.now _
    · refine ev_pos (by rw [decide_eq_false ht]; rfl) ?_
      rw [expM, if_neg (fun z => ht z.2)]
      exact Ev.now _
  · refine ev_tail ?_
    simp only [spec_ExpectMs.j0]
    rw [expM, if_neg (fun z => hm z.1)]
    exact ev_pos (by trivial) (Ev.now _)
theorem implExpectMs_ev (l : List S35) (p t : Int) (h : l.length ≤ 1048576) : Ev (fun k => impl_ExpectMs.f k l p t) (expM l p t) := by
  simp only [impl_ExpectMs.f, InRange_eq, Option.bind_some]
  refine Ev.bind (implMeanRate_ev l p h) (ev_ite (fun hm => ?_) (fun hm => ?_))
  · obtain ⟨hl, _, ⟨f1, f2⟩, g1, g2⟩ := expM_facts hm
    refine ev_tail ?_
    simp only [impl_ExpectMs.j0]
    by_cases ht : 0 ≤ t ∧ t ≤ 2000
    · refine ev_neg (by simpa using ht) ?_
      have w1 : Aside0 (wrap64 ((l.length : Int) - 1) = (l.length : Int) - 1) := ⟨wrap_id (by omega) (by omega)⟩
      rw [w1.out, expM, if_pos ⟨hm, ht.1, ht.2⟩, wrap_id (n := t - (rd_T35 l ((l.length : Int) - 1)).f0) (by omega) (by omega)]
      refine ev_pos (by omega) (ev_pos (by omega) (Ev.bind (implMul_ev _ _ _ (meanM_ok hm).1 (by omega) (by omega)) (Ev.bind (implAdd_ev _ _ _ g1 g2) ?_)))
      unfold expTail
      refine ev_ite (fun a => ?_) (fun a => ?_)
      · rw [if_pos a]
        refine ev_ite (fun b => ?_) (fun b => ?_)
        · rw [if_pos b]; exact Ev.bind (implFloor_ev _ _) (Ev.now _)
        · rw [if_neg b]; exact Ev.now _
      · rw [if_neg a]; exact Ev.now _
    · refine ev_pos (by rw [decide_eq_false ht]; rfl) ?_
      rw [expM, if_neg (fun z => ht z.2)]
      exact Ev.now _
  · refine ev_tail ?_
    simp only [impl_ExpectMs.j0]
    rw [expM, if_neg (fun z => hm z.1)]
    exact ev_pos (by trivial) (Ev.now _)

theorem mul_bd2 {a b A B : Int} (h1 : 0 ≤ a) (h2 : a ≤ A) (h3 : 0 ≤ b) (h4 : b ≤ B) : 0 ≤ a * b ∧ a * b ≤ A * B :=
  ⟨Int.mul_nonneg h1 h3, Int.mul_le_mul h2 h4 h3 (by omega)⟩
theorem arePM_facts {l : List S35} (h : arePM l = true) : l.length ≤ 60 ∧ ∀ j : Nat, j < l.length → apC l (j : Int) = true := by
  unfold arePM at h
  rw [allF_iff] at h
  obtain ⟨h1, h2⟩ := h
  simp only [decide_eq_true_eq] at h1
  exact ⟨by omega, fun j hj => h2 j (by omega) (by omega)⟩
/-- The ticks and the time between a point and the one before it. -/
def dT (l : List S35) (i : Int) : Int := (rd_T35 l i).f0 - (rd_T35 l (i - 1)).f0
def dM (l : List S35) (i : Int) : Int := (rd_T35 l i).f1 - (rd_T35 l (i - 1)).f1
theorem gap_bd {l : List S35} (h : arePM l = true) (i : Nat) (h1 : 1 ≤ i) (h2 : i < l.length) : 0 ≤ dT l (i : Int) ∧ dT l (i : Int) ≤ 2000 ∧ 0 ≤ dM l (i : Int) ∧ dM l (i : Int) ≤ 10000000 := by
  obtain ⟨_, hf⟩ := arePM_facts h
  have a := hf i h2
  have b := hf (i - 1) (by omega)
  rw [show ((i - 1 : Nat) : Int) = (i : Int) - 1 by omega] at b
  simp only [apC, decide_eq_true_eq] at a b
  unfold dT dM
  have := a.2.2.2.2 (by omega)
  omega
def stC (l : List S35) (p : Int) (i k : Int) : Bool := decide (100 * (dM l i * dT l k) ≤ (dM l k * dT l i) * (100 + p))
def steadyM (l : List S35) (p : Int) : Bool := arePM l && (decide (0 ≤ p ∧ p ≤ 1000) && allG (stC l p) (l.length - 1) 1 (l.length - 1) 1)
/-- What is reckoned of two gaps, without a wrap. -/
theorem gaps_small {l : List S35} {p : Int} (h : arePM l = true) (hp : 0 ≤ p ∧ p ≤ 1000) (i k : Nat) (hi : 1 ≤ i) (hi2 : i < l.length) (hk : 1 ≤ k) (hk2 : k < l.length) :
    (0 ≤ dM l i * dT l k ∧ dM l i * dT l k ≤ 20000000000) ∧ (0 ≤ dM l k * dT l i ∧ dM l k * dT l i ≤ 20000000000) ∧ (0 ≤ dM l k * dT l i * (100 + p) ∧ dM l k * dT l i * (100 + p) ≤ 22000000000000) := by
  obtain ⟨a1, a2, a3, a4⟩ := gap_bd h i hi hi2
  obtain ⟨b1, b2, b3, b4⟩ := gap_bd h k hk hk2
  have m1 := mul_bd2 a3 a4 b1 b2
  have m2 := mul_bd2 b3 b4 a1 a2
  have m3 := mul_bd2 m2.1 m2.2 (show 0 ≤ 100 + p by omega) (show 100 + p ≤ 1100 by omega)
  omega
/-- The gaps, a list. -/
def gapsU (l : List S35) (m : Nat) : List S35 := (List.range m).map fun j => ⟨dT l ((j + 1 : Nat) : Int), dM l ((j + 1 : Nat) : Int)⟩
theorem gapsU_length (l : List S35) (m : Nat) : (gapsU l m).length = m := by simp [gapsU]
theorem gapsU_at (l : List S35) (m j : Nat) (h : j < m) : rd_T35 (gapsU l m) (j : Int) = ⟨dT l ((j + 1 : Nat) : Int), dM l ((j + 1 : Nat) : Int)⟩ := by
  simp [rd_T35, gapsU, List.getD, h]
theorem gapsU_succ (l : List S35) (m : Nat) : gapsU l (m + 1) = gapsU l m ++ [⟨dT l ((m + 1 : Nat) : Int), dM l ((m + 1 : Nat) : Int)⟩] := by
  simp [gapsU, List.range_succ]
def stD (l : List S35) (p : Int) (i k : Int) : Bool := decide (100 * dM l (i + 1) * dT l (k + 1) ≤ (100 + p) * dM l (k + 1) * dT l (i + 1))
theorem implSteady_l2 (l : List S35) (p : Int) (h : arePM l = true) (hp : 0 ≤ p ∧ p ≤ 1000) (i : Nat) (hi2 : i + 1 < l.length) {r : Bool}
    (e : Ev (fun k => impl_IsSteady.l1 k p (gapsU l (l.length - 1)) (gapsU l (l.length - 1)) ((l.length - 1 : Nat) : Int) ((i : Int) + 1)) r) :
    Ev (fun k => impl_IsSteady.l2 k p (gapsU l (l.length - 1)) (gapsU l (l.length - 1)) ((l.length - 1 : Nat) : Int) (i : Int) (gapsU l (l.length - 1)) ((l.length - 1 : Nat) : Int) 0 (dT l ((i + 1 : Nat) : Int)) (dM l ((i + 1 : Nat) : Int)))
      (allF (stD l p (i : Int)) r (l.length - 1) 0) := by
  have hn := (arePM_facts h).1
  refine ev_all (L := fun k j => impl_IsSteady.l2 k p (gapsU l (l.length - 1)) (gapsU l (l.length - 1)) ((l.length - 1 : Nat) : Int) (i : Int) (gapsU l (l.length - 1)) ((l.length - 1 : Nat) : Int) j (dT l ((i + 1 : Nat) : Int)) (dM l ((i + 1 : Nat) : Int))) (n := l.length - 1) (fun k hk => ?_) ?_ (l.length - 1) 0 (by omega)
  · have w1 : Aside0 (wrap64 ((k : Int) + 1) = (k : Int) + 1) := ⟨wrap_id (by omega) (by omega)⟩
    have hg := gapsU_at l (l.length - 1) k hk
    obtain ⟨a1, a2, a3, a4⟩ := gap_bd h (i + 1) (by omega) hi2
    obtain ⟨b1, b2, b3, b4⟩ := gap_bd h (k + 1) (by omega) (by omega)
    obtain ⟨s1, s2, s3⟩ := gaps_small h hp (i + 1) (k + 1) (by omega) hi2 (by omega) (by omega)
    have t1 : 100 * dM l ((i + 1 : Nat) : Int) * dT l ((k + 1 : Nat) : Int) = 100 * (dM l ((i + 1 : Nat) : Int) * dT l ((k + 1 : Nat) : Int)) := Int.mul_assoc _ _ _
    have t2 : (100 + p) * dM l ((k + 1 : Nat) : Int) * dT l ((i + 1 : Nat) : Int) = dM l ((k + 1 : Nat) : Int) * dT l ((i + 1 : Nat) : Int) * (100 + p) := by
      rw [Int.mul_assoc, Int.mul_comm]
    have m4 := mul_bd2 (show 0 ≤ 100 + p by omega) (show 100 + p ≤ 1100 by omega) b3 b4
    have e1 : Aside0 (wrap64 ((wrap64 (100 * dM l ((i + 1 : Nat) : Int))) * dT l ((k + 1 : Nat) : Int)) = 100 * dM l ((i + 1 : Nat) : Int) * dT l ((k + 1 : Nat) : Int)) := ⟨by
      rw [wrap_id (n := 100 * dM l ((i + 1 : Nat) : Int)) (by omega) (by omega), wrap_id (by omega) (by omega)]⟩
    have e2 : Aside0 (wrap64 ((wrap64 ((wrap64 (100 + p)) * dM l ((k + 1 : Nat) : Int))) * dT l ((i + 1 : Nat) : Int)) = (100 + p) * dM l ((k + 1 : Nat) : Int) * dT l ((i + 1 : Nat) : Int)) := ⟨by
      rw [wrap_id (n := 100 + p) (by omega) (by omega), wrap_id (n := (100 + p) * dM l ((k + 1 : Nat) : Int)) (by omega) (by omega), wrap_id (by omega) (by omega)]⟩
    have c1 : ((i : Int) + 1) = ((i + 1 : Nat) : Int) := by omega
    have c2 : ((k : Int) + 1) = ((k + 1 : Nat) : Int) := by omega
    constructor
    · intro hc r' e'
      simp only [stD, c1, c2, decide_eq_true_eq] at hc
      refine ev_tail ?_
      simp only [impl_IsSteady.l2, w1.out, hg, e1.out, e2.out, gapsU_length]
      exact ev_pos (by omega) (ev_pos (by omega) (ev_pos (by omega) (ev_neg (by omega) e')))
    · intro hc
      simp only [stD, c1, c2, decide_eq_false_iff_not] at hc
      refine ev_tail ?_
      simp only [impl_IsSteady.l2, w1.out, hg, e1.out, e2.out, gapsU_length]
      exact ev_pos (by omega) (ev_pos (by omega) (ev_pos (by omega) (ev_pos (by omega) (Ev.now _))))
  · refine ev_tail ?_
    simp only [impl_IsSteady.l2]
    refine ev_neg (by omega) ?_
    rw [wrap_id (by omega) (by omega)]
    exact e
theorem implSteady_l1 (l : List S35) (p : Int) (h : arePM l = true) (hp : 0 ≤ p ∧ p ≤ 1000) (d : Nat) : ∀ i : Nat, i + d = l.length - 1 →
    Ev (fun k => impl_IsSteady.l1 k p (gapsU l (l.length - 1)) (gapsU l (l.length - 1)) ((l.length - 1 : Nat) : Int) (i : Int)) (allG (stD l p) (l.length - 1) 0 d i) := by
  induction d with
  | zero =>
    intro i hd
    refine ev_tail ?_
    simp only [impl_IsSteady.l1, allG]
    exact ev_neg (by omega) (Ev.now _)
  | succ d ih =>
    intro i hd
    have e := ih (i + 1) (by omega)
    have hg := gapsU_at l (l.length - 1) i (by omega)
    refine ev_tail ?_
    simp only [impl_IsSteady.l1, allG, hg, gapsU_length]
    refine ev_pos (by omega) (ev_pos (by omega) (ev_pos (by omega) ?_))
    exact implSteady_l2 l p h hp i (by omega) (by simpa using e)
theorem implSteady_l0 (l : List S35) (p : Int) (h : arePM l = true) (hp : 0 ≤ p ∧ p ≤ 1000) (d : Nat) : ∀ i : Nat, i + d = l.length - 1 →
    Ev (fun k => impl_IsSteady.l0 k l p (gapsU l i) ((i + 1 : Nat) : Int)) (allG (stD l p) (l.length - 1) 0 (l.length - 1) 0) := by
  have hn := (arePM_facts h).1
  induction d with
  | zero =>
    intro i hd
    obtain rfl : i = l.length - 1 := by omega
    refine ev_tail ?_
    simp only [impl_IsSteady.l0, gapsU_length]
    refine ev_neg (by omega) ?_
    exact implSteady_l1 l p h hp (l.length - 1) 0 (by omega)
  | succ d ih =>
    intro i hd
    have e := ih (i + 1) (by omega)
    obtain ⟨a1, a2, a3, a4⟩ := gap_bd h (i + 1) (by omega) (by omega)
    have w1 : Aside0 (wrap64 (((i + 1 : Nat) : Int) + 1) = ((i + 1 + 1 : Nat) : Int)) := ⟨wrap_succ (by omega)⟩
    have w2 : Aside0 (wrap64 (((i + 1 : Nat) : Int) - 1) = ((i + 1 : Nat) : Int) - 1) := ⟨wrap_id (by omega) (by omega)⟩
    have x1 : Aside0 (wrap64 (((rd_T35 l ((i + 1 : Nat) : Int)).f1) - ((rd_T35 l (((i + 1 : Nat) : Int) - 1)).f1)) = dM l ((i + 1 : Nat) : Int)) := ⟨wrap_id (by unfold dM at a3; omega) (by unfold dM at a4; omega)⟩
    have x2 : Aside0 (wrap64 (((rd_T35 l ((i + 1 : Nat) : Int)).f0) - ((rd_T35 l (((i + 1 : Nat) : Int) - 1)).f0)) = dT l ((i + 1 : Nat) : Int)) := ⟨wrap_id (by unfold dT at a1; omega) (by unfold dT at a2; omega)⟩
    refine ev_tail ?_
    simp only [impl_IsSteady.l0, w1.out, w2.out, x1.out, x2.out, gapsU_length]
    refine ev_pos (by omega) (ev_pos (by omega) (ev_pos (by omega) (ev_pos (by omega) (ev_pos (by omega) ?_))))
    rw [← gapsU_succ]
    exact e
theorem stD_eq (l : List S35) (p : Int) (n : Nat) : allG (stD l p) n 0 n 0 = allG (stC l p) n 1 n 1 := by
  rw [Bool.eq_iff_iff, allG_iff, allG_iff]
  have key : ∀ i k : Nat, stD l p (i : Int) (k : Int) = stC l p ((i + 1 : Nat) : Int) ((k + 1 : Nat) : Int) := by
    intro i k
    unfold stD stC
    rw [show ((i : Int) + 1) = ((i + 1 : Nat) : Int) by omega, show ((k : Int) + 1) = ((k + 1 : Nat) : Int) by omega, Int.mul_assoc 100, Int.mul_assoc (100 + p), Int.mul_comm (100 + p)]
  constructor
  · intro h a h1 h2 b h3 h4
    have := h (a - 1) (by omega) (by omega) (b - 1) (by omega) (by omega)
    rw [key, show a - 1 + 1 = a by omega, show b - 1 + 1 = b by omega] at this
    exact this
  · intro h a h1 h2 b h3 h4
    rw [key]
    exact h (a + 1) (by omega) (by omega) (b + 1) (by omega) (by omega)
theorem implIsSteady_ev (l : List S35) (p : Int) (hl : l.length ≤ 1048576) : Ev (fun k => impl_IsSteady.f k l p) (steadyM l p) := by
  simp only [impl_IsSteady.f, InRange_eq, Option.bind_some, steadyM]
  refine Ev.bind (implArePoints_ev l hl) (ev_ite (fun h => ?_) (fun h => ?_))
  · rw [h, Bool.true_and]
    refine ev_tail ?_
    simp only [impl_IsSteady.j0]
    by_cases hp : 0 ≤ p ∧ p ≤ 1000
    · rw [decide_eq_true hp, Bool.true_and, ← stD_eq]
      refine ev_neg (by simp) ?_
      exact implSteady_l0 l p h hp (l.length - 1) 0 (by omega)
    · rw [decide_eq_false hp, Bool.false_and]
      exact ev_pos (by simp) (Ev.now _)
  · rw [Bool.eq_false_iff.mpr h, Bool.false_and]
    refine ev_tail ?_
    simp only [impl_IsSteady.j0]
    exact ev_pos (by trivial) (Ev.now _)

/-! ### draws -/
/-- Where a reader of draws stands: inside its bytes. -/
def Rd (b : List Int) (i : Int) : Prop := 0 ≤ i ∧ i ≤ (b.length : Int) ∧ b.length ≤ 1048576
theorem and255 (x : Int) : 0 ≤ Go.bits .and .i64 x 255 ∧ Go.bits .and .i64 x 255 ≤ 255 := by
  have h : (BitVec.ofInt IntKind.i64.bits x &&& BitVec.ofInt IntKind.i64.bits 255).toNat ≤ 255 := by
    rw [BitVec.toNat_and]; exact Nat.le_trans Nat.and_le_right (by decide)
  show 0 ≤ IntKind.i64.wrap ((BitVec.ofInt IntKind.i64.bits x &&& BitVec.ofInt IntKind.i64.bits 255).toNat : Int) ∧ IntKind.i64.wrap ((BitVec.ofInt IntKind.i64.bits x &&& BitVec.ofInt IntKind.i64.bits 255).toNat : Int) ≤ 255
  generalize (BitVec.ofInt IntKind.i64.bits x &&& BitVec.ofInt IntKind.i64.bits 255).toNat = n at h ⊢
  simp only [i64_w]
  rw [wrap_id (by omega) (by omega)]
  omega
theorem new_l0 (b : List Int) (hb : b.length ≤ 1048576) (d : Nat) : ∀ (i : Nat) (h : Int), i + d = b.length → ∃ h', Ev (fun k => spec_l1New.l0 k b h (i : Int)) (b, 0, h') := by
  induction d with
  | zero =>
    intro i h hi
    refine ⟨h, ev_tail ?_⟩
    simp only [spec_l1New.l0]
    exact ev_neg (by omega) (Ev.now _)
  | succ d ih =>
    intro i h hi
    by_cases h4 : (i : Int) < 4000
    · obtain ⟨h', e⟩ := ih (i + 1) (Go.bits .and .i64 (wrap64 ((wrap64 ((wrap64 (h * 137)) + (wrap64 (rd b (i : Int))))) + 11)) 1073741823) (by omega)
      refine ⟨h', ev_tail ?_⟩
      simp only [spec_l1New.l0]
      refine ev_pos (by omega) (ev_pos h4 (ev_pos (by omega) ?_))
      rw [wrap_succ (by omega)]
      exact e
    · refine ⟨h, ev_tail ?_⟩
      simp only [spec_l1New.l0]
      exact ev_pos (by omega) (ev_neg h4 (Ev.now _))
theorem new_ok (b : List Int) (hb : b.length ≤ 1048576) : ∃ h', Ev (fun k => spec_l1New.f k b) (b, 0, h') := by
  obtain ⟨h', e⟩ := new_l0 b hb b.length 0 (wrap64 (193017 + (b.length : Int))) (by omega)
  exact ⟨h', by simp only [spec_l1New.f]; exact e⟩
theorem Rd.zero {b : List Int} (hb : b.length ≤ 1048576) : Rd b 0 := ⟨by omega, by omega, hb⟩
theorem byte_ok {b : List Int} {i : Int} (h : Rd b i) (s : Int) : ∃ x i' s', spec_l1Byte.f b i s = some (x, i', s') ∧ (0 ≤ x ∧ x ≤ 255) ∧ Rd b i' := by
  obtain ⟨h1, h2, h3⟩ := h
  unfold spec_l1Byte.f
  by_cases c : i < (b.length : Int)
  · rw [if_pos c, if_pos h1]
    exact ⟨_, _, _, rfl, and255 _, by rw [wrap_id (by omega) (by omega)]; exact ⟨by omega, by omega, h3⟩⟩
  · rw [if_neg c]
    exact ⟨_, _, _, rfl, and255 _, h1, h2, h3⟩
theorem below_ok {b : List Int} {i : Int} (h : Rd b i) (s n : Int) : ∃ x i' s', spec_l1Below.f b i s n = some (x, i', s') ∧ (0 ≤ x ∧ (0 < n → x < n) ∧ (n ≤ 0 → x = 0)) ∧ Rd b i' := by
  unfold spec_l1Below.f
  by_cases c0 : n ≤ 0
  · rw [if_pos c0]
    exact ⟨_, _, _, rfl, ⟨by omega, fun z => by omega, fun _ => rfl⟩, h⟩
  · rw [if_neg c0]
    by_cases c1 : n ≤ 256
    · rw [if_pos c1]
      obtain ⟨x, i', s', e, hx, h'⟩ := byte_ok h s
      rw [e]
      simp only [Option.bind_some]
      rw [if_neg (by omega)]
      exact ⟨_, _, _, rfl, ⟨Int.tmod_nonneg _ hx.1, fun _ => Int.tmod_lt_of_pos _ (by omega), fun z => absurd z c0⟩, h'⟩
    · rw [if_neg c1]
      obtain ⟨x, i1, s1, e1, hx, h1⟩ := byte_ok h s
      obtain ⟨y, i2, s2, e2, hy, h2⟩ := byte_ok h1 s1
      obtain ⟨z, i3, s3, e3, hz, h3⟩ := byte_ok h2 s2
      rw [e1]
      simp only [Option.bind_some, e2, e3]
      rw [if_neg (by omega)]
      refine ⟨_, _, _, rfl, ⟨Int.tmod_nonneg _ ?_, fun _ => Int.tmod_lt_of_pos _ (by omega), fun z => absurd z c0⟩, h3⟩
      rw [wrap_id (n := x * 65536) (by omega) (by omega), wrap_id (n := y * 256) (by omega) (by omega), wrap_id (n := x * 65536 + y * 256) (by omega) (by omega), wrap_id (by omega) (by omega)]
      omega

theorem int_ok {b : List Int} {i : Int} (h : Rd b i) (s : Int) (l : List Int) (hl : 0 < l.length) : ∃ v i' s', spec_l1Int.f b i s l = some (v, i', s') ∧ v ∈ l ∧ Rd b i' := by
  obtain ⟨x, i', s', e, ⟨h0, h1, _⟩, h'⟩ := below_ok h s (l.length : Int)
  have h1 := h1 (by omega)
  unfold spec_l1Int.f
  rw [e]
  simp only [Option.bind_some]
  rw [if_pos h0, if_pos h1]
  refine ⟨_, _, _, rfl, ?_, h'⟩
  have hx : x.toNat < l.length := by omega
  have : rd l x = l[x.toNat] := by simp [rd, List.getD, hx]
  rw [this]
  exact List.getElem_mem hx

theorem big_ev (l : List Int) : laws_big.f l = some (decide ((l.length : Int) > 1048576)) := rfl

theorem l19Draw_l0 (d : Nat) : ∀ (out : List S35) (x y : Int) {b : List Int} {i : Int} (h : Rd b i) (s : Int), out.length + d ≤ 1000 → d ≤ 1000 →
    ∃ l i' s', Ev (fun k => spec_l19Draw.l0 k out x y (d : Int) b i s) (l, i', s') ∧ l.length ≤ 1000 ∧ Rd b i' := by
  induction d with
  | zero =>
    intro out x y b i h s ho hd
    refine ⟨out, i, s, ev_tail ?_, by omega, h⟩
    simp only [spec_l19Draw.l0]
    exact ev_neg (by omega) (Ev.now _)
  | succ d ih =>
    intro out x y b i h s ho hd
    obtain ⟨u, i1, s1, e1, _, h1⟩ := below_ok h s 3
    obtain ⟨v, i2, s2, e2, _, h2⟩ := below_ok h1 s1 8
    obtain ⟨l, i3, s3, e3, hl, h3⟩ := ih (out ++ [⟨x, y⟩]) (wrap64 (x + (wrap64 (6 * (wrap64 (1 + u)))))) (wrap64 (y + (wrap64 ((wrap64 (6 * (wrap64 (1 + u)))) * (wrap64 (38 + v)))))) h2 s2 (by simp; omega) (by omega)
    refine ⟨l, i3, s3, ev_tail ?_, hl, h3⟩
    simp only [spec_l19Draw.l0]
    refine ev_pos (by omega) (ev_pos (by omega) ?_)
    simp only [e1, e2, Option.bind_some]
    rw [show wrap64 (((d + 1 : Nat) : Int) - 1) = (d : Int) by rw [wrap_id (by omega) (by omega)]; omega]
    exact e3
theorem l19Draw_ok {b : List Int} {i : Int} (h : Rd b i) (s : Int) : ∃ l i' s', Ev (fun k => spec_l19Draw.f k b i s) (l, i', s') ∧ l.length ≤ 1000 ∧ Rd b i' := by
  obtain ⟨x, i1, s1, e1, _, h1⟩ := below_ok h s 5
  obtain ⟨y, i2, s2, e2, _, h2⟩ := below_ok h1 s1 100
  obtain ⟨n, i3, s3, e3, ⟨hn0, hn1, _⟩, h3⟩ := below_ok h2 s2 7
  have := hn1 (by omega)
  obtain ⟨l, i4, s4, e4, hl, h4⟩ := l19Draw_l0 n.toNat [] x y h3 s3 (by simp; omega) (by omega)
  rw [show ((n.toNat : Nat) : Int) = n by omega] at e4
  refine ⟨l, i4, s4, ?_, hl, h4⟩
  simp only [spec_l19Draw.f, e1, e2, e3, Option.bind_some]
  exact e4
theorem l19Any_ok {b : List Int} {i : Int} (h : Rd b i) (s : Int) : ∃ l i' s', Ev (fun k => spec_l19Any.f k b i s) (l, i', s') ∧ l.length ≤ 1000 ∧ Rd b i' := by
  obtain ⟨l, i1, s1, e1, hl, h1⟩ := l19Draw_ok h s
  obtain ⟨x, i2, s2, e2, ⟨x0, x1, _⟩, h2⟩ := below_ok h1 s1 (l.length : Int)
  obtain ⟨y, i3, s3, e3, _, h3⟩ := below_ok h2 s2 9
  by_cases c0 : (l.length : Int) = 0
  · refine ⟨l, i1, s1, ?_, hl, h1⟩
    simp only [spec_l19Any.f]
    exact Ev.bind e1 (ev_pos c0 (Ev.now _))
  · have x1 := x1 (by omega)
    by_cases c1 : y = 0
    · obtain ⟨v, i4, s4, e4, _, h4⟩ := int_ok h3 s3 [-1, 0, 2000, 2001] (by decide)
      refine ⟨l.set x.toNat ⟨v, (rd_T35 l x).f1⟩, i4, s4, ?_, by simpa using hl, h4⟩
      · simp only [spec_l19Any.f]
        refine Ev.bind e1 (ev_neg c0 ?_)
        simp only [e2, e3, Option.bind_some]
        refine ev_pos c1 ?_
        simp only [e4, Option.bind_some]
        exact ev_pos x0 (ev_pos x1 (Ev.now _))
    · by_cases c2 : y = 1
      · obtain ⟨v, i4, s4, e4, _, h4⟩ := int_ok h3 s3 [-1, 0, 10000000, 10000001] (by decide)
        refine ⟨l.set x.toNat ⟨(rd_T35 l x).f0, v⟩, i4, s4, ?_, by simpa using hl, h4⟩
        · simp only [spec_l19Any.f]
          refine Ev.bind e1 (ev_neg c0 ?_)
          simp only [e2, e3, Option.bind_some]
          refine ev_neg c1 (ev_pos c2 ?_)
          simp only [e4, Option.bind_some]
          exact ev_pos x0 (ev_pos x1 (Ev.now _))
      · refine ⟨l, i3, s3, ?_, hl, h3⟩
        simp only [spec_l19Any.f]
        refine Ev.bind e1 (ev_neg c0 ?_)
        simp only [e2, e3, Option.bind_some]
        exact ev_neg c1 (ev_neg c2 (Ev.now _))

theorem modM_gen {p q : Int} (h1 : -1000000000 ≤ p) (h2 : p ≤ 1000000000) (q1 : 1 ≤ q) (q2 : q ≤ 1000000) : modM p q = p % q := by
  unfold modM
  rw [if_pos (by omega)]
  have hq : q.natAbs = q := by omega
  rcases Int.le_total 0 p with h | h
  · have a := Int.emod_nonneg p (show q ≠ 0 by omega)
    have b := Int.emod_lt_of_pos p (show 0 < q by omega)
    rw [Int.tmod_eq_emod_of_nonneg h, wrap_id (by omega) (by omega), Int.tmod_eq_emod_of_nonneg (by omega)]
    rw [Int.add_emod_right, Int.emod_emod_of_dvd _ (Int.dvd_refl q)]
  · have e := Int.neg_tmod (-p) q
    rw [Int.neg_neg] at e
    have e2 : Int.tmod (-p) q = (-p) % q := Int.tmod_eq_emod_of_nonneg (by omega)
    have a := Int.emod_nonneg (-p) (show q ≠ 0 by omega)
    have b := Int.emod_lt_of_pos (-p) (show 0 < q by omega)
    rw [e, e2, wrap_id (by omega) (by omega), Int.tmod_eq_emod_of_nonneg (by omega)]
    have c1 : p = q * (-((-p) / q)) + -((-p) % q) := by
      have := Int.mul_ediv_add_emod (-p) q
      rw [Int.mul_neg]
      omega
    rw [Int.add_emod_right]
    conv => rhs; rw [c1]
    rw [Int.add_comm (q * _), Int.add_mul_emod_self_left]
theorem floorM_eq {n d : Int} (h : ratioOK n d = true) : floorM n d = n / d := by
  obtain ⟨⟨d1, d2⟩, ⟨n1, n2⟩, _⟩ := ratioOK_facts h
  have a := Int.emod_nonneg n (show d ≠ 0 by omega)
  have b := Int.emod_lt_of_pos n (show 0 < d by omega)
  have c := Int.mul_ediv_add_emod n d
  have bd : -1000000001 ≤ n / d ∧ n / d ≤ 1000000000 := by
    constructor
    · refine (Int.le_ediv_iff_mul_le (by omega)).2 ?_
      have : (1000000001 : Int) * 1 ≤ 1000000001 * d := Int.mul_le_mul_of_nonneg_left d1 (by omega)
      omega
    · refine Int.le_of_lt_add_one ((Int.ediv_lt_iff_lt_mul (by omega)).2 ?_)
      have : (1000000001 : Int) * 1 ≤ 1000000001 * d := Int.mul_le_mul_of_nonneg_left d1 (by omega)
      omega
  rw [floorM, if_pos h, modM_gen n1 n2 d1 d2, wrap_id (n := n - n % d) (by omega) (by omega), show n - n % d = d * (n / d) by omega, Int.mul_tdiv_cancel_left _ (by omega), wrap_id (by omega) (by omega)]
theorem lowM_yes {n d : Int} (h : (lowM n d).2.2 = true) : lowM n d = (Int.tdiv n (gcdI n d), Int.tdiv d (gcdI n d), true) := by
  unfold lowM at h ⊢
  by_cases c : ratioOK (Int.tdiv n (gcdI n d)) (Int.tdiv d (gcdI n d)) = true
  · rw [if_pos c]
  · rw [if_neg c] at h; simp at h
theorem gcdI_dvd_r (a b : Int) : gcdI a b ∣ b := by
  unfold gcdI
  exact Int.ofNat_dvd_left.2 (Nat.gcd_dvd_right _ _)
/-- What lowest terms keep: n = n' * g, d = d' * g, g above 0. -/
theorem lowM_parts {n d : Int} (hd : 0 < d) (h : (lowM n d).2.2 = true) : ∃ g, 0 < g ∧ n = g * (lowM n d).1 ∧ d = g * (lowM n d).2.1 := by
  have hg := gcdI_pos n d hd
  rw [lowM_yes h]
  exact ⟨gcdI n d, hg, (Int.mul_tdiv_cancel' (gcdI_dvd n d)).symm, (Int.mul_tdiv_cancel' (gcdI_dvd_r n d)).symm⟩
theorem pos_of_mul {g x : Int} (hg : 0 < g) (h : 0 < g * x) : 0 < x := by
  refine Int.not_le.1 fun c => ?_
  have := Int.mul_nonneg (show 0 ≤ g by omega) (show 0 ≤ -x by omega)
  rw [Int.mul_neg] at this
  omega
theorem le_of_mul {g x y : Int} (hg : 0 < g) (h : g * x ≤ g * y) : x ≤ y := Int.le_of_mul_le_mul_left h hg
theorem makeM_pos {n d : Int} (hn : 0 < n) (hd : 0 < d) (h : (makeM n d).2.2 = true) : 0 < (makeM n d).1 := by
  unfold makeM at h ⊢
  by_cases c : -1000000000000000 ≤ n ∧ n ≤ 1000000000000000 ∧ -1000000000000000 ≤ d ∧ d ≤ 1000000000000000 ∧ d ≠ 0
  · rw [if_pos c, if_neg (by omega)] at h ⊢
    obtain ⟨g, hg, e, _⟩ := lowM_parts hd h
    exact pos_of_mul hg (e ▸ hn)
  · rw [if_neg c] at h; simp at h
theorem arePM_up {l : List S35} (h : arePM l = true) (j : Nat) : ∀ i : Nat, i < j → j < l.length → (rd_T35 l (i : Int)).f0 < (rd_T35 l (j : Int)).f0 ∧ (rd_T35 l (i : Int)).f1 < (rd_T35 l (j : Int)).f1 := by
  have hf : ∀ j : Nat, j < l.length → apC l (j : Int) = true := by
    unfold arePM at h
    rw [allF_iff] at h
    exact fun j hj => h.2 j (by omega) (by omega)
  induction j with
  | zero => intro i hi; omega
  | succ j ih =>
    intro i hi hj
    have a := hf (j + 1) hj
    simp only [apC, decide_eq_true_eq] at a
    have a := a.2.2.2.2 (by omega)
    rw [show (((j + 1 : Nat) : Int) - 1) = (j : Int) by omega] at a
    by_cases c : i = j
    · subst c; exact a
    · have := ih i (by omega) (by omega)
      omega
theorem meanM_pos {l : List S35} {p : Int} (h : (meanM l p).2.2 = true) : 0 < (meanM l p).1 := by
  by_cases c : arePM l = true ∧ 2 ≤ l.length ∧ 1 ≤ p ∧ p ≤ 60
  · unfold meanM at h ⊢
    rw [if_pos c] at h ⊢
    obtain ⟨ha, hl, p1, p2⟩ := c
    have a := arePM_at ha (l.length - 1) (by omega)
    have b := arePM_at ha (max 0 ((l.length : Int) - 1 - p)).toNat (by omega)
    have u := arePM_up ha (l.length - 1) (max 0 ((l.length : Int) - 1 - p)).toNat (by omega) (by omega)
    rw [show ((l.length - 1 : Nat) : Int) = (l.length : Int) - 1 by omega] at a u
    rw [show (((max 0 ((l.length : Int) - 1 - p)).toNat : Nat) : Int) = max 0 ((l.length : Int) - 1 - p) by omega] at b u
    rw [wrap_id (by omega) (by omega), wrap_id (by omega) (by omega)] at h ⊢
    exact makeM_pos (by omega) (by omega) h
  · unfold meanM at h
    rw [if_neg c] at h; simp at h
theorem lowM_one {m : Int} (h1 : -1000000000 ≤ m) (h2 : m ≤ 1000000000) : lowM m 1 = (m, 1, true) := by
  unfold lowM
  rw [gcdI_one, Int.tdiv_one, Int.tdiv_one, if_pos (ratioOK_one m h1 h2)]
theorem lowM_zero {d : Int} (hd : 0 < d) : lowM 0 d = (0, 1, true) := by
  have hg : gcdI 0 d = d := by unfold gcdI; simp; omega
  unfold lowM
  rw [hg, Int.zero_tdiv, Int.tdiv_self (by omega), if_pos (ratioOK_one 0 (by omega) (by omega))]
/-- At the last tick the last time is expected. -/
theorem expM_last {l : List S35} {p : Int} (h : (meanM l p).2.2 = true) : expM l p (rd_T35 l ((l.length : Int) - 1)).f0 = ((rd_T35 l ((l.length : Int) - 1)).f1, true) := by
  obtain ⟨hl, _, ⟨f1, f2⟩, g1, g2⟩ := expM_facts h
  have hd := (ratioOK_facts (meanM_ok h).1).1
  have r1 := ratioOK_one (rd_T35 l ((l.length : Int) - 1)).f1 (by omega) (by omega)
  rw [expM, if_pos ⟨h, f1, f2⟩, Int.sub_self, Int.mul_zero, lowM_zero (by omega), addM, if_pos (ratioOK_one 0 (by omega) (by omega)), Int.zero_add, Int.mul_one, lowM_one (by omega) (by omega)]
  unfold expTail
  rw [if_pos rfl, if_pos rfl, floorM_eq r1, Int.ediv_one]
/-- Later than the last tick is not before the last time, and sooner is not behind it. -/
theorem expM_mono {l : List S35} {p t : Int} (h : (expM l p t).2 = true) : (meanM l p).2.2 = true ∧ ((rd_T35 l ((l.length : Int) - 1)).f0 ≤ t → (rd_T35 l ((l.length : Int) - 1)).f1 ≤ (expM l p t).1) ∧ (t ≤ (rd_T35 l ((l.length : Int) - 1)).f0 → (expM l p t).1 ≤ (rd_T35 l ((l.length : Int) - 1)).f1) := by
  by_cases c : (meanM l p).2.2 = true ∧ 0 ≤ t ∧ t ≤ 2000
  · obtain ⟨hm, t1, t2⟩ := c
    refine ⟨hm, ?_⟩
    have hN := meanM_pos hm
    have hd := (ratioOK_facts (meanM_ok hm).1).1
    rw [expM, if_pos ⟨hm, t1, t2⟩] at h ⊢
    generalize (meanM l p).1 = N at h hN ⊢
    generalize (meanM l p).2.1 = D at h hd ⊢
    generalize (rd_T35 l ((l.length : Int) - 1)).f0 = a at h ⊢
    generalize (rd_T35 l ((l.length : Int) - 1)).f1 = M at h ⊢
    unfold expTail at h ⊢
    by_cases c1 : (lowM (N * (t - a)) D).2.2 = true
    · rw [if_pos c1] at h ⊢
      obtain ⟨g, hg, e1, e2⟩ := lowM_parts (by omega) c1
      have hr := lowM_ok c1
      generalize lowM (N * (t - a)) D = x at *
      obtain ⟨u, v, w⟩ := x
      dsimp only at *
      by_cases c2 : (addM u v M).2.2 = true
      · rw [if_pos c2] at h ⊢
        rw [addM, if_pos hr] at c2 ⊢
        have hv : 0 < v := by have := (ratioOK_facts hr).1; omega
        obtain ⟨g', hg', e3, e4⟩ := lowM_parts hv c2
        have hr2 := lowM_ok c2
        rw [floorM_eq hr2]
        generalize lowM (u + M * v) v = y at *
        obtain ⟨n, d, w'⟩ := y
        dsimp only at *
        have hd2 : 0 < d := by have := (ratioOK_facts hr2).1; omega
        constructor
        · intro ht
          refine (Int.le_ediv_iff_mul_le hd2).2 (le_of_mul hg' ?_)
          have k1 : 0 ≤ N * (t - a) := Int.mul_nonneg (by omega) (by omega)
          have k2 : 0 ≤ u := le_of_mul hg (by rw [Int.mul_zero, ← e1]; exact k1)
          rw [← e3, Int.mul_left_comm, ← e4]
          omega
        · intro ht
          refine Int.le_of_lt_add_one ((Int.ediv_lt_iff_lt_mul hd2).2 (Int.lt_of_le_of_lt (b := M * d) (le_of_mul hg' ?_) ?_))
          · have k1 : 0 ≤ N * (a - t) := Int.mul_nonneg (by omega) (by omega)
            have k3 : N * (t - a) = - (N * (a - t)) := by rw [← Int.mul_neg]; congr 1; omega
            have k2 : u ≤ 0 := le_of_mul hg (by rw [Int.mul_zero, ← e1]; omega)
            rw [← e3, Int.mul_left_comm, ← e4]
            omega
          · rw [Int.add_mul]; omega
      · rw [if_neg c2] at h; simp at h
    · rw [if_neg c1] at h; simp at h
  · rw [expM, if_neg c] at h; simp at h
theorem steadyM_up {l : List S35} {p : Int} (h : steadyM l p = true) : arePM l = true ∧ (p < 1000 → steadyM l (p + 1) = true) := by
  unfold steadyM at h ⊢
  simp only [Bool.and_eq_true, decide_eq_true_eq] at h ⊢
  obtain ⟨ha, hp, hs⟩ := h
  refine ⟨ha, fun hlt => ⟨ha, by omega, ?_⟩⟩
  rw [allG_iff] at hs ⊢
  intro i i1 i2 k k1 k2
  have := hs i i1 i2 k k1 k2
  simp only [stC, decide_eq_true_eq] at this ⊢
  have hn := (arePM_facts ha).1
  obtain ⟨_, s2, _⟩ := gaps_small ha hp i k i1 (by omega) k1 (by omega)
  have e : dM l ↑k * dT l ↑i * (100 + (p + 1)) = dM l ↑k * dT l ↑i * (100 + p) + dM l ↑k * dT l ↑i := by
    rw [show (100 + (p + 1)) = (100 + p) + 1 by omega, Int.mul_add, Int.mul_one]
  omega

theorem implLastRate_ev (l : List S35) (h : l.length ≤ 1048576) : Ev (fun k => impl_LastRate.f k l) (meanM l 1) := by
  simp only [impl_LastRate.f]
  exact Ev.bind (implMeanRate_ev l 1 h) (Ev.now _)
theorem drawMean_ok (b : List Int) (hb : b.length ≤ 1048576) : ∃ l p, Ev (fun k => spec_DrawMeanRate.f k b) (l, p) ∧ l.length ≤ 1000 := by
  obtain ⟨s0, e0⟩ := new_ok b hb
  obtain ⟨l, i1, s1, e1, hl, h1⟩ := l19Any_ok (Rd.zero hb) s0
  obtain ⟨v, i2, s2, e2, _, h2⟩ := int_ok h1 s1 [1, 2, 3, 60, 61, 0] (by decide)
  refine ⟨l, v, ?_, hl⟩
  simp only [spec_DrawMeanRate.f]
  refine Ev.bind e0 (Ev.bind e1 ?_)
  simp only [e2, Option.bind_some]
  exact Ev.now _
theorem drawExpect_ok (b : List Int) (hb : b.length ≤ 1048576) : ∃ l p t, Ev (fun k => spec_DrawExpectMs.f k b) (l, p, t) ∧ l.length ≤ 1000 := by
  obtain ⟨s0, e0⟩ := new_ok b hb
  obtain ⟨l, p, e1, hl⟩ := drawMean_ok b hb
  obtain ⟨v, i2, s2, e2, _, h2⟩ := int_ok (Rd.zero hb) s0 [0, 50, 90, 2000, 2001, -1] (by decide)
  refine ⟨l, p, v, ?_, hl⟩
  simp only [spec_DrawExpectMs.f]
  refine Ev.bind e1 (Ev.bind e0 ?_)
  simp only [e2, Option.bind_some]
  exact Ev.now _
theorem drawSteady_ok (b : List Int) (hb : b.length ≤ 1048576) : ∃ l p, Ev (fun k => spec_DrawIsSteady.f k b) (l, p) ∧ l.length ≤ 1000 := by
  obtain ⟨s0, e0⟩ := new_ok b hb
  obtain ⟨l, i1, s1, e1, hl, h1⟩ := l19Any_ok (Rd.zero hb) s0
  obtain ⟨v, i2, s2, e2, _, h2⟩ := int_ok h1 s1 [0, 5, 20, 100, 1000, 1001, -1] (by decide)
  refine ⟨l, v, ?_, hl⟩
  simp only [spec_DrawIsSteady.f]
  refine Ev.bind e0 (Ev.bind e1 ?_)
  simp only [e2, Option.bind_some]
  exact Ev.now _
theorem pa_j2 (l : List S35) (hl : l.length ≤ 1000) (x : Bool) (hx : x = false) : Ev (fun k => laws_FnPaces.j2 k l x) true := by
  subst hx
  refine ev_tail ?_
  simp only [laws_FnPaces.j2]
  refine ev_neg (by simp) (Ev.bind (implLastRate_ev l (by omega)) (Ev.bind (implMeanRate_ev l 1 (by omega)) (ev_pos (by simp) (ev_eq (Ev.now _) (by simp)))))
theorem pa_j1 (b : List Int) (hb : b.length ≤ 1048576) : Ev (fun k => laws_FnPaces.j1 k b) true := by
  obtain ⟨l, p, e, hl⟩ := drawSteady_ok b hb
  refine ev_tail ?_
  simp only [laws_FnPaces.j1]
  refine Ev.bind e (Ev.bind (implIsSteady_ev l p (by omega)) (ev_ite (fun h => ?_) (fun _ => pa_j2 l hl _ rfl)))
  obtain ⟨ha, hu⟩ := steadyM_up h
  refine Ev.bind (implArePoints_ev l (by omega)) (ev_pos ha (ev_ite (fun hp => ?_) (fun _ => pa_j2 l hl _ rfl)))
  have hp0 : 0 ≤ p := by
    unfold steadyM at h
    simp only [Bool.and_eq_true, decide_eq_true_eq] at h
    exact h.2.1.1
  dsimp only at hp ⊢
  rw [wrap_id (n := p + 1) (by omega) (by omega)]
  exact Ev.bind (implIsSteady_ev l (p + 1) (by omega)) (pa_j2 l hl _ (by rw [hu hp]; rfl))
theorem pa_j0 (b : List Int) (hb : b.length ≤ 1048576) (l : List S35) (hl : l.length ≤ 1000) (p t : Int) (x : Bool) (hx : x = false) :
    Ev (fun k => laws_FnPaces.j0 k b l p t (expM l p t).1 (expM l p t).2 (meanM l p).2.2 x) true := by
  subst hx
  refine ev_tail ?_
  simp only [laws_FnPaces.j0]
  refine ev_neg (by simp) (ev_ite (fun hm => ?_) (fun _ => pa_j1 b hb))
  obtain ⟨h2, _, _⟩ := expM_facts hm
  have hx := expM_last hm
  rw [wrap_id (n := (l.length : Int) - 1) (by omega) (by omega)]
  refine ev_pos (by omega) (ev_pos (by omega) (Ev.bind (implExpectMs_ev l p _ (by omega)) ?_))
  rw [hx]
  refine ev_pos rfl (ev_pos rfl (ev_ite (fun hok => ?_) (fun _ => pa_j1 b hb)))
  obtain ⟨_, m1, m2⟩ := expM_mono hok
  refine ev_ite (fun g1 => ?_) (fun g1 => ev_ite (fun g2 => ?_) (fun _ => pa_j1 b hb))
  · have := m1 (by omega)
    exact ev_neg (by omega) (ev_neg (by omega) (pa_j1 b hb))
  · have := m2 (by omega)
    exact ev_neg (by omega) (pa_j1 b hb)
theorem FnPaces : ∀ (l0 : List (Int)), (l0.length ≤ maxLen) → (∀ x ∈ l0, (Lit.int .u8 x).wf = true) → ∃ k, laws_FnPaces.f k l0 = some true := by
  intro b _ _
  refine Ev.rounds ?_
  simp only [laws_FnPaces.f, big_ev, Option.bind_some]
  refine ev_ite (fun _ => Ev.now _) (fun h => ?_)
  simp only [decide_eq_true_eq] at h
  have hb : b.length ≤ 1048576 := by omega
  obtain ⟨l, p, t, e, hl⟩ := drawExpect_ok b hb
  refine Ev.bind e (Ev.bind (implExpectMs_ev l p t (by omega)) (Ev.bind (specExpectMs_ev l p t (by omega)) (ev_neg (by simp) (Ev.bind (implMeanRate_ev l p (by omega)) (ev_ite (fun h1 => ?_) (fun h1 => ?_))))))
  · have hm := (expM_mono h1).1
    exact ev_pos hm (Ev.bind (implIsRatio_ev _ _) (ev_pos (meanM_ok hm).1 (pa_j0 b hb l hl p t _ (decide_eq_false (by have := meanM_pos hm; omega)))))
  · refine ev_ite (fun hm => ?_) (fun hm => pa_j0 b hb l hl p t _ rfl)
    exact Ev.bind (implIsRatio_ev _ _) (ev_pos (meanM_ok hm).1 (pa_j0 b hb l hl p t _ (decide_eq_false (by have := meanM_pos hm; omega))))
end Go.Proofs.Ytlkfhddckgjlnaa.Pure
