/-
The distance of two lists' beginnings (put in, left out, changed), and the length of what they have in common: plain laws.
Conditions: none.
-/
import Derived.Test.YtcgkmcnfhobkiaaBase
namespace Go.Proofs.Ytcgkmcnfhobkiaa.Ed
open Go.RowKit Go.Proofs.YtcgkmcnfhobkiaaW.PrintWords Go.Proofs.Ytcgkmcnfhobkiaa.Base
set_option linter.unusedVariables false

def unl (a b : List Int) (i j : Nat) : Nat := if a.getD i 0 = b.getD j 0 then 0 else 1
/-- The distance of a's first i and b's first j. -/
def ed (a b : List Int) : Nat → Nat → Nat
  | 0, j => j
  | i + 1, 0 => i + 1
  | i + 1, j + 1 => min (min (ed a b i (j + 1) + 1) (ed a b (i + 1) j + 1)) (ed a b i j + unl a b i j)
termination_by i j => i + j
theorem ed_zero (a b : List Int) (j : Nat) : ed a b 0 j = j := by rw [ed]
theorem ed_left (a b : List Int) (i : Nat) : ed a b i 0 = i := by cases i <;> rw [ed]
theorem ed_succ (a b : List Int) (i j : Nat) : ed a b (i + 1) (j + 1) = min (min (ed a b i (j + 1) + 1) (ed a b (i + 1) j + 1)) (ed a b i j + unl a b i j) := by rw [ed]
theorem unl_le (a b : List Int) (i j : Nat) : unl a b i j ≤ 1 := by unfold unl; split <;> omega
theorem ed_le (a b : List Int) (i j : Nat) : ed a b i j ≤ i + j := by
  induction i generalizing j with
  | zero => rw [ed_zero]; omega
  | succ i ih =>
    cases j with
    | zero => rw [ed_left]; omega
    | succ j => rw [ed_succ]; have := ih (j + 1); omega

/-- The length of what a's first i and b's first j have in common. -/
def lc (a b : List Int) : Nat → Nat → Nat
  | 0, _ => 0
  | _ + 1, 0 => 0
  | i + 1, j + 1 => if a.getD i 0 = b.getD j 0 then lc a b i j + 1 else max (lc a b i (j + 1)) (lc a b (i + 1) j)
termination_by i j => i + j
theorem lc_zero (a b : List Int) (j : Nat) : lc a b 0 j = 0 := by rw [lc]
theorem lc_left (a b : List Int) (i : Nat) : lc a b i 0 = 0 := by cases i <;> rw [lc]
theorem lc_succ (a b : List Int) (i j : Nat) : lc a b (i + 1) (j + 1) = if a.getD i 0 = b.getD j 0 then lc a b i j + 1 else max (lc a b i (j + 1)) (lc a b (i + 1) j) := by rw [lc]
theorem lc_steps (a b : List Int) (n : Nat) : ∀ i j, i + j = n → lc a b i j ≤ lc a b (i + 1) j ∧ lc a b (i + 1) j ≤ lc a b i j + 1 ∧ lc a b i j ≤ lc a b i (j + 1) ∧ lc a b i (j + 1) ≤ lc a b i j + 1 := by
  induction n using Nat.strongRecOn with
  | _ n ih =>
    intro i j h
    cases i with
    | zero =>
      simp only [lc_zero]
      cases j with
      | zero => simp only [lc_left]; omega
      | succ j =>
        rw [lc_succ]
        obtain ⟨h1, h2, h3, h4⟩ := ih j (by omega) 0 j (by omega)
        simp only [lc_zero] at *
        split <;> omega
    | succ i =>
      cases j with
      | zero =>
        simp only [lc_left]
        rw [lc_succ]
        obtain ⟨h1, h2, h3, h4⟩ := ih i (by omega) i 0 (by omega)
        simp only [lc_left] at *
        split <;> omega
      | succ j =>
        obtain ⟨a1, a2, a3, a4⟩ := ih (i + j) (by omega) i j rfl
        obtain ⟨b1, b2, b3, b4⟩ := ih (i + (j + 1)) (by omega) i (j + 1) rfl
        obtain ⟨c1, c2, c3, c4⟩ := ih (i + 1 + j) (by omega) (i + 1) j rfl
        have e2 := lc_succ a b (i + 1) j
        have e3 := lc_succ a b i (j + 1)
        refine ⟨?_, ?_, ?_, ?_⟩
        · rw [e2]; split <;> omega
        · rw [e2]; split <;> omega
        · rw [e3]; split <;> omega
        · rw [e3]; split <;> omega
theorem lc_le (a b : List Int) (i j : Nat) : lc a b i j ≤ i := by
  induction i generalizing j with
  | zero => rw [lc_zero]; omega
  | succ i ih => have := (lc_steps a b (i + j) i j rfl).2.1; have := ih j; omega
/-- As a table that looks at all three neighbours tells it. -/
theorem lc_max (a b : List Int) (i j : Nat) : lc a b (i + 1) (j + 1) = if a.getD i 0 = b.getD j 0 then max (max (lc a b i (j + 1)) (lc a b (i + 1) j)) (lc a b i j + 1) else max (lc a b i (j + 1)) (lc a b (i + 1) j) := by
  obtain ⟨h1, h2, h3, h4⟩ := lc_steps a b (i + j) i j rfl
  rw [lc_succ]
  split <;> omega

/-! ### tables, row by row and flat -/
theorem getD_map_range (f : Nat → Int) (n i : Nat) (h : i < n) : ((List.range n).map f).getD i 0 = f i := by
  simp [List.getD, h]
theorem rd_map_range (f : Nat → Int) (n i : Nat) (h : i < n) : rd ((List.range n).map f) (i : Int) = f i := by
  rw [rd_nat]; exact getD_map_range f n i h
theorem map_range_succ (f : Nat → Int) (n : Nat) : (List.range (n + 1)).map f = (List.range n).map f ++ [f n] := by simp [List.range_succ]
/-- A row that is filled from the left; the rest is zeros. -/
theorem row_set (f : Nat → Int) (n m : Nat) (v : Int) (hv : v = f n) : ((List.range n).map f ++ List.replicate (m + 1) 0).set ((n : Nat) : Int).toNat v = (List.range (n + 1)).map f ++ List.replicate m 0 := by
  have h := set_mid ((List.range n).map f) 0 v (List.replicate m 0)
  rw [List.length_map, List.length_range] at h
  rw [List.replicate_succ, h, map_range_succ, hv]
  simp
theorem rd_row (f : Nat → Int) (n m i : Nat) (h : i < n) : rd ((List.range n).map f ++ List.replicate m 0) (i : Int) = f i := by
  rw [rd_nat, List.getD_eq_getElem?_getD, List.getElem?_append_left (by simpa using h)]
  simp [h]
theorem flat_div (w i k : Nat) (h : k < w) : (i * w + k) / w = i ∧ (i * w + k) % w = k := by
  constructor
  · rw [Nat.mul_comm, Nat.mul_add_div (by omega), Nat.div_eq_of_lt h]; omega
  · rw [Nat.mul_comm, Nat.mul_add_mod, Nat.mod_eq_of_lt h]
/-- The flat table of w columns. -/
def flat (f : Nat → Nat → Nat) (w n : Nat) : List Int := (List.range n).map fun m => ((f (m / w) (m % w) : Nat) : Int)
theorem flat_length (f : Nat → Nat → Nat) (w n : Nat) : (flat f w n).length = n := by simp [flat]
theorem flat_snoc (f : Nat → Nat → Nat) (w i k : Nat) (h : k < w) (v : Int) (hv : v = ((f i k : Nat) : Int)) : flat f w (i * w + k) ++ [v] = flat f w (i * w + (k + 1)) := by
  unfold flat
  rw [show i * w + (k + 1) = (i * w + k) + 1 by omega, map_range_succ, (flat_div w i k h).1, (flat_div w i k h).2, hv]
theorem rd_flat (f : Nat → Nat → Nat) (w n i k : Nat) (h : k < w) (hn : i * w + k < n) : rd (flat f w n) ((i * w + k : Nat) : Int) = ((f i k : Nat) : Int) := by
  unfold flat
  rw [rd_map_range _ _ _ hn, (flat_div w i k h).1, (flat_div w i k h).2]
theorem mul_small {i w : Nat} (hi : i ≤ 41) (hw : w ≤ 41) : i * w ≤ 1681 := by
  have := Nat.mul_le_mul hi hw
  omega
/-- An index of the flat table, as Go reckons it. -/
theorem flat_idx {i w k : Nat} (hi : i ≤ 41) (hw : w ≤ 41) (hk : k ≤ 41) : wrap64 (wrap64 ((i : Int) * (w : Int)) + (k : Int)) = ((i * w + k : Nat) : Int) := by
  have h := mul_small hi hw
  have e : (i : Int) * (w : Int) = ((i * w : Nat) : Int) := by simp
  rw [e, wrap_id (n := ((i * w : Nat) : Int)) (by omega) (by omega), wrap_id (by omega) (by omega)]
  omega
end Go.Proofs.Ytcgkmcnfhobkiaa.Ed
