/-
The cheapest alignment is one: symmetric, nothing for the same rows only, no dearer than the slips that were made, and no path is cheaper.
Conditions: none.
-/
import Derived.Test.YtcgkmcnfhobkiaaPFnAlignedx13
import Derived.Test.YtcgkmcnfhobkiaaEd
namespace Go.Proofs.Ytcgkmcnfhobkiaa.Pure
open Go.RowKit Go.Proofs.Ytcgkmcnfhobkiaa.PFnAligned Go.Proofs.YtcgkmcnfhobkiaaW.PrintWords Go.Proofs.YtcgkmcnfhobkiaaW.PrintLast Go.Proofs.YtcgkmcnfhobkiaaW.PrintMore Go.Proofs.Ytcgkmcnfhobkiaa.Base Go.Proofs.Ytcgkmcnfhobkiaa.Ed
set_option linter.unusedVariables false
set_option linter.unusedSimpArgs false

theorem l1In_eq (a b c : Int) : spec_l1In.f a b c = some (decide (b ≤ a ∧ a ≤ c)) := by
  unfold spec_l1In.f
  by_cases h1 : b ≤ a <;> by_cases h2 : a ≤ c <;> simp [h1, h2]
theorem InRange_eq (a b c : Int) : impl_InRange.f a b c = some (decide (b ≤ a ∧ a ≤ c)) := by
  unfold impl_InRange.f
  by_cases h1 : b ≤ a <;> by_cases h2 : a ≤ c <;> simp [h1, h2]

/-! ### more on distances -/
theorem unl_symm (a b : List Int) (i j : Nat) : unl b a j i = unl a b i j := by
  unfold unl
  by_cases h : a.getD i 0 = b.getD j 0
  · rw [if_pos h, if_pos h.symm]
  · rw [if_neg h, if_neg (fun e => h e.symm)]
theorem ed_symm (a b : List Int) : ∀ i j, ed b a j i = ed a b i j := by
  intro i
  induction i with
  | zero => intro j; rw [ed_zero, ed_left]
  | succ i ih =>
    intro j
    induction j with
    | zero => rw [ed_left, ed_zero]
    | succ j jh =>
      rw [ed_succ, ed_succ, ih, jh, ih, unl_symm]
      omega
theorem ed_up1 (a b : List Int) (i j : Nat) : ed a b (i + 1) j ≤ ed a b i j + 1 := by
  cases j with
  | zero => rw [ed_left, ed_left]; omega
  | succ j => rw [ed_succ]; omega
theorem ed_up2 (a b : List Int) (i j : Nat) : ed a b i (j + 1) ≤ ed a b i j + 1 := by
  cases i with
  | zero => rw [ed_zero, ed_zero]; omega
  | succ i => rw [ed_succ]; omega
theorem ed_up3 (a b : List Int) (i j : Nat) : ed a b (i + 1) (j + 1) ≤ ed a b i j + unl a b i j := by rw [ed_succ]; omega
theorem ed_same (a b : List Int) (i : Nat) (h : ∀ t, t < i → a.getD t 0 = b.getD t 0) : ed a b i i = 0 := by
  induction i with
  | zero => rw [ed_zero]
  | succ i ih =>
    have h1 := ih (fun t ht => h t (by omega))
    have h2 := ed_up3 a b i i
    have h3 : unl a b i i = 0 := by unfold unl; rw [if_pos (h i (by omega))]
    omega
theorem ed_zero_eq (a b : List Int) : ∀ i j, ed a b i j = 0 → i = j ∧ ∀ t, t < i → a.getD t 0 = b.getD t 0 := by
  intro i
  induction i with
  | zero => intro j h; rw [ed_zero] at h; exact ⟨by omega, fun t ht => by omega⟩
  | succ i ih =>
    intro j h
    cases j with
    | zero => rw [ed_left] at h; omega
    | succ j =>
      rw [ed_succ] at h
      have h1 : ed a b i j = 0 := by omega
      have h2 : unl a b i j = 0 := by omega
      obtain ⟨rfl, h3⟩ := ih j h1
      refine ⟨rfl, fun t ht => ?_⟩
      rcases Nat.lt_or_ge t i with h4 | h4
      · exact h3 t h4
      · obtain rfl : t = i := by omega
        unfold unl at h2
        split at h2
        · assumption
        · omega
theorem ed_zero_iff (a b : List Int) : ed a b a.length b.length = 0 ↔ a = b := by
  constructor
  · intro h
    obtain ⟨h1, h2⟩ := ed_zero_eq a b _ _ h
    refine List.ext_getElem h1 (fun t ha hb => ?_)
    have := h2 t ha
    simpa [List.getD, ha, hb] using this
  · rintro rfl
    exact ed_same a a _ (fun _ _ => rfl)
theorem ed_lc (a b : List Int) : ∀ i j, ed a b i j + 2 * lc a b i j ≤ i + j := by
  intro i
  induction i with
  | zero => intro j; rw [ed_zero, lc_zero]; omega
  | succ i ih =>
    intro j
    induction j with
    | zero => rw [ed_left, lc_left]; omega
    | succ j jh =>
      rw [lc_succ]
      have h1 := ih j
      have h2 := ih (j + 1)
      have u1 := ed_up1 a b i (j + 1)
      have u2 := ed_up2 a b (i + 1) j
      have u3 := ed_up3 a b i j
      by_cases e : a.getD i 0 = b.getD j 0
      · rw [if_pos e]
        have : unl a b i j = 0 := by unfold unl; rw [if_pos e]
        omega
      · rw [if_neg e]
        omega
/-! ### from the front -/
def sd : List Int → List Int → Nat
  | [], b => b.length
  | x :: a, [] => a.length + 1
  | x :: a, y :: b => min (min (sd a (y :: b) + 1) (sd (x :: a) b + 1)) (sd a b + if x = y then 0 else 1)
termination_by a b => a.length + b.length
theorem sd_nil (b : List Int) : sd [] b = b.length := by rw [sd]
theorem sd_left (a : List Int) : sd a [] = a.length := by cases a <;> rw [sd] <;> rfl
theorem sd_cons (x y : Int) (a b : List Int) : sd (x :: a) (y :: b) = min (min (sd a (y :: b) + 1) (sd (x :: a) b + 1)) (sd a b + if x = y then 0 else 1) := by rw [sd]
theorem sd_del (x : Int) (a b : List Int) : sd (x :: a) b ≤ sd a b + 1 := by
  cases b with
  | nil => rw [sd_left, sd_left, List.length_cons]; omega
  | cons y b => rw [sd_cons]; omega
theorem sd_ins (y : Int) (a b : List Int) : sd a (y :: b) ≤ sd a b + 1 := by
  cases a with
  | nil => rw [sd_nil, sd_nil, List.length_cons]; omega
  | cons x a => rw [sd_cons]; omega
theorem sd_sub (x y : Int) (a b : List Int) : sd (x :: a) (y :: b) ≤ sd a b + if x = y then 0 else 1 := by rw [sd_cons]; omega
theorem sd_app (p a b : List Int) : sd (p ++ a) (p ++ b) ≤ sd a b := by
  induction p with
  | nil => exact Nat.le_refl _
  | cons x p ih =>
    have := sd_sub x x (p ++ a) (p ++ b)
    rw [if_pos rfl] at this
    simp only [List.cons_append]
    omega
theorem ed_sd (a b : List Int) (n : Nat) : ∀ i j, i ≤ a.length → j ≤ b.length → (a.length - i) + (b.length - j) = n → ed a b a.length b.length ≤ ed a b i j + sd (a.drop i) (b.drop j) := by
  induction n using Nat.strongRecOn with
  | _ n ih =>
    intro i j hi hj h
    rcases Nat.lt_or_ge i a.length with hi' | hi'
    · rcases Nat.lt_or_ge j b.length with hj' | hj'
      · have h1 := ih _ (by omega) (i + 1) j (by omega) hj rfl
        have h2 := ih _ (by omega) i (j + 1) hi (by omega) rfl
        have h3 := ih _ (by omega) (i + 1) (j + 1) (by omega) (by omega) rfl
        have u1 := ed_up1 a b i j
        have u2 := ed_up2 a b i j
        have u3 := ed_up3 a b i j
        have e : unl a b i j = if a[i] = b[j] then 0 else 1 := by simp [unl, List.getD, hi', hj']
        rw [e] at u3
        rw [List.drop_eq_getElem_cons hj'] at h1
        rw [List.drop_eq_getElem_cons hi'] at h2
        rw [List.drop_eq_getElem_cons hi', List.drop_eq_getElem_cons hj', sd_cons]
        omega
      · obtain rfl : j = b.length := by omega
        have h1 := ih _ (by omega) (i + 1) b.length (by omega) hj rfl
        have u1 := ed_up1 a b i b.length
        rw [List.drop_length, sd_left, List.length_drop] at h1 ⊢
        omega
    · obtain rfl : i = a.length := by omega
      rcases Nat.lt_or_ge j b.length with hj' | hj'
      · have h2 := ih _ (by omega) a.length (j + 1) hi (by omega) rfl
        have u2 := ed_up2 a b a.length j
        rw [List.drop_length, sd_nil, List.length_drop] at h2 ⊢
        omega
      · obtain rfl : j = b.length := by omega
        omega
theorem ed_le_sd (a b : List Int) : ed a b a.length b.length ≤ sd a b := by
  have h := ed_sd a b _ 0 0 (Nat.zero_le _) (Nat.zero_le _) rfl
  rw [ed_zero] at h
  simpa using h

theorem fits_eq (a b : List Int) : spec_l16Fits.f a b = some (decide (a.length ≤ 40 ∧ b.length ≤ 40)) := by
  unfold spec_l16Fits.f
  by_cases h1 : (a.length : Int) ≤ 40
  · rw [if_pos h1]
    have : a.length ≤ 40 := by omega
    simp [this]
    omega
  · rw [if_neg h1]
    have : ¬ a.length ≤ 40 := by omega
    simp [this]
theorem specMin_eq (a b : Int) : spec_Min.f a b = some (min a b) := by
  unfold spec_Min.f
  split <;> (congr 1; omega)
theorem unlE_eq (a b : List Int) (i j : Nat) : impl_unlike.f (rd a (i : Int)) (rd b (j : Int)) = some ((unl a b i j : Nat) : Int) := by
  unfold impl_unlike.f unl
  rw [rd_nat, rd_nat]
  split <;> simp
/-- The flat table, up to row i's place k. -/
def tabE (a b : List Int) (n : Nat) : List Int := flat (ed a b) (b.length + 1) n
theorem specTab_l1 (a b : List Int) (ha : a.length ≤ 40) (hb : b.length ≤ 40) (i : Nat) (hi : i ≤ a.length) {r : List Int} (e : Ev (fun k => spec_l16Table.l0 k a b ((b.length + 1 : Nat) : Int) (tabE a b ((i + 1) * (b.length + 1))) ((i + 1 : Nat) : Int)) r) (d : Nat) : ∀ j, j + d = b.length + 1 →
    Ev (fun k => spec_l16Table.l1 k a b ((b.length + 1 : Nat) : Int) (tabE a b (i * (b.length + 1) + j)) (i : Int) (j : Int)) r := by
  induction d with
  | zero =>
    intro j hj
    refine ev_tail ?_
    simp only [spec_l16Table.l1]
    refine ev_neg (by omega) ?_
    rw [wrap_succ (by omega)]
    rw [show i * (b.length + 1) + j = (i + 1) * (b.length + 1) by rw [Nat.add_mul]; omega]
    exact e
  | succ d ih =>
    intro j hj
    have hm := mul_small (i := i) (w := b.length + 1) (by omega) (by omega)
    have e1 := ih (j + 1) (by omega)
    have hlen : (tabE a b (i * (b.length + 1) + j)).length = i * (b.length + 1) + j := flat_length _ _ _
    have wj : Aside0 (wrap64 ((j : Int) + 1) = ((j + 1 : Nat) : Int)) := ⟨wrap_succ (by omega)⟩
    have put : ∀ v : Int, v = ((ed a b i j : Nat) : Int) → tabE a b (i * (b.length + 1) + j) ++ [v] = tabE a b (i * (b.length + 1) + (j + 1)) := fun v hv => flat_snoc (ed a b) (b.length + 1) i j (by omega) v hv
    refine ev_tail ?_
    simp only [spec_l16Table.l1, hlen, wj.out]
    refine ev_pos (by omega) ?_
    by_cases hi0 : i = 0
    · subst hi0
      refine ev_pos (by omega) (ev_pos (by omega) ?_)
      rw [put _ (by rw [ed_zero])]
      exact e1
    · refine ev_neg (by omega) ?_
      by_cases hj0 : j = 0
      · subst hj0
        refine ev_pos (by omega) (ev_pos (by omega) ?_)
        rw [put _ (by rw [ed_left])]
        exact e1
      · refine ev_neg (by omega) ?_
        obtain ⟨i', rfl⟩ : ∃ m, i = m + 1 := ⟨i - 1, by omega⟩
        obtain ⟨j', rfl⟩ : ∃ m, j = m + 1 := ⟨j - 1, by omega⟩
        have hmi : (i' + 1) * (b.length + 1) = i' * (b.length + 1) + (b.length + 1) := by rw [Nat.add_mul]; omega
        have wi : Aside0 (wrap64 (((i' + 1 : Nat) : Int) - 1) = (i' : Int)) := ⟨by rw [wrap_pred (by omega) (by omega)]; omega⟩
        have wj1 : Aside0 (wrap64 (((j' + 1 : Nat) : Int) - 1) = (j' : Int)) := ⟨by rw [wrap_pred (by omega) (by omega)]; omega⟩
        have x1 := Aside0.mk (flat_idx (i := i') (w := b.length + 1) (k := j' + 1) (by omega) (by omega) (by omega))
        have x2 := Aside0.mk (flat_idx (i := i' + 1) (w := b.length + 1) (k := j' + 1) (by omega) (by omega) (by omega))
        have x3 : Aside0 (wrap64 (((i' * (b.length + 1) + (j' + 1) : Nat) : Int) - 1) = ((i' * (b.length + 1) + j' : Nat) : Int)) := ⟨by rw [wrap_pred (by omega) (by omega)]; omega⟩
        have x4 : Aside0 (wrap64 ((((i' + 1) * (b.length + 1) + (j' + 1) : Nat) : Int) - 1) = (((i' + 1) * (b.length + 1) + j' : Nat) : Int)) := ⟨by rw [wrap_pred (by omega) (by omega)]; omega⟩
        have r1 : Aside0 (rd (tabE a b ((i' + 1) * (b.length + 1) + (j' + 1))) ((i' * (b.length + 1) + (j' + 1) : Nat) : Int) = ((ed a b i' (j' + 1) : Nat) : Int)) := ⟨rd_flat _ _ _ _ _ (by omega) (by omega)⟩
        have r2 : Aside0 (rd (tabE a b ((i' + 1) * (b.length + 1) + (j' + 1))) (((i' + 1) * (b.length + 1) + j' : Nat) : Int) = ((ed a b (i' + 1) j' : Nat) : Int)) := ⟨rd_flat _ _ _ _ _ (by omega) (by omega)⟩
        have r3 : Aside0 (rd (tabE a b ((i' + 1) * (b.length + 1) + (j' + 1))) ((i' * (b.length + 1) + j' : Nat) : Int) = ((ed a b i' j' : Nat) : Int)) := ⟨rd_flat _ _ _ _ _ (by omega) (by omega)⟩
        have b1 := ed_le a b i' (j' + 1)
        have b2 := ed_le a b (i' + 1) j'
        have b3 := ed_le a b i' j'
        simp only [wi.out, wj1.out, x1.out, x2.out, x3.out, x4.out, r1.out, r2.out, r3.out, specMin_eq, Option.bind_some]
        refine ev_pos (by omega) (ev_pos (by omega) (ev_pos (by omega) (ev_pos (by omega) (ev_pos (by omega) (ev_pos (by omega) (ev_pos (by omega) (ev_pos (by omega) (ev_pos (by omega) (ev_pos (by omega) ?_)))))))))
        simp only [rd_nat]
        by_cases heq : a.getD i' 0 = b.getD j' 0
        · refine ev_pos heq (ev_pos (by omega) ?_)
          rw [put _ (by rw [ed_succ, wrap_id (by omega) (by omega)]; unfold unl; rw [if_pos heq]; omega)]
          exact e1
        · refine ev_neg heq (ev_pos (by omega) ?_)
          rw [put _ (by rw [ed_succ, wrap_id (by omega) (by omega), wrap_id (by omega) (by omega)]; unfold unl; rw [if_neg heq]; omega)]
          exact e1
theorem specTab_l0 (a b : List Int) (ha : a.length ≤ 40) (hb : b.length ≤ 40) (d : Nat) : ∀ i, i + d = a.length + 1 →
    Ev (fun k => spec_l16Table.l0 k a b ((b.length + 1 : Nat) : Int) (tabE a b (i * (b.length + 1))) (i : Int)) (tabE a b ((a.length + 1) * (b.length + 1))) := by
  induction d with
  | zero =>
    intro i hi
    obtain rfl : i = a.length + 1 := by omega
    refine ev_tail ?_
    simp only [spec_l16Table.l0]
    exact ev_neg (by omega) (Ev.now _)
  | succ d ih =>
    intro i hi
    refine ev_tail ?_
    simp only [spec_l16Table.l0]
    refine ev_pos (by omega) ?_
    exact specTab_l1 a b ha hb i (by omega) (ih (i + 1) (by omega)) (b.length + 1) 0 (by omega)
theorem specTable_ev (a b : List Int) (ha : a.length ≤ 40) (hb : b.length ≤ 40) : Ev (fun k => spec_l16Table.f k a b) (tabE a b ((a.length + 1) * (b.length + 1))) := by
  simp only [spec_l16Table.f]
  rw [wrap_succ (by omega)]
  have := specTab_l0 a b ha hb (a.length + 1) 0 (by omega)
  simpa [tabE, flat] using this
def alignM (a b : List Int) : Int := if a.length ≤ 40 ∧ b.length ≤ 40 then ((ed a b a.length b.length : Nat) : Int) else -1
/-- A row of the costs; the table. -/
def rowE (a b : List Int) (i n : Nat) : List Int := (List.range n).map fun j => ((ed a b i j : Nat) : Int)
def rowsE (a b : List Int) (n : Nat) : List (List Int) := (List.range n).map fun i => rowE a b i (b.length + 1)
theorem rowsE_length (a b : List Int) (n : Nat) : (rowsE a b n).length = n := by simp [rowsE]
theorem rowE_length (a b : List Int) (i n : Nat) : (rowE a b i n).length = n := by simp [rowE]
theorem rowsE_at (a b : List Int) (n i : Nat) (h : i < n) : rd_L2 (rowsE a b n) (i : Int) = rowE a b i (b.length + 1) := by
  simp [rd_L2, rowsE, List.getD, h]
theorem implCosts_l1 (a b : List Int) (ha : a.length ≤ 40) (hb : b.length ≤ 40) (i : Nat) (hi : i ≤ a.length) {r : List (List Int)} (e : Ev (fun k => impl_costs.l0 k a b (rowsE a b (i + 1)) ((a.length + 1 : Nat) : Int) ((i + 1 : Nat) : Int)) r) (d : Nat) : ∀ j, j + d = b.length + 1 →
    Ev (fun k => impl_costs.l1 k a b (rowsE a b i) (i : Int) (rowE a b i j ++ List.replicate d 0) ((a.length + 1 : Nat) : Int) (i : Int) ((b.length + 1 : Nat) : Int) (j : Int)) r := by
  induction d with
  | zero =>
    intro j hj
    refine ev_tail ?_
    simp only [impl_costs.l1]
    refine ev_neg (by omega) (ev_pos (by rw [rowsE_length]; omega) ?_)
    rw [wrap_succ (by omega)]
    have : rowsE a b i ++ [rowE a b i j ++ List.replicate 0 0] = rowsE a b (i + 1) := by
      obtain rfl : j = b.length + 1 := by omega
      simp [rowsE, List.range_succ]
    rw [this]
    exact e
  | succ d ih =>
    intro j hj
    have e1 := ih (j + 1) (by omega)
    have wj : Aside0 (wrap64 ((j : Int) + 1) = ((j + 1 : Nat) : Int)) := ⟨wrap_succ (by omega)⟩
    have hlen : (rowE a b i j ++ List.replicate (d + 1) (0 : Int)).length = b.length + 1 := by simp [rowE]; omega
    have put : ∀ v : Int, v = ((ed a b i j : Nat) : Int) → (rowE a b i j ++ List.replicate (d + 1) 0).set ((j : Nat) : Int).toNat v = rowE a b i (j + 1) ++ List.replicate d 0 := fun v hv => row_set (fun j => ((ed a b i j : Nat) : Int)) j d v hv
    refine ev_tail ?_
    simp only [impl_costs.l1, hlen, wj.out]
    refine ev_pos (by omega) ?_
    by_cases hi0 : i = 0
    · subst hi0
      refine ev_pos (by omega) (ev_pos (by omega) (ev_pos (by omega) ?_))
      rw [put _ (by rw [ed_zero])]
      exact e1
    · refine ev_neg (by omega) ?_
      by_cases hj0 : j = 0
      · subst hj0
        refine ev_pos (by omega) (ev_pos (by omega) (ev_pos (by omega) ?_))
        rw [put _ (by rw [ed_left])]
        exact e1
      · refine ev_neg (by omega) ?_
        obtain ⟨i', rfl⟩ : ∃ m, i = m + 1 := ⟨i - 1, by omega⟩
        obtain ⟨j', rfl⟩ : ∃ m, j = m + 1 := ⟨j - 1, by omega⟩
        have wi : Aside0 (wrap64 (((i' + 1 : Nat) : Int) - 1) = (i' : Int)) := ⟨by rw [wrap_pred (by omega) (by omega)]; omega⟩
        have wj1 : Aside0 (wrap64 (((j' + 1 : Nat) : Int) - 1) = (j' : Int)) := ⟨by rw [wrap_pred (by omega) (by omega)]; omega⟩
        have hrow : Aside0 (rd_L2 (rowsE a b (i' + 1)) (i' : Int) = rowE a b i' (b.length + 1)) := ⟨rowsE_at a b (i' + 1) i' (by omega)⟩
        have r1 : Aside0 (rd (rowE a b i' (b.length + 1)) ((j' + 1 : Nat) : Int) = ((ed a b i' (j' + 1) : Nat) : Int)) := ⟨rd_map_range (fun j => ((ed a b i' j : Nat) : Int)) _ _ (by omega)⟩
        have r2 : Aside0 (rd (rowE a b (i' + 1) (j' + 1) ++ List.replicate (d + 1) 0) (j' : Int) = ((ed a b (i' + 1) j' : Nat) : Int)) := ⟨rd_row (fun j => ((ed a b (i' + 1) j : Nat) : Int)) _ _ _ (by omega)⟩
        have r3 : Aside0 (rd (rowE a b i' (b.length + 1)) (j' : Int) = ((ed a b i' j' : Nat) : Int)) := ⟨rd_map_range (fun j => ((ed a b i' j : Nat) : Int)) _ _ (by omega)⟩
        have b1 := ed_le a b i' (j' + 1)
        have b2 := ed_le a b (i' + 1) j'
        have b3 := ed_le a b i' j'
        have b4 := unl_le a b i' j'
        simp only [wi.out, wj1.out, hrow.out, r1.out, r2.out, r3.out, unlE_eq, Option.bind_some, rowE_length, rowsE_length]
        refine ev_pos (by omega) (ev_pos (by omega) (ev_pos (by omega) (ev_pos (by omega) (ev_pos (by omega) (ev_pos (by omega) (ev_pos (by omega) (ev_pos (by omega) (ev_pos (by omega) (ev_pos (by omega) ?_)))))))))
        rw [put _ (by rw [ed_succ, mn_eq, mn_eq, wrap_id (by omega) (by omega), wrap_id (by omega) (by omega), wrap_id (by omega) (by omega)]; omega)]
        exact e1
theorem implCosts_l0 (a b : List Int) (ha : a.length ≤ 40) (hb : b.length ≤ 40) (d : Nat) : ∀ i, i + d = a.length + 1 →
    Ev (fun k => impl_costs.l0 k a b (rowsE a b i) ((a.length + 1 : Nat) : Int) (i : Int)) (rowsE a b (a.length + 1)) := by
  induction d with
  | zero =>
    intro i hi
    obtain rfl : i = a.length + 1 := by omega
    refine ev_tail ?_
    simp only [impl_costs.l0]
    exact ev_neg (by omega) (Ev.now _)
  | succ d ih =>
    intro i hi
    refine ev_tail ?_
    have wb : Aside0 (wrap64 ((b.length : Int) + 1) = ((b.length + 1 : Nat) : Int)) := ⟨wrap_succ (by omega)⟩
    simp only [impl_costs.l0, wb.out, Option.bind_some, Int.toNat_natCast, List.length_replicate]
    refine ev_pos (by omega) (ev_pos (by omega) (ev_pos (by omega) ?_))
    exact implCosts_l1 a b ha hb i (by omega) (ih (i + 1) (by omega)) (b.length + 1) 0 (by omega)
theorem implCosts_ev (a b : List Int) (ha : a.length ≤ 40) (hb : b.length ≤ 40) : Ev (fun k => impl_costs.f k a b) (rowsE a b (a.length + 1)) := by
  simp only [impl_costs.f]
  rw [wrap_succ (by omega)]
  exact implCosts_l0 a b ha hb (a.length + 1) 0 (by omega)

theorem implAlignCost_ev (a b : List Int) : Ev (fun k => impl_AlignCost.f k a b) (alignM a b) := by
  simp only [impl_AlignCost.f, alignM]
  by_cases ha : a.length ≤ 40
  · refine ev_neg (by omega) ?_
    by_cases hb : b.length ≤ 40
    · rw [if_pos ⟨ha, hb⟩]
      refine ev_neg (by omega) (Ev.bind (implCosts_ev a b ha hb) ?_)
      have hrow : Aside0 (rd_L2 (rowsE a b (a.length + 1)) (a.length : Int) = rowE a b a.length (b.length + 1)) := ⟨rowsE_at a b (a.length + 1) a.length (by omega)⟩
      have r1 : Aside0 (rd (rowE a b a.length (b.length + 1)) ((b.length : Nat) : Int) = ((ed a b a.length b.length : Nat) : Int)) := ⟨rd_map_range (fun j => ((ed a b a.length j : Nat) : Int)) _ _ (by omega)⟩
      simp only [hrow.out, r1.out, rowsE_length, rowE_length]
      exact ev_pos (by omega) (ev_pos (by omega) (ev_pos (by omega) (ev_pos (by omega) (Ev.now _))))
    · rw [if_neg (by omega)]
      exact ev_pos (by omega) (Ev.now _)
  · rw [if_neg (by omega)]
    exact ev_pos (by omega) (Ev.now _)

/-- The way back through the distances, from the places i and j on. -/
def back (a b : List Int) : Nat → Nat → Nat → List S99 → List S99
  | 0, _, _, acc => acc
  | n + 1, i, j, acc =>
    if i = 0 ∧ j = 0 then acc
    else if 0 < i ∧ 0 < j ∧ ed a b i j = ed a b (i - 1) (j - 1) + unl a b (i - 1) (j - 1) then back a b n (i - 1) (j - 1) (⟨((i - 1 : Nat) : Int), ((j - 1 : Nat) : Int)⟩ :: acc)
    else if 0 < i ∧ ed a b i j = ed a b (i - 1) j + 1 then back a b n (i - 1) j (⟨((i - 1 : Nat) : Int), -1⟩ :: acc)
    else back a b n i (j - 1) (⟨-1, ((j - 1 : Nat) : Int)⟩ :: acc)
theorem back_zero (a b : List Int) (n : Nat) (acc : List S99) : back a b n 0 0 acc = acc := by
  cases n <;> simp [back]
theorem back_length (a b : List Int) (n : Nat) : ∀ (i j : Nat) (acc : List S99), (back a b n i j acc).length ≤ acc.length + n := by
  induction n with
  | zero => intro i j acc; simp [back]
  | succ n ih =>
    intro i j acc
    simp only [back]
    split
    · omega
    · split
      · have := ih (i - 1) (j - 1) (⟨((i - 1 : Nat) : Int), ((j - 1 : Nat) : Int)⟩ :: acc)
        simp only [List.length_cons] at this
        omega
      · split
        · have := ih (i - 1) j (⟨((i - 1 : Nat) : Int), -1⟩ :: acc)
          simp only [List.length_cons] at this
          omega
        · have := ih i (j - 1) (⟨-1, ((j - 1 : Nat) : Int)⟩ :: acc)
          simp only [List.length_cons] at this
          omega
theorem mul_lt_flat {i j n w : Nat} (hi : i < n) (hj : j < w) : i * w + j < n * w := by
  have := Nat.mul_le_mul_right w (show i + 1 ≤ n by omega)
  rw [Nat.add_mul] at this
  omega
theorem specBack_l0 (a b : List Int) (ha : a.length ≤ 40) (hb : b.length ≤ 40) (n : Nat) : ∀ (i j : Nat) (acc : List S99), i ≤ a.length → j ≤ b.length → i + j ≤ n → acc.length + n ≤ 1000 →
    Ev (fun k => spec_AlignPath.l0 k a b acc (tabE a b ((a.length + 1) * (b.length + 1))) ((b.length + 1 : Nat) : Int) (i : Int) (j : Int)) (back a b n i j acc) := by
  induction n with
  | zero =>
    intro i j acc hi hj hn hac
    obtain rfl : i = 0 := by omega
    obtain rfl : j = 0 := by omega
    refine ev_tail ?_
    simp only [spec_AlignPath.l0]
    refine ev_neg (by omega) (ev_tail ?_)
    simp only [spec_AlignPath.j1]
    exact ev_neg (by simp) (Ev.now _)
  | succ n ih =>
    intro i j acc hi hj hn hac
    by_cases h0 : i = 0 ∧ j = 0
    · obtain ⟨rfl, rfl⟩ := h0
      rw [back_zero]
      refine ev_tail ?_
      simp only [spec_AlignPath.l0]
      refine ev_neg (by omega) (ev_tail ?_)
      simp only [spec_AlignPath.j1]
      exact ev_neg (by simp) (Ev.now _)
    · have start : ∀ r, Ev (fun k => spec_AlignPath.j1 k a b acc (tabE a b ((a.length + 1) * (b.length + 1))) ((b.length + 1 : Nat) : Int) (i : Int) (j : Int) true) r → Ev (fun k => spec_AlignPath.l0 k a b acc (tabE a b ((a.length + 1) * (b.length + 1))) ((b.length + 1 : Nat) : Int) (i : Int) (j : Int)) r := by
        intro r e
        refine ev_tail ?_
        simp only [spec_AlignPath.l0]
        by_cases h1 : 0 < i
        · exact ev_pos (by omega) e
        · refine ev_neg (by omega) ?_
          rw [show decide ((j : Int) > 0) = true by simp; omega]
          exact e
      have hm := mul_small (i := a.length + 1) (w := b.length + 1) (by omega) (by omega)
      have hlen : (tabE a b ((a.length + 1) * (b.length + 1))).length = (a.length + 1) * (b.length + 1) := flat_length _ _ _
      have f1 : i * (b.length + 1) + j < (a.length + 1) * (b.length + 1) := mul_lt_flat (by omega) (by omega)
      have x1 := Aside0.mk (flat_idx (i := i) (w := b.length + 1) (k := j) (by omega) (by omega) (by omega))
      have r1 : Aside0 (rd (tabE a b ((a.length + 1) * (b.length + 1))) ((i * (b.length + 1) + j : Nat) : Int) = ((ed a b i j : Nat) : Int)) := ⟨rd_flat _ _ _ _ _ (by omega) f1⟩
      have b0 := ed_le a b i j
      refine start _ (ev_tail ?_)
      simp only [spec_AlignPath.j1, x1.out, r1.out, hlen]
      refine ev_pos (by trivial) (ev_pos (by omega) (ev_pos (by omega) ?_))
      -- the answers of the later steps
      have p4 : ∀ (p q : Int) (i' j' : Nat), i' ≤ a.length → j' ≤ b.length → i' + j' ≤ n → (p ≥ 0 → wrap64 ((i : Int) - 1) = (i' : Int)) → (¬ p ≥ 0 → i' = i) → (q ≥ 0 → wrap64 ((j : Int) - 1) = (j' : Int)) → (¬ q ≥ 0 → j' = j) →
          Ev (fun k => spec_AlignPath.j4 k a b acc (tabE a b ((a.length + 1) * (b.length + 1))) ((b.length + 1 : Nat) : Int) (i : Int) (j : Int) p q) (back a b n i' j' (⟨p, q⟩ :: acc)) := by
        intro p q i' j' hi' hj' hn' k1 k2 k3 k4
        have e := ih i' j' (⟨p, q⟩ :: acc) hi' hj' hn' (by rw [List.length_cons]; omega)
        refine ev_tail ?_
        simp only [spec_AlignPath.j4, Option.bind_some, List.singleton_append, List.length_cons, List.length_nil]
        refine ev_ite (fun c1 => ev_ite (fun c2 => ev_pos (by omega) ?_) (fun c2 => ev_pos (by omega) ?_)) (fun c1 => ev_ite (fun c2 => ev_pos (by omega) ?_) (fun c2 => ev_pos (by omega) ?_))
        · rw [k1 c1, k3 c2]; exact e
        · rw [k1 c1, ← k4 c2]; exact e
        · rw [← k2 c1, k3 c2]; exact e
        · rw [← k2 c1, ← k4 c2]; exact e
      have p3 : ∀ (v : Int) (hv : v = ((ed a b i j : Nat) : Int) ↔ (0 < i ∧ 0 < j ∧ ed a b i j = ed a b (i - 1) (j - 1) + unl a b (i - 1) (j - 1))),
          Ev (fun k => spec_AlignPath.j3 k a b acc (tabE a b ((a.length + 1) * (b.length + 1))) ((b.length + 1 : Nat) : Int) (i : Int) (j : Int) ((ed a b i j : Nat) : Int) v (-1) (wrap64 ((j : Int) - 1))) (back a b (n + 1) i j acc) := by
        intro v hv
        refine ev_tail ?_
        simp only [spec_AlignPath.j3, back, if_neg h0]
        by_cases hA : 0 < i ∧ 0 < j ∧ ed a b i j = ed a b (i - 1) (j - 1) + unl a b (i - 1) (j - 1)
        · rw [if_pos hA]
          refine ev_pos (hv.2 hA) ?_
          have wi : Aside0 (wrap64 ((i : Int) - 1) = ((i - 1 : Nat) : Int)) := ⟨wrap_pred (by omega) (by omega)⟩
          have wj : Aside0 (wrap64 ((j : Int) - 1) = ((j - 1 : Nat) : Int)) := ⟨wrap_pred (by omega) (by omega)⟩
          rw [wi.out, wj.out]
          exact p4 _ _ _ _ (by omega) (by omega) (by omega) (fun _ => wi.out) (fun h => absurd (by omega) h) (fun _ => wj.out) (fun h => absurd (by omega) h)
        · rw [if_neg hA]
          refine ev_neg (fun h => hA (hv.1 h)) ?_
          have third : ¬ (0 < i ∧ ed a b i j = ed a b (i - 1) j + 1) → 0 < j := by
            intro h
            rcases Nat.eq_zero_or_pos j with hj0 | hj0
            · subst hj0
              refine absurd ⟨by omega, ?_⟩ h
              rw [ed_left, ed_left]
              omega
            · exact hj0
          by_cases hi0 : 0 < i
          · refine ev_pos (by omega) ?_
            have wi : Aside0 (wrap64 ((i : Int) - 1) = ((i - 1 : Nat) : Int)) := ⟨wrap_pred (by omega) (by omega)⟩
            have x2 := Aside0.mk (flat_idx (i := i - 1) (w := b.length + 1) (k := j) (by omega) (by omega) (by omega))
            have f2 : (i - 1) * (b.length + 1) + j < (a.length + 1) * (b.length + 1) := mul_lt_flat (by omega) (by omega)
            have r2 : Aside0 (rd (tabE a b ((a.length + 1) * (b.length + 1))) (((i - 1) * (b.length + 1) + j : Nat) : Int) = ((ed a b (i - 1) j : Nat) : Int)) := ⟨rd_flat _ _ _ _ _ (by omega) f2⟩
            have b2 := ed_le a b (i - 1) j
            have w2 : Aside0 (wrap64 (((ed a b (i - 1) j : Nat) : Int) + 1) = ((ed a b (i - 1) j + 1 : Nat) : Int)) := ⟨wrap_succ (by omega)⟩
            simp only [wi.out, x2.out, r2.out, w2.out]
            refine ev_pos (by omega) (ev_pos (by omega) ?_)
            by_cases hB : ed a b i j = ed a b (i - 1) j + 1
            · rw [if_pos ⟨hi0, hB⟩]
              refine ev_pos (by omega) ?_
              exact p4 _ _ _ _ (by omega) (by omega) (by omega) (fun _ => wi.out) (fun h => absurd (by omega) h) (fun h => absurd h (by omega)) (fun _ => rfl)
            · rw [if_neg (by omega)]
              have hj0 := third (by omega)
              have wj : Aside0 (wrap64 ((j : Int) - 1) = ((j - 1 : Nat) : Int)) := ⟨wrap_pred (by omega) (by omega)⟩
              refine ev_neg (by omega) ?_
              rw [wj.out]
              exact p4 _ _ _ _ (by omega) (by omega) (by omega) (fun h => absurd h (by omega)) (fun _ => rfl) (fun _ => wj.out) (fun h => absurd (by omega) h)
          · rw [if_neg (by omega)]
            have hj0 := third (by omega)
            have wj : Aside0 (wrap64 ((j : Int) - 1) = ((j - 1 : Nat) : Int)) := ⟨wrap_pred (by omega) (by omega)⟩
            refine ev_neg (by omega) ?_
            rw [wj.out]
            exact p4 _ _ _ _ (by omega) (by omega) (by omega) (fun h => absurd h (by omega)) (fun _ => rfl) (fun _ => wj.out) (fun h => absurd (by omega) h)
      have no : ∀ r, Ev (fun k => spec_AlignPath.j3 k a b acc (tabE a b ((a.length + 1) * (b.length + 1))) ((b.length + 1 : Nat) : Int) (i : Int) (j : Int) ((ed a b i j : Nat) : Int) (-1) (-1) (wrap64 ((j : Int) - 1))) r → Ev (fun k => spec_AlignPath.j2 k a b acc (tabE a b ((a.length + 1) * (b.length + 1))) ((b.length + 1 : Nat) : Int) (i : Int) (j : Int) ((ed a b i j : Nat) : Int) (-1) false (-1) (wrap64 ((j : Int) - 1))) r := by
        intro r e
        refine ev_tail ?_
        simp only [spec_AlignPath.j2]
        exact ev_neg (by simp) e
      by_cases hi0 : 0 < i
      · refine ev_pos (by omega) ?_
        by_cases hj0 : 0 < j
        · rw [show decide ((j : Int) > 0) = true by simp; omega]
          have wi : Aside0 (wrap64 ((i : Int) - 1) = ((i - 1 : Nat) : Int)) := ⟨wrap_pred (by omega) (by omega)⟩
          have wj : Aside0 (wrap64 ((j : Int) - 1) = ((j - 1 : Nat) : Int)) := ⟨wrap_pred (by omega) (by omega)⟩
          have x2 := Aside0.mk (flat_idx (i := i - 1) (w := b.length + 1) (k := j) (by omega) (by omega) (by omega))
          have f2 : (i - 1) * (b.length + 1) + j < (a.length + 1) * (b.length + 1) := mul_lt_flat (by omega) (by omega)
          have x3 : Aside0 (wrap64 ((((i - 1) * (b.length + 1) + j : Nat) : Int) - 1) = (((i - 1) * (b.length + 1) + (j - 1) : Nat) : Int)) := ⟨by rw [wrap_pred (by omega) (by omega)]; omega⟩
          have r3 : Aside0 (rd (tabE a b ((a.length + 1) * (b.length + 1))) (((i - 1) * (b.length + 1) + (j - 1) : Nat) : Int) = ((ed a b (i - 1) (j - 1) : Nat) : Int)) := ⟨rd_flat _ _ _ _ _ (by omega) (by omega)⟩
          have b3 := ed_le a b (i - 1) (j - 1)
          have w3 : Aside0 (wrap64 (((ed a b (i - 1) (j - 1) : Nat) : Int) + 1) = ((ed a b (i - 1) (j - 1) + 1 : Nat) : Int)) := ⟨wrap_succ (by omega)⟩
          have p3' := fun v hv => p3 v hv
          rw [wj.out] at p3' ⊢
          refine ev_tail ?_
          simp only [spec_AlignPath.j2, wi.out, wj.out, x2.out, x3.out, r3.out, w3.out, hlen, rd_nat]
          refine ev_pos (by trivial) (ev_pos (by omega) (ev_pos (by omega) (ev_pos (by omega) (ev_pos (by omega) (ev_pos (by omega) (ev_pos (by omega) ?_))))))
          by_cases heq : a.getD (i - 1) 0 = b.getD (j - 1) 0
          · refine ev_pos heq (p3' _ ?_)
            have : unl a b (i - 1) (j - 1) = 0 := by unfold unl; rw [if_pos heq]
            omega
          · refine ev_neg heq (p3' _ ?_)
            have : unl a b (i - 1) (j - 1) = 1 := by unfold unl; rw [if_neg heq]
            omega
        · rw [show decide ((j : Int) > 0) = false by simp; omega]
          exact no _ (p3 _ (by omega))
      · refine ev_neg (by omega) ?_
        exact no _ (p3 _ (by omega))
def pathOf (a b : List Int) : List S99 := if a.length ≤ 40 ∧ b.length ≤ 40 then back a b (a.length + b.length) a.length b.length [] else []
theorem pathOf_length (a b : List Int) : (pathOf a b).length ≤ 80 := by
  unfold pathOf
  split
  · have := back_length a b (a.length + b.length) a.length b.length []
    simp only [List.length_nil] at this
    omega
  · simp
theorem specAlignPath_ev (a b : List Int) : Ev (fun k => spec_AlignPath.f k a b) (pathOf a b) := by
  simp only [spec_AlignPath.f, fits_eq, Option.bind_some, pathOf]
  by_cases h : a.length ≤ 40 ∧ b.length ≤ 40
  · rw [if_pos h]
    obtain ⟨ha, hb⟩ := h
    refine ev_pos (by simp [ha, hb]) (Ev.bind (specTable_ev a b ha hb) ?_)
    rw [wrap_succ (by omega)]
    exact specBack_l0 a b ha hb _ _ _ [] (by omega) (by omega) (by omega) (by simp; omega)
  · rw [if_neg h]
    exact ev_neg (by simpa using h) (Ev.now _)
theorem revPair_l0 (n : Nat) : ∀ (A m B : List S99), m.length ≤ n → A.length = B.length → (A ++ m ++ B).length ≤ 1000000 → Ev (fun k => impl_Pair.l0 k (A ++ m ++ B) (A.length : Int) ((A.length : Int) + (m.length : Int) - 1)) (A ++ m.reverse ++ B) := by
  induction n using Nat.strongRecOn with
  | _ n ih =>
    intro A m B hm hAB hl
    simp only [List.length_append] at hl
    by_cases h1 : m.length ≤ 1
    · refine ev_tail ?_
      simp only [impl_Pair.l0]
      refine ev_neg (by omega) (ev_eq (Ev.now _) ?_)
      match m, h1 with
      | [], _ => rfl
      | [x], _ => rfl
    · obtain ⟨x, m1, rfl⟩ : ∃ x t, m = x :: t := by
        cases m with
        | nil => simp at h1
        | cons x t => exact ⟨x, t, rfl⟩
      obtain ⟨m2, y, rfl⟩ : ∃ t y, m1 = t ++ [y] := by
        rcases List.eq_nil_or_concat m1 with h | ⟨t, y, h⟩
        · subst h; simp at h1
        · exact ⟨t, y, by simpa using h⟩
      simp only [List.length_cons, List.length_append, List.length_nil] at hm hl h1
      have e := ih m2.length (by omega) (A ++ [y]) m2 (x :: B) (Nat.le_refl _) (by simp; omega) (by simp; omega)
      have l1 : A ++ (x :: (m2 ++ [y])) ++ B = A ++ x :: (m2 ++ y :: B) := by simp
      have ix : ((A.length : Int) + (((x :: (m2 ++ [y])).length : Nat) : Int) - 1) = ((((A ++ [y]) ++ m2).length : Nat) : Int) := by simp; omega
      have hx : ∀ z, rd_T99 (A ++ z :: (m2 ++ y :: B)) ((((A ++ [y]) ++ m2).length : Nat) : Int) = y := by
        intro z
        have := getD_mid (A ++ [z] ++ m2) y B z99
        rw [show (A ++ [z] ++ m2) ++ y :: B = A ++ z :: (m2 ++ y :: B) by simp, show (A ++ [z] ++ m2).length = ((A ++ [y]) ++ m2).length by simp] at this
        exact this
      have hy : rd_T99 (A ++ x :: (m2 ++ y :: B)) ((A.length : Nat) : Int) = x := getD_mid A x _ _
      have s1 : (A ++ x :: (m2 ++ y :: B)).set ((A.length : Nat) : Int).toNat y = (A ++ [y] ++ m2) ++ y :: B := by rw [set_mid]; simp
      have s2 : ((A ++ [y] ++ m2) ++ y :: B).set ((((A ++ [y]) ++ m2).length : Nat) : Int).toNat x = (A ++ [y]) ++ m2 ++ (x :: B) := by rw [set_mid]
      have L : (A ++ x :: (m2 ++ y :: B)).length = A.length + m2.length + B.length + 2 := by simp; omega
      have L2 : ((A ++ [y]) ++ m2).length = A.length + m2.length + 1 := by simp; omega
      have w1 : Aside0 (wrap64 ((A.length : Int) + 1) = (((A ++ [y]).length : Nat) : Int)) := ⟨by rw [wrap_succ (by omega)]; simp⟩
      have w2 : Aside0 (wrap64 (((((A ++ [y]) ++ m2).length : Nat) : Int) - 1) = (((A ++ [y]).length : Nat) : Int) + (m2.length : Int) - 1) := ⟨by rw [wrap_id (by omega) (by omega)]; simp; omega⟩
      rw [l1, ix]
      refine ev_tail ?_
      simp only [impl_Pair.l0, hx x, hy, s1, s2, w1.out, w2.out, L]
      refine ev_pos (by omega) (ev_pos (by omega) (ev_pos (by omega) (ev_pos (by omega) (ev_pos (by omega) ?_))))
      refine ev_eq e ?_
      simp
theorem revPair_ev (m : List S99) (h : m.length ≤ 1000000) : Ev (fun k => impl_Pair.f k m) m.reverse := by
  simp only [impl_Pair.f]
  have e := revPair_l0 m.length [] m [] (Nat.le_refl _) rfl (by simpa using h)
  rw [wrap_id (by omega) (by omega)]
  simpa using e
theorem rowsE_at' (a b : List Int) (n i j : Nat) (h : i < n) (hj : j < b.length + 1) : rd (rd_L2 (rowsE a b n) (i : Int)) (j : Int) = ((ed a b i j : Nat) : Int) := by
  rw [rowsE_at a b n i h]
  exact rd_map_range (fun j => ((ed a b i j : Nat) : Int)) _ _ hj
theorem implBack_l0 (a b : List Int) (ha : a.length ≤ 40) (hb : b.length ≤ 40) (n : Nat) : ∀ (i j : Nat) (out : List S99), i ≤ a.length → j ≤ b.length → i + j ≤ n → out.length + n ≤ 1000 →
    Ev (fun k => impl_AlignPath.l0 k a b out (rowsE a b (a.length + 1)) (i : Int) (j : Int)) (back a b n i j out.reverse) := by
  have fin : ∀ out : List S99, out.length ≤ 1000 → Ev (fun k => impl_AlignPath.l0 k a b out (rowsE a b (a.length + 1)) ((0 : Nat) : Int) ((0 : Nat) : Int)) out.reverse := by
    intro out ho
    refine ev_tail ?_
    simp only [impl_AlignPath.l0]
    refine ev_neg (by omega) (ev_tail ?_)
    simp only [impl_AlignPath.j2]
    exact ev_neg (by simp) (Ev.bind (revPair_ev out (by omega)) (Ev.now _))
  induction n with
  | zero =>
    intro i j out hi hj hn hac
    obtain rfl : i = 0 := by omega
    obtain rfl : j = 0 := by omega
    exact fin out (by omega)
  | succ n ih =>
    intro i j out hi hj hn hac
    by_cases h0 : i = 0 ∧ j = 0
    · obtain ⟨rfl, rfl⟩ := h0
      rw [back_zero]
      exact fin out (by omega)
    · have next : ∀ (p : S99) (i' j' : Nat), i' ≤ a.length → j' ≤ b.length → i' + j' ≤ n → Ev (fun k => impl_AlignPath.l0 k a b (out ++ [p]) (rowsE a b (a.length + 1)) (i' : Int) (j' : Int)) (back a b n i' j' (p :: out.reverse)) := by
        intro p i' j' hi' hj' hn'
        have e := ih i' j' (out ++ [p]) hi' hj' hn' (by rw [length_snoc]; omega)
        simpa using e
      have start : ∀ r, Ev (fun k => impl_AlignPath.j2 k a b out (rowsE a b (a.length + 1)) (i : Int) (j : Int) true) r → Ev (fun k => impl_AlignPath.l0 k a b out (rowsE a b (a.length + 1)) (i : Int) (j : Int)) r := by
        intro r e
        refine ev_tail ?_
        simp only [impl_AlignPath.l0]
        by_cases h1 : 0 < i
        · exact ev_pos (by omega) e
        · refine ev_neg (by omega) ?_
          rw [show decide ((j : Int) > 0) = true by simp; omega]
          exact e
      have rl : (rowsE a b (a.length + 1)).length = a.length + 1 := rowsE_length _ _ _
      have rowl : ∀ m : Nat, m ≤ a.length → (rd_L2 (rowsE a b (a.length + 1)) (m : Int)).length = b.length + 1 := by
        intro m hm
        rw [rowsE_at a b (a.length + 1) m (by omega), rowE_length]
      have third : ¬ (0 < i ∧ ed a b i j = ed a b (i - 1) j + 1) → 0 < j := by
        intro h
        rcases Nat.eq_zero_or_pos j with hj0 | hj0
        · subst hj0
          refine absurd ⟨by omega, ?_⟩ h
          rw [ed_left, ed_left]
          omega
        · exact hj0
      have last : ¬ (0 < i ∧ ed a b i j = ed a b (i - 1) j + 1) → Ev (fun k => impl_AlignPath.l0 k a b (out ++ [(⟨(-1), wrap64 ((j : Int) - 1)⟩ : S99)]) (rowsE a b (a.length + 1)) (i : Int) (wrap64 ((j : Int) - 1))) (back a b n i (j - 1) (⟨-1, ((j - 1 : Nat) : Int)⟩ :: out.reverse)) := by
        intro h
        have hj0 := third h
        rw [wrap_pred (by omega) (by omega)]
        exact next _ i (j - 1) (by omega) (by omega) (by omega)
      have second : ¬ (0 < i ∧ 0 < j ∧ ed a b i j = ed a b (i - 1) (j - 1) + unl a b (i - 1) (j - 1)) → Ev (fun k => impl_AlignPath.j3 k a b out (rowsE a b (a.length + 1)) (i : Int) (j : Int) false) (back a b (n + 1) i j out.reverse) := by
        intro hA
        simp only [back, if_neg h0, if_neg hA]
        refine ev_tail ?_
        simp only [impl_AlignPath.j3]
        refine ev_neg (by simp) ?_
        by_cases hi0 : 0 < i
        · refine ev_pos (by omega) ?_
          have wi : Aside0 (wrap64 ((i : Int) - 1) = ((i - 1 : Nat) : Int)) := ⟨wrap_pred (by omega) (by omega)⟩
          have b2 := ed_le a b (i - 1) j
          have w2 : Aside0 (wrap64 (((ed a b (i - 1) j : Nat) : Int) + 1) = ((ed a b (i - 1) j + 1 : Nat) : Int)) := ⟨wrap_succ (by omega)⟩
          have l1 := rowl i hi
          have l2 := rowl (i - 1) (by omega)
          have v1 := Aside0.mk (rowsE_at' a b (a.length + 1) i j (by omega) (by omega))
          have v2 := Aside0.mk (rowsE_at' a b (a.length + 1) (i - 1) j (by omega) (by omega))
          simp only [wi.out, v1.out, v2.out, w2.out, rl, l1, l2]
          refine ev_pos (by omega) (ev_pos (by omega) (ev_pos (by omega) (ev_pos (by omega) (ev_pos (by omega) (ev_pos (by omega) (ev_pos (by omega) ?_))))))
          by_cases hB : ed a b i j = ed a b (i - 1) j + 1
          · rw [if_pos ⟨hi0, hB⟩]
            refine ev_pos (by omega) (ev_pos (by omega) ?_)
            exact next _ (i - 1) j (by omega) (by omega) (by omega)
          · rw [if_neg (by omega)]
            refine ev_neg (by omega) (ev_pos (by omega) ?_)
            exact last (by omega)
        · rw [if_neg (by omega)]
          refine ev_neg (by omega) (ev_pos (by omega) ?_)
          exact last (by omega)
      refine start _ (ev_tail ?_)
      simp only [impl_AlignPath.j2]
      refine ev_pos (by trivial) ?_
      by_cases hi0 : 0 < i
      · refine ev_pos (by omega) ?_
        by_cases hj0 : 0 < j
        · refine ev_pos (by omega) ?_
          have wi : Aside0 (wrap64 ((i : Int) - 1) = ((i - 1 : Nat) : Int)) := ⟨wrap_pred (by omega) (by omega)⟩
          have wj : Aside0 (wrap64 ((j : Int) - 1) = ((j - 1 : Nat) : Int)) := ⟨wrap_pred (by omega) (by omega)⟩
          have b3 := ed_le a b (i - 1) (j - 1)
          have b4 := unl_le a b (i - 1) (j - 1)
          have l1 := rowl i hi
          have l2 := rowl (i - 1) (by omega)
          have v1 := Aside0.mk (rowsE_at' a b (a.length + 1) i j (by omega) (by omega))
          have v2 := Aside0.mk (rowsE_at' a b (a.length + 1) (i - 1) (j - 1) (by omega) (by omega))
          have w2 : Aside0 (wrap64 (((ed a b (i - 1) (j - 1) : Nat) : Int) + ((unl a b (i - 1) (j - 1) : Nat) : Int)) = ((ed a b (i - 1) (j - 1) + unl a b (i - 1) (j - 1) : Nat) : Int)) := ⟨by rw [wrap_id (by omega) (by omega)]; omega⟩
          simp only [wi.out, wj.out, rl, l1, l2]
          refine ev_pos (by omega) (ev_pos (by omega) (ev_pos (by omega) (ev_pos (by omega) (ev_pos (by omega) (ev_pos (by omega) (ev_pos (by omega) (ev_pos (by omega) (ev_pos (by omega) (ev_pos (by omega) ?_)))))))))
          rw [unlE_eq]
          simp only [Option.bind_some, v1.out, v2.out, w2.out]
          by_cases hA : ed a b i j = ed a b (i - 1) (j - 1) + unl a b (i - 1) (j - 1)
          · rw [show (((ed a b i j : Nat) : Int) == ((ed a b (i - 1) (j - 1) + unl a b (i - 1) (j - 1) : Nat) : Int)) = true by rw [hA]; simp]
            simp only [back, if_neg h0, if_pos (show 0 < i ∧ 0 < j ∧ ed a b i j = ed a b (i - 1) (j - 1) + unl a b (i - 1) (j - 1) from ⟨hi0, hj0, hA⟩)]
            refine ev_tail ?_
            simp only [impl_AlignPath.j3, wi.out, wj.out]
            refine ev_pos (by trivial) (ev_pos (by omega) ?_)
            exact next _ (i - 1) (j - 1) (by omega) (by omega) (by omega)
          · rw [show (((ed a b i j : Nat) : Int) == ((ed a b (i - 1) (j - 1) + unl a b (i - 1) (j - 1) : Nat) : Int)) = false by rw [beq_eq_false_iff_ne]; omega]
            exact second (by omega)
        · exact ev_neg (by omega) (second (by omega))
      · exact ev_neg (by omega) (second (by omega))
theorem implAlignPath_ev (a b : List Int) : Ev (fun k => impl_AlignPath.f k a b) (pathOf a b) := by
  simp only [impl_AlignPath.f, Option.bind_some, pathOf]
  by_cases ha : a.length ≤ 40
  · refine ev_neg (by omega) ?_
    by_cases hb : b.length ≤ 40
    · rw [if_pos ⟨ha, hb⟩, show decide ((b.length : Int) > 40) = false by simp; omega]
      refine ev_tail ?_
      simp only [impl_AlignPath.j0]
      refine ev_neg (by simp) (Ev.bind (implCosts_ev a b ha hb) ?_)
      exact implBack_l0 a b ha hb _ _ _ [] (by omega) (by omega) (by omega) (by simp; omega)
    · rw [if_neg (by omega), show decide ((b.length : Int) > 40) = true by simp; omega]
      refine ev_tail ?_
      simp only [impl_AlignPath.j0]
      exact ev_pos (by trivial) (Ev.now _)
  · rw [if_neg (by omega)]
    refine ev_pos (by omega) (ev_tail ?_)
    simp only [impl_AlignPath.j0]
    exact ev_pos (by trivial) (Ev.now _)

/-- The cost of the rest of a path, from the places i and j on; -1: it is none. -/
def pcGo (a b : List Int) : List S99 → Nat → Nat → Nat → Int
  | [], i, j, n => if i = a.length ∧ j = b.length then (n : Int) else -1
  | x :: t, i, j, n =>
    if x.f0 = (i : Int) ∧ x.f1 = (j : Int) ∧ i < a.length ∧ j < b.length then pcGo a b t (i + 1) (j + 1) (if a.getD i 0 = b.getD j 0 then n else n + 1)
    else if x.f0 = (i : Int) ∧ x.f1 = -1 ∧ i < a.length then pcGo a b t (i + 1) j (n + 1)
    else if x.f0 = -1 ∧ x.f1 = (j : Int) ∧ j < b.length then pcGo a b t i (j + 1) (n + 1)
    else -1
def pathM (a b : List Int) (l : List S99) : Int := pcGo a b l 0 0 0
theorem implPath_l0 (a b : List Int) (ha : a.length ≤ 1048576) (hb : b.length ≤ 1048576) (suf : List S99) : ∀ (pre : List S99) (i j n : Nat), (pre ++ suf).length ≤ 1048576 → i ≤ a.length → j ≤ b.length → n ≤ i + j →
    Ev (fun k => impl_PathCost.l0 k a b (i : Int) (j : Int) (n : Int) (pre ++ suf) ((pre ++ suf).length : Int) (pre.length : Int)) (pcGo a b suf i j n) := by
  induction suf with
  | nil =>
    intro pre i j n h hi hj hn
    refine ev_tail ?_
    simp only [impl_PathCost.l0, pcGo]
    refine ev_neg (by simp) (ev_ite (fun h1 => ev_ite (fun h2 => ?_) (fun h2 => ?_)) (fun h1 => ?_))
    · rw [if_pos (by omega)]; exact Ev.now _
    · rw [if_neg (by omega)]; exact Ev.now _
    · rw [if_neg (by omega)]; exact Ev.now _
  | cons x t ih =>
    intro pre i j n h hi hj hn
    have e := fun i' j' n' => ih (pre ++ [x]) i' j' n' (by simpa using h)
    have hlen : pre.length + (t.length + 1) ≤ 1048576 := by simpa using h
    have w1 : Aside0 (wrap64 ((pre.length : Int) + 1) = ((pre.length + 1 : Nat) : Int)) := ⟨wrap_succ (by omega)⟩
    have wi : Aside0 (wrap64 ((i : Int) + 1) = ((i + 1 : Nat) : Int)) := ⟨wrap_succ (by omega)⟩
    have wj : Aside0 (wrap64 ((j : Int) + 1) = ((j + 1 : Nat) : Int)) := ⟨wrap_succ (by omega)⟩
    have wn : Aside0 (wrap64 ((n : Int) + 1) = ((n + 1 : Nat) : Int)) := ⟨wrap_succ (by omega)⟩
    have wn0 : Aside0 (wrap64 ((n : Int) + 0) = (n : Int)) := ⟨by rw [Int.add_zero]; exact wrap_id (by omega) (by omega)⟩
    have hr : Aside0 (rd_T99 (pre ++ x :: t) ((pre.length : Nat) : Int) = x) := ⟨getD_mid pre x t _⟩
    refine ev_tail ?_
    simp only [impl_PathCost.l0, pcGo, hr.out]
    refine ev_pos (by simp; omega) (ev_pos (by omega) (ev_pos (by simp; omega) ?_))
    by_cases hA : x.f0 = (i : Int) ∧ x.f1 = (j : Int) ∧ i < a.length ∧ j < b.length
    · obtain ⟨h0, h1, h2, h3⟩ := hA
      rw [if_pos ⟨h0, h1, h2, h3⟩]
      refine ev_pos h0 (ev_pos h1 (ev_pos (by omega) (ev_tail ?_)))
      simp only [impl_PathCost.j1, rd_nat, impl_unlike.f]
      refine ev_pos (by simp; omega) (ev_pos (by omega) (ev_pos (by omega) (ev_pos (by omega) (ev_pos (by omega) ?_))))
      by_cases heq : a.getD i 0 = b.getD j 0
      · rw [if_pos heq, if_pos heq]
        simp only [Option.bind_some]
        rw [w1.out, wi.out, wj.out, wn0.out, snoc_cons pre x t, ← length_snoc pre x]
        exact e _ _ _ (by omega) (by omega) (by omega)
      · rw [if_neg heq, if_neg heq]
        simp only [Option.bind_some]
        rw [w1.out, wi.out, wj.out, wn.out, snoc_cons pre x t, ← length_snoc pre x]
        exact e _ _ _ (by omega) (by omega) (by omega)
    · rw [if_neg hA]
      have hj1 : Ev (fun k => impl_PathCost.j1 k a b (i : Int) (j : Int) (n : Int) (pre ++ x :: t) ((pre ++ x :: t).length : Int) (pre.length : Int) false x.f0 x.f1)
          (if x.f0 = (i : Int) ∧ x.f1 = -1 ∧ i < a.length then pcGo a b t (i + 1) j (n + 1) else if x.f0 = -1 ∧ x.f1 = (j : Int) ∧ j < b.length then pcGo a b t i (j + 1) (n + 1) else -1) := by
        refine ev_tail ?_
        simp only [impl_PathCost.j1]
        refine ev_neg (by simp) ?_
        by_cases hB : x.f0 = (i : Int) ∧ x.f1 = -1 ∧ i < a.length
        · obtain ⟨h0, h1, h2⟩ := hB
          rw [if_pos ⟨h0, h1, h2⟩]
          refine ev_pos h0 (ev_pos h1 (ev_tail ?_))
          simp only [impl_PathCost.j2]
          refine ev_pos (by simp; omega) ?_
          rw [w1.out, wi.out, wn.out, snoc_cons pre x t, ← length_snoc pre x]
          exact e _ _ _ (by omega) (by omega) (by omega)
        · rw [if_neg hB]
          have hj2 : Ev (fun k => impl_PathCost.j2 k a b (i : Int) (j : Int) (n : Int) (pre ++ x :: t) ((pre ++ x :: t).length : Int) (pre.length : Int) false x.f0 x.f1)
              (if x.f0 = -1 ∧ x.f1 = (j : Int) ∧ j < b.length then pcGo a b t i (j + 1) (n + 1) else -1) := by
            refine ev_tail ?_
            simp only [impl_PathCost.j2]
            refine ev_neg (by simp) ?_
            by_cases hC : x.f0 = -1 ∧ x.f1 = (j : Int) ∧ j < b.length
            · obtain ⟨h0, h1, h2⟩ := hC
              rw [if_pos ⟨h0, h1, h2⟩]
              refine ev_pos h0 (ev_pos h1 (ev_pos (by omega) ?_))
              rw [w1.out, wj.out, wn.out, snoc_cons pre x t, ← length_snoc pre x]
              exact e _ _ _ (by omega) (by omega) (by omega)
            · rw [if_neg hC]
              exact ev_ite (fun h0 => ev_ite (fun h1 => ev_ite (fun h2 => absurd ⟨h0, h1, by omega⟩ hC) (fun _ => Ev.now _)) (fun _ => Ev.now _)) (fun _ => Ev.now _)
          refine ev_ite (fun h0 => ev_ite (fun h1 => ?_) (fun _ => hj2)) (fun _ => hj2)
          rw [show decide ((i : Int) < (a.length : Int)) = false by simp; omega]
          exact hj2
      refine ev_ite (fun h0 => ev_ite (fun h1 => ev_ite (fun h2 => ?_) (fun _ => hj1)) (fun _ => hj1)) (fun _ => hj1)
      rw [show decide ((j : Int) < (b.length : Int)) = false by simp; omega]
      exact hj1
theorem implPathCost_ev (a b : List Int) (l : List S99) (ha : a.length ≤ 1048576) (hb : b.length ≤ 1048576) (hl : l.length ≤ 1048576) : Ev (fun k => impl_PathCost.f k a b l) (pathM a b l) := by
  simp only [impl_PathCost.f]
  exact implPath_l0 a b ha hb l [] 0 0 0 (by simpa using hl) (by omega) (by omega) (by omega)

/-- Every step of a path has its places. -/
def okP (a b : List Int) (x : S99) : Prop := (x.f0 = -1 ∨ (0 ≤ x.f0 ∧ x.f0 < (a.length : Int))) ∧ (x.f1 = -1 ∨ (0 ≤ x.f1 ∧ x.f1 < (b.length : Int)))
theorem pcGo_ok (a b : List Int) (l : List S99) : ∀ i j n : Nat, 0 ≤ pcGo a b l i j n → ∀ x ∈ l, okP a b x := by
  induction l with
  | nil => intro i j n _ x hx; cases hx
  | cons y t ih =>
    intro i j n h x hx
    simp only [pcGo] at h
    by_cases hA : y.f0 = (i : Int) ∧ y.f1 = (j : Int) ∧ i < a.length ∧ j < b.length
    · rw [if_pos hA] at h
      rcases List.mem_cons.1 hx with rfl | hx
      · exact ⟨Or.inr ⟨by omega, by omega⟩, Or.inr ⟨by omega, by omega⟩⟩
      · exact ih _ _ _ h x hx
    · rw [if_neg hA] at h
      by_cases hB : y.f0 = (i : Int) ∧ y.f1 = -1 ∧ i < a.length
      · rw [if_pos hB] at h
        rcases List.mem_cons.1 hx with rfl | hx
        · exact ⟨Or.inr ⟨by omega, by omega⟩, Or.inl hB.2.1⟩
        · exact ih _ _ _ h x hx
      · rw [if_neg hB] at h
        by_cases hC : y.f0 = -1 ∧ y.f1 = (j : Int) ∧ j < b.length
        · rw [if_pos hC] at h
          rcases List.mem_cons.1 hx with rfl | hx
          · exact ⟨Or.inl hC.1, Or.inr ⟨by omega, by omega⟩⟩
          · exact ih _ _ _ h x hx
        · rw [if_neg hC] at h
          omega
def mtG (a b : List Int) (x : S99) : Option S99 := if x.f0 ≥ 0 ∧ x.f1 ≥ 0 ∧ rd a x.f0 = rd b x.f1 then some x else none
def matchedM (a b : List Int) (l : List S99) : List S99 := if 0 ≤ pathM a b l then l.filterMap (mtG a b) else []
theorem implMatched_l0 (a b : List Int) (l : List S99) (hp : 0 ≤ pathM a b l) (hl : l.length ≤ 1048576) (suf : List S99) : ∀ (pre out : List S99), l = pre ++ suf → out.length ≤ pre.length →
    Ev (fun k => impl_MatchedOf.l0 k a b out l (l.length : Int) (pre.length : Int)) (out ++ suf.filterMap (mtG a b)) := by
  induction suf with
  | nil =>
    intro pre out h ho
    subst h
    refine ev_tail ?_
    simp only [impl_MatchedOf.l0]
    exact ev_neg (by simp) (ev_eq (Ev.now _) (by simp))
  | cons x t ih =>
    intro pre out h ho
    have ok := pcGo_ok a b l 0 0 0 hp x (by rw [h]; simp)
    have hlen : l.length = pre.length + (t.length + 1) := by rw [h]; simp
    have w1 : Aside0 (wrap64 ((pre.length : Int) + 1) = (((pre ++ [x]).length : Nat) : Int)) := ⟨by rw [wrap_succ (by omega), length_snoc]⟩
    have hr : Aside0 (rd_T99 l ((pre.length : Nat) : Int) = x) := ⟨by rw [h]; exact getD_mid pre x t _⟩
    have hs : l = (pre ++ [x]) ++ t := by rw [h]; simp
    refine ev_tail ?_
    simp only [impl_MatchedOf.l0, hr.out, w1.out]
    refine ev_pos (by omega) (ev_pos (by omega) (ev_pos (by omega) ?_))
    obtain ⟨k0, k1⟩ := ok
    have skip : mtG a b x = none → Ev (fun k => impl_MatchedOf.l0 k a b out l (l.length : Int) (((pre ++ [x]).length : Nat) : Int)) (out ++ (x :: t).filterMap (mtG a b)) := by
      intro hn
      have e := ih (pre ++ [x]) out hs (by rw [length_snoc]; omega)
      rw [List.filterMap_cons_none hn]
      exact e
    refine ev_ite (fun h0 => ev_ite (fun h1 => ?_) (fun h1 => skip (by unfold mtG; rw [if_neg (by omega)]))) (fun h0 => skip (by unfold mtG; rw [if_neg (by omega)]))
    refine ev_pos (by omega) (ev_pos (by omega) (ev_pos (by omega) (ev_pos (by omega) ?_)))
    refine ev_ite (fun h2 => ev_pos (by omega) ?_) (fun h2 => skip (by unfold mtG; rw [if_neg (fun hh => h2 hh.2.2)]))
    have e := ih (pre ++ [x]) (out ++ [x]) hs (by rw [length_snoc, length_snoc]; omega)
    have hg : mtG a b x = some x := by unfold mtG; rw [if_pos ⟨by omega, by omega, h2⟩]
    rw [List.filterMap_cons_some hg]
    simpa using e
theorem implMatched_ev (a b : List Int) (l : List S99) (ha : a.length ≤ 1048576) (hb : b.length ≤ 1048576) (hl : l.length ≤ 1048576) : Ev (fun k => impl_MatchedOf.f k a b l) (matchedM a b l) := by
  simp only [impl_MatchedOf.f, matchedM, Option.bind_some]
  refine Ev.bind (implPathCost_ev a b l ha hb hl) ?_
  by_cases hp : 0 ≤ pathM a b l
  · rw [if_pos hp]
    refine ev_neg (by omega) ?_
    have e := implMatched_l0 a b l hp hl l [] [] rfl (Nat.le_refl _)
    simpa using e
  · rw [if_neg hp]
    exact ev_pos (by omega) (Ev.now _)

def commonM (a b : List Int) : Int := if a.length ≤ 40 ∧ b.length ≤ 40 then ((lc a b a.length b.length : Nat) : Int) else -1
def rowL (a b : List Int) (i n : Nat) : List Int := (List.range n).map fun j => ((lc a b i j : Nat) : Int)
theorem rowL_length (a b : List Int) (i n : Nat) : (rowL a b i n).length = n := by simp [rowL]
theorem rowL_zero (a b : List Int) (n : Nat) : rowL a b 0 n = List.replicate n 0 := by
  apply List.ext_getElem
  · simp [rowL]
  · intro i h1 h2
    simp [rowL, lc_zero]
theorem rowL_one (a b : List Int) (i n : Nat) : rowL a b i 1 ++ List.replicate n 0 = List.replicate (n + 1) 0 := by
  simp [rowL, lc_left, List.replicate_succ]
theorem implLen_l1 (a b : List Int) (ha : a.length ≤ 40) (hb : b.length ≤ 40) (i : Nat) (hi : i < a.length) {r : Int} (e : Ev (fun k => impl_CommonLength.l0 k b (rowL a b (i + 1) (b.length + 1)) a (a.length : Int) ((i + 1 : Nat) : Int)) r) (d : Nat) : ∀ j, j + d = b.length →
    Ev (fun k => impl_CommonLength.l1 k b (rowL a b i (b.length + 1)) (a.getD i 0) (rowL a b (i + 1) (j + 1) ++ List.replicate d 0) a (a.length : Int) (i : Int) b (b.length : Int) (j : Int)) r := by
  induction d with
  | zero =>
    intro j hj
    obtain rfl : j = b.length := by omega
    refine ev_tail ?_
    simp only [impl_CommonLength.l1]
    refine ev_neg (by omega) ?_
    rw [wrap_succ (by omega)]
    simpa using e
  | succ d ih =>
    intro j hj
    have e1 := ih (j + 1) (by omega)
    have wj : Aside0 (wrap64 ((j : Int) + 1) = ((j + 1 : Nat) : Int)) := ⟨wrap_succ (by omega)⟩
    have hlen : (rowL a b (i + 1) (j + 1) ++ List.replicate (d + 1) (0 : Int)).length = b.length + 1 := by simp [rowL]; omega
    have put : ∀ v : Int, v = ((lc a b (i + 1) (j + 1) : Nat) : Int) → (rowL a b (i + 1) (j + 1) ++ List.replicate (d + 1) 0).set ((j + 1 : Nat) : Int).toNat v = rowL a b (i + 1) (j + 1 + 1) ++ List.replicate d 0 := fun v hv => row_set (fun j => ((lc a b (i + 1) j : Nat) : Int)) (j + 1) d v hv
    have r1 : Aside0 (rd (rowL a b (i + 1) (j + 1) ++ List.replicate (d + 1) 0) (j : Int) = ((lc a b (i + 1) j : Nat) : Int)) := ⟨rd_row (fun j => ((lc a b (i + 1) j : Nat) : Int)) _ _ _ (by omega)⟩
    have r2 : Aside0 (rd (rowL a b i (b.length + 1)) ((j + 1 : Nat) : Int) = ((lc a b i (j + 1) : Nat) : Int)) := ⟨rd_map_range (fun j => ((lc a b i j : Nat) : Int)) _ _ (by omega)⟩
    have r3 : Aside0 (rd (rowL a b i (b.length + 1)) (j : Int) = ((lc a b i j : Nat) : Int)) := ⟨rd_map_range (fun j => ((lc a b i j : Nat) : Int)) _ _ (by omega)⟩
    have b3 := lc_le a b i j
    refine ev_tail ?_
    simp only [impl_CommonLength.l1, hlen, wj.out, r1.out, r2.out, r3.out, rowL_length, Option.bind_some, rd_nat b j]
    refine ev_pos (by omega) (ev_pos (by omega) (ev_pos (by omega) (ev_pos (by omega) (ev_pos (by omega) (ev_pos (by omega) (ev_pos (by omega) ?_))))))
    by_cases heq : a.getD i 0 = b.getD j 0
    · refine ev_pos heq (ev_pos (by omega) ?_)
      rw [List.set_set, put _ (by rw [lc_succ, if_pos heq, wrap_id (by omega) (by omega)]; omega)]
      exact e1
    · refine ev_neg heq ?_
      rw [put _ (by rw [lc_succ, if_neg heq, mx_eq]; omega)]
      exact e1
theorem implLen_l0 (a b : List Int) (ha : a.length ≤ 40) (hb : b.length ≤ 40) (d : Nat) : ∀ i, i + d = a.length →
    Ev (fun k => impl_CommonLength.l0 k b (rowL a b i (b.length + 1)) a (a.length : Int) (i : Int)) ((lc a b a.length b.length : Nat) : Int) := by
  induction d with
  | zero =>
    intro i hi
    obtain rfl : i = a.length := by omega
    have r1 : Aside0 (rd (rowL a b a.length (b.length + 1)) (b.length : Int) = ((lc a b a.length b.length : Nat) : Int)) := ⟨rd_map_range (fun j => ((lc a b a.length j : Nat) : Int)) _ _ (by omega)⟩
    refine ev_tail ?_
    simp only [impl_CommonLength.l0, r1.out, rowL_length]
    exact ev_neg (by omega) (ev_pos (by omega) (ev_pos (by omega) (Ev.now _)))
  | succ d ih =>
    intro i hi
    have wb : Aside0 (wrap64 ((b.length : Int) + 1) = ((b.length + 1 : Nat) : Int)) := ⟨wrap_succ (by omega)⟩
    refine ev_tail ?_
    simp only [impl_CommonLength.l0, wb.out, Int.toNat_natCast, rd_nat a i]
    refine ev_pos (by omega) (ev_pos (by omega) (ev_pos (by omega) (ev_pos (by omega) (ev_pos (by omega) ?_))))
    rw [← rowL_one a b (i + 1) b.length]
    exact implLen_l1 a b ha hb i (by omega) (ih (i + 1) (by omega)) b.length 0 (by omega)
theorem implLen_j0 (a b : List Int) (x : Bool) : x = true → Ev (fun k => impl_CommonLength.j0 k a b x) (-1) := by
  rintro rfl
  refine ev_tail ?_
  simp only [impl_CommonLength.j0]
  exact ev_pos (by trivial) (Ev.now _)
theorem implCommonLength_ev (a b : List Int) : Ev (fun k => impl_CommonLength.f k a b) (commonM a b) := by
  simp only [impl_CommonLength.f, commonM]
  by_cases ha : a.length ≤ 40
  · refine ev_neg (by omega) ?_
    by_cases hb : b.length ≤ 40
    · rw [if_pos ⟨ha, hb⟩]
      have wb : Aside0 (wrap64 ((b.length : Int) + 1) = ((b.length + 1 : Nat) : Int)) := ⟨wrap_succ (by omega)⟩
      refine ev_tail ?_
      simp only [impl_CommonLength.j0, wb.out, Int.toNat_natCast]
      refine ev_neg (by simp; omega) (ev_pos (by omega) (ev_pos (by omega) ?_))
      rw [← rowL_zero a b]
      exact implLen_l0 a b ha hb a.length 0 (by omega)
    · rw [if_neg (by omega)]
      exact implLen_j0 a b _ (by simp; omega)
  · rw [if_neg (by omega)]
    exact ev_pos (by omega) (implLen_j0 a b _ rfl)


/-! ### slips -/
def slP (n : Int) (x : S95) : Prop := 1 ≤ x.f0 ∧ x.f0 ≤ 3 ∧ 0 ≤ x.f1 ∧ x.f1 ≤ (if x.f0 = 3 then n else n - 1) ∧ 0 ≤ x.f2 ∧ x.f2 ≤ 127 ∧ (x.f0 = 2 → x.f2 = 0)
instance (n : Int) (x : S95) : Decidable (slP n x) := by unfold slP; exact inferInstance
def slC (l : List S95) (n : Int) (i : Int) : Bool := decide (slP n (rd_T95 l i) ∧ (0 < i → (rd_T95 l i).f1 < (rd_T95 l (i - 1)).f1))
def slipsM (l : List S95) (n : Int) : Bool := decide (0 ≤ n ∧ n ≤ 1000) && allF (slC l n) (decide ((l.length : Int) ≤ 8)) l.length 0
theorem allF_fin (c : Int → Bool) (fin : Bool) (d : Nat) : ∀ i, allF c fin d i = (allF c true d i && fin) := by
  induction d with
  | zero => intro i; simp [allF]
  | succ d ih => intro i; simp only [allF]; rw [ih, Bool.and_assoc]
theorem specSl_j1 (l : List S95) (n m : Int) (i : Nat) (hi : i < l.length) (hl : l.length ≤ 1048576) (hm : m = if (rd_T95 l (i : Int)).f0 = 3 then n else n - 1) :
    (slC l n (i : Int) = true → ∀ r, Ev (fun k => spec_AreSlips.l0 k l n ((i : Int) + 1)) r → Ev (fun k => spec_AreSlips.j1 k l n (i : Int) m (rd_T95 l (i : Int)).f0 (rd_T95 l (i : Int)).f1 (rd_T95 l (i : Int)).f2) r) ∧
    (slC l n (i : Int) = false → Ev (fun k => spec_AreSlips.j1 k l n (i : Int) m (rd_T95 l (i : Int)).f0 (rd_T95 l (i : Int)).f1 (rd_T95 l (i : Int)).f2) false) := by
  have w1 : wrap64 ((i : Int) + 1) = (i : Int) + 1 := wrap_id (by omega) (by omega)
  have w2 : wrap64 ((i : Int) - 1) = (i : Int) - 1 := wrap_id (by omega) (by omega)
  constructor
  · intro hc r e
    simp only [slC, slP, decide_eq_true_eq, ← hm] at hc
    obtain ⟨⟨h1, h2, h3, h4, h5, h6, h7⟩, h8⟩ := hc
    refine ev_tail ?_
    simp only [spec_AreSlips.j1, l1In_eq, Option.bind_some, w1, w2]
    refine ev_pos (decide_eq_true ⟨h1, h2⟩) (ev_pos (decide_eq_true ⟨h3, h4⟩) (ev_pos (decide_eq_true ⟨h5, h6⟩) ?_))
    refine ev_ite (fun hk => ev_pos (h7 hk) ?_) (fun _ => ?_)
    all_goals exact ev_ite (fun h0 => ev_pos (by omega) (ev_pos (by omega) (ev_neg (by have := h8 h0; omega) e))) (fun _ => e)
  · intro hc
    simp only [slC, slP, decide_eq_false_iff_not, ← hm] at hc
    refine ev_tail ?_
    simp only [spec_AreSlips.j1, l1In_eq, Option.bind_some, w1, w2]
    refine ev_ite (fun a1 => ev_ite (fun a2 => ev_ite (fun a3 => ?_) (fun _ => Ev.now _)) (fun _ => Ev.now _)) (fun _ => Ev.now _)
    simp only [decide_eq_true_eq] at a1 a2 a3
    refine ev_ite (fun hk => ev_ite (fun h => ?_) (fun _ => Ev.now _)) (fun hk => ?_)
    · exact ev_ite (fun h0 => ev_pos (by omega) (ev_pos (by omega) (ev_ite (fun _ => Ev.now _) (fun h8 => absurd ⟨⟨a1.1, a1.2, a2.1, a2.2, a3.1, a3.2, fun _ => h⟩, fun _ => by omega⟩ hc)))) (fun h0 => absurd ⟨⟨a1.1, a1.2, a2.1, a2.2, a3.1, a3.2, fun _ => h⟩, fun z => absurd z h0⟩ hc)
    · exact ev_ite (fun h0 => ev_pos (by omega) (ev_pos (by omega) (ev_ite (fun _ => Ev.now _) (fun h8 => absurd ⟨⟨a1.1, a1.2, a2.1, a2.2, a3.1, a3.2, fun z => absurd z hk⟩, fun _ => by omega⟩ hc)))) (fun h0 => absurd ⟨⟨a1.1, a1.2, a2.1, a2.2, a3.1, a3.2, fun z => absurd z hk⟩, fun z => absurd z h0⟩ hc)
theorem specAreSlips_ev (l : List S95) (n : Int) (hl : l.length ≤ 1048576) : Ev (fun k => spec_AreSlips.f k l n) (slipsM l n) := by
  simp only [spec_AreSlips.f, l1In_eq, Option.bind_some, slipsM]
  refine ev_ite (fun hn => ?_) (fun hn => ev_eq (Ev.now _) (by simp only [Bool.not_eq_true] at hn; rw [hn, Bool.false_and]))
  rw [hn, Bool.true_and]
  simp only [decide_eq_true_eq] at hn
  refine ev_all (L := fun k i => spec_AreSlips.l0 k l n i) (n := l.length) (fun i hi => ?_) ?_ l.length 0 (by omega)
  · have w2 : wrap64 (n - 1) = n - 1 := wrap_id (by omega) (by omega)
    constructor
    · intro hc r e
      refine ev_tail ?_
      simp only [spec_AreSlips.l0, w2]
      exact ev_pos (by omega) (ev_pos (by omega) (ev_ite (fun h => (specSl_j1 l n n i hi hl (by rw [if_pos h])).1 hc r e) (fun h => (specSl_j1 l n (n - 1) i hi hl (by rw [if_neg h])).1 hc r e)))
    · intro hc
      refine ev_tail ?_
      simp only [spec_AreSlips.l0, w2]
      exact ev_pos (by omega) (ev_pos (by omega) (ev_ite (fun h => (specSl_j1 l n n i hi hl (by rw [if_pos h])).2 hc) (fun h => (specSl_j1 l n (n - 1) i hi hl (by rw [if_neg h])).2 hc)))
  · refine ev_tail ?_
    simp only [spec_AreSlips.l0]
    exact ev_neg (by omega) (Ev.now _)

theorem implSl_j2 (l : List S95) (n m : Int) (i : Nat) (hi : i < l.length) (hl : l.length ≤ 1048576) (hm : m = if (rd_T95 l (i : Int)).f0 = 3 then n else n - 1) :
    (slC l n (i : Int) = true → ∀ r, Ev (fun k => impl_AreSlips.l0 k l n l (l.length : Int) ((i : Int) + 1)) r → Ev (fun k => impl_AreSlips.j2 k l n (i : Int) m l (l.length : Int) (i : Int) (rd_T95 l (i : Int)).f0 (rd_T95 l (i : Int)).f1 (rd_T95 l (i : Int)).f2) r) ∧
    (slC l n (i : Int) = false → Ev (fun k => impl_AreSlips.j2 k l n (i : Int) m l (l.length : Int) (i : Int) (rd_T95 l (i : Int)).f0 (rd_T95 l (i : Int)).f1 (rd_T95 l (i : Int)).f2) false) := by
  have w1 : wrap64 ((i : Int) + 1) = (i : Int) + 1 := wrap_id (by omega) (by omega)
  have w2 : wrap64 ((i : Int) - 1) = (i : Int) - 1 := wrap_id (by omega) (by omega)
  constructor
  · intro hc r e
    simp only [slC, slP, decide_eq_true_eq, ← hm] at hc
    obtain ⟨⟨h1, h2, h3, h4, h5, h6, h7⟩, h8⟩ := hc
    refine ev_tail ?_
    simp only [impl_AreSlips.j2, InRange_eq, Option.bind_some, w1, w2]
    refine ev_pos (decide_eq_true ⟨h1, h2⟩) (ev_pos (decide_eq_true ⟨h3, h4⟩) (ev_pos (decide_eq_true ⟨h5, h6⟩) ?_))
    refine ev_ite (fun hk => ev_pos (h7 hk) ?_) (fun _ => ?_)
    all_goals exact ev_ite (fun h0 => ev_pos (by omega) (ev_pos (by omega) (ev_neg (by have := h8 h0; omega) e))) (fun _ => e)
  · intro hc
    simp only [slC, slP, decide_eq_false_iff_not, ← hm] at hc
    refine ev_tail ?_
    simp only [impl_AreSlips.j2, InRange_eq, Option.bind_some, w1, w2]
    refine ev_ite (fun a1 => ev_ite (fun a2 => ev_ite (fun a3 => ?_) (fun _ => Ev.now _)) (fun _ => Ev.now _)) (fun _ => Ev.now _)
    simp only [decide_eq_true_eq] at a1 a2 a3
    refine ev_ite (fun hk => ev_ite (fun h => ?_) (fun _ => Ev.now _)) (fun hk => ?_)
    · exact ev_ite (fun h0 => ev_pos (by omega) (ev_pos (by omega) (ev_ite (fun _ => Ev.now _) (fun h8 => absurd ⟨⟨a1.1, a1.2, a2.1, a2.2, a3.1, a3.2, fun _ => h⟩, fun _ => by omega⟩ hc)))) (fun h0 => absurd ⟨⟨a1.1, a1.2, a2.1, a2.2, a3.1, a3.2, fun _ => h⟩, fun z => absurd z h0⟩ hc)
    · exact ev_ite (fun h0 => ev_pos (by omega) (ev_pos (by omega) (ev_ite (fun _ => Ev.now _) (fun h8 => absurd ⟨⟨a1.1, a1.2, a2.1, a2.2, a3.1, a3.2, fun z => absurd z hk⟩, fun _ => by omega⟩ hc)))) (fun h0 => absurd ⟨⟨a1.1, a1.2, a2.1, a2.2, a3.1, a3.2, fun z => absurd z hk⟩, fun z => absurd z h0⟩ hc)
theorem implAreSlips_ev (l : List S95) (n : Int) (hl : l.length ≤ 1048576) : Ev (fun k => impl_AreSlips.f k l n) (slipsM l n) := by
  simp only [impl_AreSlips.f, InRange_eq, Option.bind_some, slipsM]
  refine ev_ite (fun h8 => ev_tail ?_) (fun h8 => ev_tail ?_)
  · simp only [impl_AreSlips.j0]
    refine ev_pos (by trivial) (ev_eq (Ev.now _) ?_)
    rw [allF_fin, decide_eq_false (show ¬ ((l.length : Int) ≤ 8) by omega), Bool.and_false, Bool.and_false]
  · simp only [impl_AreSlips.j0]
    refine ev_ite (fun hn => ev_eq (Ev.now _) (by simp only [Bool.not_eq_true'] at hn; rw [hn, Bool.false_and])) (fun hn => ?_)
    simp only [Bool.not_eq_true', Bool.not_eq_false] at hn
    rw [hn, Bool.true_and]
    simp only [decide_eq_true_eq] at hn
    rw [decide_eq_true (show (l.length : Int) ≤ 8 by omega)]
    refine ev_all (L := fun k i => impl_AreSlips.l0 k l n l (l.length : Int) i) (n := l.length) (fun i hi => ?_) ?_ l.length 0 (by omega)
    · have w2 : wrap64 (n - 1) = n - 1 := wrap_id (by omega) (by omega)
      constructor
      · intro hc r e
        refine ev_tail ?_
        simp only [impl_AreSlips.l0, w2]
        exact ev_pos (by omega) (ev_pos (by omega) (ev_pos (by omega) (ev_ite (fun h => (implSl_j2 l n n i hi hl (by rw [if_pos h])).1 hc r e) (fun h => (implSl_j2 l n (n - 1) i hi hl (by rw [if_neg h])).1 hc r e))))
      · intro hc
        refine ev_tail ?_
        simp only [impl_AreSlips.l0, w2]
        exact ev_pos (by omega) (ev_pos (by omega) (ev_pos (by omega) (ev_ite (fun h => (implSl_j2 l n n i hi hl (by rw [if_pos h])).2 hc) (fun h => (implSl_j2 l n (n - 1) i hi hl (by rw [if_neg h])).2 hc))))
    · refine ev_tail ?_
      simp only [impl_AreSlips.l0]
      exact ev_neg (by omega) (Ev.now _)

/-! ### errors -/
theorem slips_facts {l : List S95} {n : Int} (h : slipsM l n = true) : 0 ≤ n ∧ n ≤ 1000 ∧ l.length ≤ 8 ∧ (∀ x ∈ l, slP n x) ∧ l.Pairwise (fun a b => b.f1 < a.f1) := by
  simp only [slipsM, Bool.and_eq_true, decide_eq_true_eq] at h
  obtain ⟨⟨h1, h2⟩, h3⟩ := h
  obtain ⟨h4, h5⟩ := (allF_iff _ _ _ _).1 h3
  simp only [decide_eq_true_eq] at h4
  have at_ : ∀ (j : Nat) (hj : j < l.length), rd_T95 l (j : Int) = l[j] := fun j hj => by simp [rd_T95, List.getD, hj]
  have hx : ∀ (j : Nat) (hj : j < l.length), slP n l[j] := fun j hj => by
    have := h5 j (Nat.zero_le _) (by omega)
    simp only [slC, decide_eq_true_eq] at this
    rw [← at_ j hj]; exact this.1
  have adj : ∀ (j : Nat) (hj : j + 1 < l.length), l[j + 1].f1 < l[j].f1 := fun j hj => by
    have := h5 (j + 1) (Nat.zero_le _) (by omega)
    simp only [slC, decide_eq_true_eq] at this
    have h6 := this.2 (by omega)
    rw [at_ (j + 1) hj, show ((j + 1 : Nat) : Int) - 1 = (j : Int) by omega, at_ j (by omega)] at h6
    exact h6
  have far : ∀ (d i : Nat) (hd : i + d + 1 < l.length), l[i + d + 1].f1 < l[i].f1 := by
    intro d
    induction d with
    | zero => intro i hd; exact adj i hd
    | succ d ih =>
      intro i hd
      have a1 := ih i (by omega)
      have a2 := adj (i + d + 1) (by omega)
      have : l[i + (d + 1) + 1].f1 < l[i + d + 1].f1 := a2
      omega
  refine ⟨h1, h2, by omega, fun x hm => ?_, List.pairwise_iff_getElem.2 (fun i j hi hj hij => ?_)⟩
  · obtain ⟨j, hj, rfl⟩ := List.getElem_of_mem hm
    exact hx j hj
  · obtain ⟨d, rfl⟩ : ∃ d, j = i + d + 1 := ⟨j - i - 1, by omega⟩
    exact far d i hj
def errStep (o : List Int) (x : S95) : List Int := if x.f0 = 1 then o.set x.f1.toNat x.f2 else if x.f0 = 2 then o.take x.f1.toNat ++ o.drop (x.f1.toNat + 1) else o.take x.f1.toNat ++ [x.f2] ++ o.drop x.f1.toNat
def errM (p : List Int) (l : List S95) : List Int × Bool := if slipsM l (p.length : Int) = true then (l.foldl errStep p, true) else (p, false)
/-- The place of a slip in what is there. -/
def slOk (x : S95) (n : Nat) : Prop := (1 ≤ x.f0 ∧ x.f0 ≤ 3 ∧ 0 ≤ x.f1) ∧ (x.f1 < (n : Int) ∨ x.f0 = 3 ∧ x.f1 ≤ (n : Int))
theorem errStep_len {o : List Int} {x : S95} (h : slOk x o.length) : x.f1 ≤ ((errStep o x).length : Int) ∧ (errStep o x).length ≤ o.length + 1 := by
  obtain ⟨⟨h1, h2, h3⟩, h4⟩ := h
  unfold errStep
  by_cases k1 : x.f0 = 1
  · rw [if_pos k1, List.length_set]; omega
  · rw [if_neg k1]
    by_cases k2 : x.f0 = 2
    · rw [if_pos k2]; simp only [List.length_append, List.length_take, List.length_drop]; omega
    · rw [if_neg k2]; simp only [List.length_append, List.length_take, List.length_drop, List.length_cons, List.length_nil]; omega
theorem slOk_next {o : List Int} {x : S95} {t : List S95} (hx : slOk x o.length) (hm : ∀ y ∈ x :: t, 1 ≤ y.f0 ∧ y.f0 ≤ 3 ∧ 0 ≤ y.f1) (hp : (x :: t).Pairwise (fun a b => b.f1 < a.f1)) : ∀ y, t.head? = some y → slOk y (errStep o x).length := by
  intro y hy
  have hyt : y ∈ t := List.mem_of_mem_head? hy
  have h1 := (List.pairwise_cons.1 hp).1 y hyt
  have h2 := (errStep_len hx).1
  exact ⟨hm y (List.mem_cons_of_mem _ hyt), .inl (by omega)⟩
theorem err_length (l : List S95) : ∀ o : List Int, (∀ y ∈ l, 1 ≤ y.f0 ∧ y.f0 ≤ 3 ∧ 0 ≤ y.f1) → l.Pairwise (fun a b => b.f1 < a.f1) → (∀ y, l.head? = some y → slOk y o.length) → (l.foldl errStep o).length ≤ o.length + l.length := by
  induction l with
  | nil => intro o _ _ _; simp
  | cons x t ih =>
    intro o hm hp hx
    have hx := hx x rfl
    have h1 := ih (errStep o x) (fun y hy => hm y (List.mem_cons_of_mem _ hy)) (List.pairwise_cons.1 hp).2 (slOk_next hx hm hp)
    have h2 := (errStep_len hx).2
    simp only [List.foldl_cons, List.length_cons]
    omega
theorem slips_head {l : List S95} {n : Nat} (h : slipsM l (n : Int) = true) : (∀ y ∈ l, 1 ≤ y.f0 ∧ y.f0 ≤ 3 ∧ 0 ≤ y.f1) ∧ l.Pairwise (fun a b => b.f1 < a.f1) ∧ (∀ y, l.head? = some y → slOk y n) := by
  obtain ⟨_, _, _, h1, h2⟩ := slips_facts h
  refine ⟨fun y hy => ⟨(h1 y hy).1, (h1 y hy).2.1, (h1 y hy).2.2.1⟩, h2, fun y hy => ?_⟩
  obtain ⟨a1, a2, a3, a4, _⟩ := h1 y (List.mem_of_mem_head? hy)
  refine ⟨⟨a1, a2, a3⟩, ?_⟩
  by_cases h3 : y.f0 = 3
  · rw [if_pos h3] at a4; exact .inr ⟨h3, a4⟩
  · rw [if_neg h3] at a4; exact .inl (by omega)
theorem errM_length (p : List Int) (l : List S95) : (errM p l).1.length ≤ p.length + 8 := by
  unfold errM
  split
  · rename_i h
    obtain ⟨h1, h2, h3⟩ := slips_head h
    have := err_length l p h1 h2 h3
    have := (slips_facts h).2.2.1
    show (l.foldl errStep p).length ≤ _
    omega
  · show p.length ≤ _; omega
theorem specErr_l0 (suf : List S95) : ∀ (pre : List S95) (o : List Int), (pre ++ suf).length ≤ 1048576 → o.length + suf.length ≤ 2097152 → (∀ y ∈ suf, 1 ≤ y.f0 ∧ y.f0 ≤ 3 ∧ 0 ≤ y.f1) → suf.Pairwise (fun a b => b.f1 < a.f1) → (∀ y, suf.head? = some y → slOk y o.length) →
    Ev (fun k => spec_ErrBy.l0 k (pre ++ suf) o (pre.length : Int)) (suf.foldl errStep o, true) := by
  induction suf with
  | nil =>
    intro pre o h _ _ _ _
    refine ev_tail ?_
    simp only [spec_ErrBy.l0]
    exact ev_neg (by simp) (Ev.now _)
  | cons x t ih =>
    intro pre o h ho hm hp hx
    have hx := hx x rfl
    have hlen := (errStep_len hx).2
    have e := ih (pre ++ [x]) (errStep o x) (by simpa using h) (by simp only [List.length_cons] at ho; omega) (fun y hy => hm y (List.mem_cons_of_mem _ hy)) (List.pairwise_cons.1 hp).2 (slOk_next hx hm hp)
    simp only [List.length_append, List.length_cons] at h ho
    obtain ⟨⟨h1, h2, h3⟩, h4⟩ := hx
    refine ev_tail ?_
    simp only [spec_ErrBy.l0]
    refine ev_pos (by simp; omega) (ev_pos (by omega) ?_)
    rw [show rd_T95 (pre ++ x :: t) ((pre.length : Nat) : Int) = x from getD_mid pre x t _, wrap_succ (by omega), snoc_cons pre x t, ← length_snoc pre x]
    have w : (wrap64 (x.f1 + 1)).toNat = x.f1.toNat + 1 := by rw [wrap_id (by omega) (by omega)]; omega
    refine ev_ite (fun k1 => ?_) (fun k1 => ev_ite (fun k2 => ?_) (fun k2 => ?_))
    · refine ev_pos h3 (ev_pos (by omega) ?_)
      rw [show errStep o x = o.set x.f1.toNat x.f2 by unfold errStep; rw [if_pos k1]] at e
      exact ev_eq e (by rw [List.foldl_cons, show errStep o x = o.set x.f1.toNat x.f2 by unfold errStep; rw [if_pos k1]])
    · have q : spec_cut.f o x.f1 = some (errStep o x) := by
        unfold spec_cut.f errStep
        rw [if_pos ⟨h3, by omega, by omega⟩, if_neg k1, if_pos k2, w]; simp
      exact ev_val q (ev_eq e rfl)
    · have q : spec_put.f o x.f1 x.f2 = some (errStep o x) := by
        unfold spec_put.f errStep
        rw [if_pos ⟨h3, by omega, by omega⟩, if_neg k1, if_neg k2]; simp
      exact ev_val q (ev_eq e rfl)
theorem specErrBy_ev (p : List Int) (l : List S95) (hp : p.length ≤ 1048576) (hl : l.length ≤ 1048576) : Ev (fun k => spec_ErrBy.f k p l) (errM p l) := by
  simp only [spec_ErrBy.f, Option.bind_some, List.length_nil, List.nil_append, errM]
  refine ev_pos (by omega) (Ev.bind (specAreSlips_ev l _ hl) (ev_ite (fun h => ?_) (fun h => ?_)))
  · rw [if_pos h]
    obtain ⟨h1, h2, h3⟩ := slips_head h
    exact specErr_l0 l [] p (by simpa using hl) (by omega) h1 h2 h3
  · rw [if_neg h]; exact Ev.now _

theorem implErr_l0 (suf : List S95) : ∀ (pre : List S95) (o : List Int), (pre ++ suf).length ≤ 1048576 → o.length + suf.length ≤ 2097152 → (∀ y ∈ suf, 1 ≤ y.f0 ∧ y.f0 ≤ 3 ∧ 0 ≤ y.f1) → suf.Pairwise (fun a b => b.f1 < a.f1) → (∀ y, suf.head? = some y → slOk y o.length) →
    Ev (fun k => impl_ErrBy.l0 k o (pre ++ suf) ((pre ++ suf).length : Int) (pre.length : Int)) (suf.foldl errStep o, true) := by
  induction suf with
  | nil =>
    intro pre o h _ _ _ _
    refine ev_tail ?_
    simp only [impl_ErrBy.l0]
    exact ev_neg (by simp) (Ev.now _)
  | cons x t ih =>
    intro pre o h ho hm hp hx
    have hx := hx x rfl
    have hlen := (errStep_len hx).2
    have e := ih (pre ++ [x]) (errStep o x) (by simpa using h) (by simp only [List.length_cons] at ho; omega) (fun y hy => hm y (List.mem_cons_of_mem _ hy)) (List.pairwise_cons.1 hp).2 (slOk_next hx hm hp)
    simp only [List.length_append, List.length_cons] at h ho
    obtain ⟨⟨h1, h2, h3⟩, h4⟩ := hx
    refine ev_tail ?_
    simp only [impl_ErrBy.l0]
    refine ev_pos (by simp; omega) (ev_pos (by omega) (ev_pos (by simp; omega) ?_))
    rw [show rd_T95 (pre ++ x :: t) ((pre.length : Nat) : Int) = x from getD_mid pre x t _, wrap_succ (by omega), snoc_cons pre x t, ← length_snoc pre x]
    have w : wrap64 (x.f1 + 1) = x.f1 + 1 := wrap_id (by omega) (by omega)
    refine ev_ite (fun k1 => ?_) (fun k1 => ev_ite (fun k2 => ?_) (fun k2 => ?_))
    · refine ev_pos h3 (ev_pos (by omega) ?_)
      rw [show errStep o x = o.set x.f1.toNat x.f2 by unfold errStep; rw [if_pos k1]] at e
      exact ev_eq e (by rw [List.foldl_cons, show errStep o x = o.set x.f1.toNat x.f2 by unfold errStep; rw [if_pos k1]])
    · have q : slices_Delete_int_int.f o x.f1 (wrap64 (x.f1 + 1)) = some (errStep o x) := by
        unfold slices_Delete_int_int.f errStep
        rw [w, if_pos ⟨h3, by omega, by omega⟩, if_neg k1, if_pos k2, show (x.f1 + 1).toNat = x.f1.toNat + 1 by omega]
      exact ev_val q (ev_eq e rfl)
    · have q : slices_Insert_int_int.f o x.f1 [x.f2] = some (errStep o x) := by
        unfold slices_Insert_int_int.f errStep
        rw [if_pos ⟨⟨h3, by omega⟩, rfl, by omega⟩, if_neg k1, if_neg k2]
      exact ev_val q (ev_eq e rfl)
theorem implErrBy_ev (p : List Int) (l : List S95) (hp : p.length ≤ 1048576) (hl : l.length ≤ 1048576) : Ev (fun k => impl_ErrBy.f k p l) (errM p l) := by
  have hc : impl_clone_int.f p = some p := by unfold impl_clone_int.f; simp; omega
  simp only [impl_ErrBy.f, hc, Option.bind_some, errM]
  refine Ev.bind (implAreSlips_ev l _ hl) (ev_ite (fun h => ?_) (fun h => ?_))
  · rw [if_pos h]
    obtain ⟨h1, h2, h3⟩ := slips_head h
    exact implErr_l0 l [] p (by simpa using hl) (by omega) h1 h2 h3
  · rw [if_neg h]; exact Ev.now _

/-! ### draws -/
/-- Where a reader of draws stands: inside its bytes. -/
def Rd (b : List Int) (i : Int) : Prop := 0 ≤ i ∧ i ≤ (b.length : Int) ∧ b.length ≤ 1048576
theorem and255 (x : Int) : 0 ≤ Go.bits .and .i64 x 255 ∧ Go.bits .and .i64 x 255 ≤ 255 := by
  have h : (BitVec.ofInt IntKind.i64.bits x &&& BitVec.ofInt IntKind.i64.bits 255).toNat ≤ 255 := by
    rw [BitVec.toNat_and]; exact Nat.le_trans Nat.and_le_right (by decide)
  show 0 ≤ IntKind.i64.wrap ((BitVec.ofInt IntKind.i64.bits x &&& BitVec.ofInt IntKind.i64.bits 255).toNat : Int) ∧ IntKind.i64.wrap ((BitVec.ofInt IntKind.i64.bits x &&& BitVec.ofInt IntKind.i64.bits 255).toNat : Int) ≤ 255
  generalize (BitVec.ofInt IntKind.i64.bits x &&& BitVec.ofInt IntKind.i64.bits 255).toNat = n at h ⊢
  simp only [i64_w]
  rw [wrap_id (by omega) (by omega)]
  omega
theorem new_l0 (b : List Int) (hb : b.length ≤ 1048576) (d : Nat) : ∀ (i : Nat) (h : Int), i + d = b.length → ∃ h', Ev (fun k => spec_l1New.l0 k b h (i : Int)) (b, 0, h') := by
  induction d with
  | zero =>
    intro i h hi
    refine ⟨h, ev_tail ?_⟩
    simp only [spec_l1New.l0]
    exact ev_neg (by omega) (Ev.now _)
  | succ d ih =>
    intro i h hi
    by_cases h4 : (i : Int) < 4000
    · obtain ⟨h', e⟩ := ih (i + 1) (Go.bits .and .i64 (wrap64 ((wrap64 ((wrap64 (h * 137)) + (wrap64 (rd b (i : Int))))) + 11)) 1073741823) (by omega)
      refine ⟨h', ev_tail ?_⟩
      simp only [spec_l1New.l0]
      refine ev_pos (by omega) (ev_pos h4 (ev_pos (by omega) ?_))
      rw [wrap_succ (by omega)]
      exact e
    · refine ⟨h, ev_tail ?_⟩
      simp only [spec_l1New.l0]
      exact ev_pos (by omega) (ev_neg h4 (Ev.now _))
theorem new_ok (b : List Int) (hb : b.length ≤ 1048576) : ∃ h', Ev (fun k => spec_l1New.f k b) (b, 0, h') := by
  obtain ⟨h', e⟩ := new_l0 b hb b.length 0 (wrap64 (193017 + (b.length : Int))) (by omega)
  exact ⟨h', by simp only [spec_l1New.f]; exact e⟩
theorem Rd.zero {b : List Int} (hb : b.length ≤ 1048576) : Rd b 0 := ⟨by omega, by omega, hb⟩
theorem byte_ok {b : List Int} {i : Int} (h : Rd b i) (s : Int) : ∃ x i' s', spec_l1Byte.f b i s = some (x, i', s') ∧ (0 ≤ x ∧ x ≤ 255) ∧ Rd b i' := by
  obtain ⟨h1, h2, h3⟩ := h
  unfold spec_l1Byte.f
  by_cases c : i < (b.length : Int)
  · rw [if_pos c, if_pos h1]
    exact ⟨_, _, _, rfl, and255 _, by rw [wrap_id (by omega) (by omega)]; exact ⟨by omega, by omega, h3⟩⟩
  · rw [if_neg c]
    exact ⟨_, _, _, rfl, and255 _, h1, h2, h3⟩
theorem below_ok {b : List Int} {i : Int} (h : Rd b i) (s n : Int) : ∃ x i' s', spec_l1Below.f b i s n = some (x, i', s') ∧ (0 ≤ x ∧ (0 < n → x < n) ∧ (n ≤ 0 → x = 0)) ∧ Rd b i' := by
  unfold spec_l1Below.f
  by_cases c0 : n ≤ 0
  · rw [if_pos c0]
    exact ⟨_, _, _, rfl, ⟨by omega, fun z => by omega, fun _ => rfl⟩, h⟩
  · rw [if_neg c0]
    by_cases c1 : n ≤ 256
    · rw [if_pos c1]
      obtain ⟨x, i', s', e, hx, h'⟩ := byte_ok h s
      rw [e]
      simp only [Option.bind_some]
      rw [if_neg (by omega)]
      exact ⟨_, _, _, rfl, ⟨Int.tmod_nonneg _ hx.1, fun _ => Int.tmod_lt_of_pos _ (by omega), fun z => absurd z c0⟩, h'⟩
    · rw [if_neg c1]
      obtain ⟨x, i1, s1, e1, hx, h1⟩ := byte_ok h s
      obtain ⟨y, i2, s2, e2, hy, h2⟩ := byte_ok h1 s1
      obtain ⟨z, i3, s3, e3, hz, h3⟩ := byte_ok h2 s2
      rw [e1]
      simp only [Option.bind_some, e2, e3]
      rw [if_neg (by omega)]
      refine ⟨_, _, _, rfl, ⟨Int.tmod_nonneg _ ?_, fun _ => Int.tmod_lt_of_pos _ (by omega), fun z => absurd z c0⟩, h3⟩
      rw [wrap_id (n := x * 65536) (by omega) (by omega), wrap_id (n := y * 256) (by omega) (by omega), wrap_id (n := x * 65536 + y * 256) (by omega) (by omega), wrap_id (by omega) (by omega)]
      omega

theorem int_ok {b : List Int} {i : Int} (h : Rd b i) (s : Int) (l : List Int) (hl : 0 < l.length) : ∃ v i' s', spec_l1Int.f b i s l = some (v, i', s') ∧ v ∈ l ∧ Rd b i' := by
  obtain ⟨x, i', s', e, ⟨h0, h1, _⟩, h'⟩ := below_ok h s (l.length : Int)
  have h1 := h1 (by omega)
  unfold spec_l1Int.f
  rw [e]
  simp only [Option.bind_some]
  rw [if_pos h0, if_pos h1]
  refine ⟨_, _, _, rfl, ?_, h'⟩
  have hx : x.toNat < l.length := by omega
  have : rd l x = l[x.toNat] := by simp [rd, List.getD, hx]
  rw [this]
  exact List.getElem_mem hx

theorem once_ok {b : List Int} {i : Int} (h : Rd b i) (s n : Int) : ∃ c i' s', spec_l1Once.f b i s n = some (c, i', s') ∧ Rd b i' := by
  obtain ⟨x, i', s', e, _, h'⟩ := below_ok h s n
  unfold spec_l1Once.f
  rw [e]
  exact ⟨_, _, _, rfl, h'⟩

theorem big_ev (l : List Int) : laws_big.f l = some (decide ((l.length : Int) > 1048576)) := rfl

theorem l15Pitches_l0 (d : Nat) : ∀ (out : List Int) {b : List Int} {i : Int} (h : Rd b i) (s : Int), out.length + d ≤ 40 →
    ∃ l i' s', Ev (fun k => spec_l15Pitches.l0 k out (d : Int) b i s) (l, i', s') ∧ l.length = out.length + d ∧ Rd b i' := by
  induction d with
  | zero =>
    intro out b i h s ho
    refine ⟨out, i, s, ev_tail ?_, rfl, h⟩
    simp only [spec_l15Pitches.l0]
    exact ev_neg (by omega) (Ev.now _)
  | succ d ih =>
    intro out b i h s ho
    obtain ⟨x, i1, s1, e1, _, h1⟩ := below_ok h s 6
    obtain ⟨l, i2, s2, e2, hl, h2⟩ := ih (out ++ [wrap64 (60 + x)]) h1 s1 (by simp; omega)
    refine ⟨l, i2, s2, ev_tail ?_, by simp at hl; omega, h2⟩
    simp only [spec_l15Pitches.l0, e1, Option.bind_some]
    refine ev_pos (by omega) (ev_pos (by omega) ?_)
    rw [show wrap64 (((d + 1 : Nat) : Int) - 1) = (d : Int) by rw [wrap_id (by omega) (by omega)]; omega]
    exact e2
theorem l15Pitches_ok {b : List Int} {i : Int} (h : Rd b i) (s n : Int) (h0 : 0 < n) (hn : n ≤ 40) : ∃ l i' s', Ev (fun k => spec_l15Pitches.f k b i s n) (l, i', s') ∧ (l.length : Int) < n ∧ Rd b i' := by
  obtain ⟨x, i1, s1, e1, ⟨x0, x1, _⟩, h1⟩ := below_ok h s n
  have x1 := x1 h0
  obtain ⟨l, i2, s2, e2, hl, h2⟩ := l15Pitches_l0 x.toNat [] h1 s1 (by simp; omega)
  rw [show ((x.toNat : Nat) : Int) = x by omega] at e2
  refine ⟨l, i2, s2, ?_, by simp at hl; omega, h2⟩
  simp only [spec_l15Pitches.f, e1, Option.bind_some]
  exact e2
theorem l15Draw_j1 (n : Int) (out : List S95) (x : Int) (c : Bool) {b : List Int} {i : Int} (h : Rd b i) (s : Int) (ho : out.length ≤ 2000) {P : List S95 → Int → Int → Prop}
    (e : ∀ (o : List S95) {j : Int} (hj : Rd b j) (t : Int), o.length ≤ out.length + 1 → ∃ l i' s', Ev (fun k => spec_l15Draw.l0 k n o (wrap64 (x - 1)) b j t) (l, i', s') ∧ P l i' s') :
    ∃ l i' s', Ev (fun k => spec_l15Draw.j1 k n out x c b i s) (l, i', s') ∧ P l i' s' := by
  cases c with
  | true =>
    obtain ⟨l, i', s', e1, hp⟩ := e out h s (by omega)
    refine ⟨l, i', s', ev_tail ?_, hp⟩
    simp only [spec_l15Draw.j1]
    exact ev_pos (by trivial) e1
  | false =>
    obtain ⟨r, i1, s1, e1, _, h1⟩ := below_ok h s 3
    obtain ⟨p, i2, s2, e2, _, h2⟩ := below_ok h1 s1 6
    by_cases hx : x = n
    · obtain ⟨l, i', s', e3, hp⟩ := e (out ++ [⟨3, x, wrap64 (60 + p)⟩]) h2 s2 (by simp)
      refine ⟨l, i', s', ev_tail ?_, hp⟩
      simp only [spec_l15Draw.j1, e1, e2, Option.bind_some]
      exact ev_neg (by simp) (ev_pos hx (ev_neg (by omega) (ev_pos (by omega) e3)))
    · by_cases h2' : wrap64 (1 + r) = 2
      · obtain ⟨l, i', s', e3, hp⟩ := e (out ++ [⟨wrap64 (1 + r), x, 0⟩]) h2 s2 (by simp)
        refine ⟨l, i', s', ev_tail ?_, hp⟩
        simp only [spec_l15Draw.j1, e1, e2, Option.bind_some]
        exact ev_neg (by simp) (ev_neg hx (ev_pos h2' (ev_pos (by omega) e3)))
      · obtain ⟨l, i', s', e3, hp⟩ := e (out ++ [⟨wrap64 (1 + r), x, wrap64 (60 + p)⟩]) h2 s2 (by simp)
        refine ⟨l, i', s', ev_tail ?_, hp⟩
        simp only [spec_l15Draw.j1, e1, e2, Option.bind_some]
        exact ev_neg (by simp) (ev_neg hx (ev_neg h2' (ev_pos (by omega) e3)))
theorem l15Draw_l0 (n : Int) (d : Nat) : ∀ (out : List S95) {b : List Int} {i : Int} (h : Rd b i) (s : Int), out.length + d ≤ 1000 →
    ∃ l i' s', Ev (fun k => spec_l15Draw.l0 k n out ((d : Int) - 1) b i s) (l, i', s') ∧ l.length ≤ 1000 ∧ Rd b i' := by
  induction d with
  | zero =>
    intro out b i h s ho
    refine ⟨out, i, s, ev_tail ?_, by omega, h⟩
    simp only [spec_l15Draw.l0]
    exact ev_neg (by omega) (Ev.now _)
  | succ d ih =>
    intro out b i h s ho
    have e : ∀ (o : List S95) {j : Int} (hj : Rd b j) (t : Int), o.length ≤ out.length + 1 → ∃ l i' s', Ev (fun k => spec_l15Draw.l0 k n o (wrap64 ((((d + 1 : Nat) : Int) - 1) - 1)) b j t) (l, i', s') ∧ (l.length ≤ 1000 ∧ Rd b i') := by
      intro o j hj t hl
      rw [show wrap64 ((((d + 1 : Nat) : Int) - 1) - 1) = (d : Int) - 1 by rw [wrap_id (by omega) (by omega)]; omega]
      exact ih o hj t (by omega)
    obtain ⟨c, i1, s1, e1, h1⟩ := once_ok h s 4
    cases c with
    | true =>
      obtain ⟨l, i2, s2, e2, hl⟩ := l15Draw_j1 n out (((d + 1 : Nat) : Int) - 1) (decide ((out.length : Int) ≥ 8)) h1 s1 (by omega) (P := fun l i' _ => l.length ≤ 1000 ∧ Rd b i') e
      refine ⟨l, i2, s2, ev_tail ?_, hl⟩
      simp only [spec_l15Draw.l0, e1, Option.bind_some]
      exact ev_pos (by omega) (ev_pos (by trivial) e2)
    | false =>
      obtain ⟨l, i2, s2, e2, hl⟩ := l15Draw_j1 n out (((d + 1 : Nat) : Int) - 1) true h1 s1 (by omega) (P := fun l i' _ => l.length ≤ 1000 ∧ Rd b i') e
      refine ⟨l, i2, s2, ev_tail ?_, hl⟩
      simp only [spec_l15Draw.l0, e1, Option.bind_some]
      exact ev_pos (by omega) (ev_neg (by simp) e2)
theorem l15Draw_ok {b : List Int} {i : Int} (h : Rd b i) (s n : Int) (h0 : 0 ≤ n) (hn : n ≤ 40) : ∃ l i' s', Ev (fun k => spec_l15Draw.f k b i s n) (l, i', s') ∧ l.length ≤ 1000 ∧ Rd b i' := by
  simp only [spec_l15Draw.f]
  have e := l15Draw_l0 n (n.toNat + 1) [] h s (by simp; omega)
  rw [show (((n.toNat + 1 : Nat) : Int) - 1) = n by omega] at e
  exact e

theorem pair_l0 (p : List Int) {b : List Int} {i : Int} (s : Int) (d : Nat) : ∀ q : List Int, 41 - q.length ≤ d → q.length ≤ 60 → ∃ l, Ev (fun k => spec_l16Pair.l0 k p q b i s) (p, l, i, s) ∧ l.length ≤ 60 := by
  induction d with
  | zero =>
    intro q hq h60
    refine ⟨q, ev_tail ?_, h60⟩
    simp only [spec_l16Pair.l0]
    exact ev_neg (by omega) (Ev.now _)
  | succ d ih =>
    intro q hq h60
    by_cases h : (q.length : Int) < 41
    · obtain ⟨l, e, hl⟩ := ih (q ++ [60]) (by simp; omega) (by simp; omega)
      refine ⟨l, ev_tail ?_, hl⟩
      simp only [spec_l16Pair.l0]
      exact ev_pos h (ev_pos (by omega) e)
    · refine ⟨q, ev_tail ?_, h60⟩
      simp only [spec_l16Pair.l0]
      exact ev_neg h (Ev.now _)
theorem pair_j0 (p q : List Int) (hq : q.length ≤ 60) {b : List Int} {i : Int} (h : Rd b i) (s : Int) : ∃ l i' s', Ev (fun k => spec_l16Pair.j0 k p q b i s) (p, l, i', s') ∧ l.length ≤ 60 ∧ Rd b i' := by
  obtain ⟨c, i1, s1, e1, h1⟩ := once_ok h s 12
  cases c with
  | true =>
    obtain ⟨l, e2, hl⟩ := pair_l0 p (b := b) (i := i1) s1 41 q (by omega) hq
    refine ⟨l, i1, s1, ev_tail ?_, hl, h1⟩
    simp only [spec_l16Pair.j0, e1, Option.bind_some]
    exact ev_pos (by trivial) e2
  | false =>
    refine ⟨q, i1, s1, ev_tail ?_, hq, h1⟩
    simp only [spec_l16Pair.j0, e1, Option.bind_some]
    exact ev_neg (by simp) (Ev.now _)
theorem l16Pair_ok {b : List Int} {i : Int} (h : Rd b i) (s : Int) : ∃ p q i' s', Ev (fun k => spec_l16Pair.f k b i s) (p, q, i', s') ∧ p.length ≤ 60 ∧ q.length ≤ 60 ∧ Rd b i' := by
  obtain ⟨p, i1, s1, e1, hp, h1⟩ := l15Pitches_ok h s 12 (by omega) (by omega)
  obtain ⟨sl, i2, s2, e2, hs, h2⟩ := l15Draw_ok h1 s1 (p.length : Int) (by omega) (by omega)
  have e3 := specErrBy_ev p sl (by omega) (by omega)
  have hlen := errM_length p sl
  obtain ⟨c, i3, s3, e4, h3⟩ := once_ok h2 s2 4
  cases c with
  | true =>
    obtain ⟨q, i4, s4, e5, hq, h4⟩ := l15Pitches_ok h3 s3 12 (by omega) (by omega)
    obtain ⟨l, i5, s5, e6, hl, h5⟩ := pair_j0 p q (by omega) h4 s4
    refine ⟨p, l, i5, s5, ?_, by omega, hl, h5⟩
    simp only [spec_l16Pair.f]
    refine Ev.bind e1 (Ev.bind e2 (Ev.bind e3 ?_))
    simp only [e4, Option.bind_some]
    exact ev_pos (by trivial) (Ev.bind e5 e6)
  | false =>
    obtain ⟨l, i5, s5, e6, hl, h5⟩ := pair_j0 p (errM p sl).1 (by omega) h3 s3
    refine ⟨p, l, i5, s5, ?_, by omega, hl, h5⟩
    simp only [spec_l16Pair.f]
    refine Ev.bind e1 (Ev.bind e2 (Ev.bind e3 ?_))
    simp only [e4, Option.bind_some]
    exact ev_neg (by simp) e6

theorem l15Any_ok {b : List Int} {i : Int} (h : Rd b i) (s n : Int) (h0 : 0 ≤ n) (hn : n ≤ 40) : ∃ l i' s', Ev (fun k => spec_l15Any.f k b i s n) (l, i', s') ∧ l.length ≤ 1000 ∧ Rd b i' := by
  obtain ⟨l, i1, s1, e1, hl, h1⟩ := l15Draw_ok h s n h0 hn
  by_cases c0 : (l.length : Int) = 0
  · refine ⟨l, i1, s1, ?_, hl, h1⟩
    simp only [spec_l15Any.f]
    exact Ev.bind e1 (ev_pos c0 (Ev.now _))
  obtain ⟨x, i2, s2, e2, ⟨x0, x1, _⟩, h2⟩ := below_ok h1 s1 (l.length : Int)
  have x1 := x1 (by omega)
  obtain ⟨y, i3, s3, e3, _, h3⟩ := below_ok h2 s2 9
  by_cases c1 : y = 0
  · obtain ⟨v, i4, s4, e4, _, h4⟩ := int_ok h3 s3 [0, 4, 2] (by decide)
    refine ⟨l.set x.toNat ⟨v, (rd_T95 l x).f1, (rd_T95 l x).f2⟩, i4, s4, ?_, by rw [List.length_set]; exact hl, h4⟩
    simp only [spec_l15Any.f]
    refine Ev.bind e1 (ev_neg c0 ?_)
    simp only [e2, e3, Option.bind_some]
    refine ev_pos c1 ?_
    simp only [e4, Option.bind_some]
    exact ev_pos x0 (ev_pos x1 (Ev.now _))
  by_cases c2 : y = 1
  · obtain ⟨v, i4, s4, e4, _, h4⟩ := int_ok h3 s3 [-1, n, wrap64 (n + 1)] (by simp)
    refine ⟨l.set x.toNat ⟨(rd_T95 l x).f0, v, (rd_T95 l x).f2⟩, i4, s4, ?_, by rw [List.length_set]; exact hl, h4⟩
    simp only [spec_l15Any.f]
    refine Ev.bind e1 (ev_neg c0 ?_)
    simp only [e2, e3, Option.bind_some]
    refine ev_neg c1 (ev_pos c2 ?_)
    simp only [e4, Option.bind_some]
    exact ev_pos x0 (ev_pos x1 (Ev.now _))
  by_cases c3 : y = 2
  · obtain ⟨v, i4, s4, e4, _, h4⟩ := int_ok h3 s3 [-1, 127, 128] (by decide)
    refine ⟨l.set x.toNat ⟨(rd_T95 l x).f0, (rd_T95 l x).f1, v⟩, i4, s4, ?_, by rw [List.length_set]; exact hl, h4⟩
    simp only [spec_l15Any.f]
    refine Ev.bind e1 (ev_neg c0 ?_)
    simp only [e2, e3, Option.bind_some]
    refine ev_neg c1 (ev_neg c2 (ev_pos c3 ?_))
    simp only [e4, Option.bind_some]
    exact ev_pos x0 (ev_pos x1 (Ev.now _))
  · refine ⟨l, i3, s3, ?_, hl, h3⟩
    simp only [spec_l15Any.f]
    refine Ev.bind e1 (ev_neg c0 ?_)
    simp only [e2, e3, Option.bind_some]
    exact ev_neg c1 (ev_neg c2 (ev_neg c3 (Ev.now _)))
theorem drawErr_ok (b : List Int) (hb : b.length ≤ 1048576) : ∃ p l, Ev (fun k => spec_DrawErrBy.f k b) (p, l) ∧ p.length ≤ 14 ∧ l.length ≤ 1000 := by
  obtain ⟨s0, e0⟩ := new_ok b hb
  obtain ⟨p, i1, s1, e1, hp, h1⟩ := l15Pitches_ok (Rd.zero hb) s0 14 (by omega) (by omega)
  obtain ⟨l, i2, s2, e2, hl, h2⟩ := l15Any_ok h1 s1 (p.length : Int) (by omega) (by omega)
  refine ⟨p, l, ?_, by omega, hl⟩
  simp only [spec_DrawErrBy.f]
  exact Ev.bind e0 (Ev.bind e1 (Ev.bind e2 (Ev.now _)))

/-! ### the law's own parts -/
theorem alignM_symm (a b : List Int) : alignM b a = alignM a b := by
  unfold alignM
  rw [ed_symm]
  by_cases h : a.length ≤ 40 ∧ b.length ≤ 40
  · rw [if_pos h, if_pos ⟨h.2, h.1⟩]
  · rw [if_neg h, if_neg (fun z => h ⟨z.2, z.1⟩)]
def RR (a b : List Int) (acc : List S99) (i j c : Nat) : Prop := ∀ m : Nat, pcGo a b acc i j m = ((m + c : Nat) : Int)
theorem back_cost (a b : List Int) (n : Nat) : ∀ (i j c : Nat) (acc : List S99), i ≤ a.length → j ≤ b.length → i + j ≤ n → RR a b acc i j c → RR a b (back a b n i j acc) 0 0 (c + ed a b i j) := by
  induction n with
  | zero =>
    intro i j c acc hi hj hn h
    obtain rfl : i = 0 := by omega
    obtain rfl : j = 0 := by omega
    rw [ed_zero]
    exact h
  | succ n ih =>
    intro i j c acc hi hj hn h
    simp only [back]
    by_cases h0 : i = 0 ∧ j = 0
    · rw [if_pos h0]
      obtain ⟨rfl, rfl⟩ := h0
      rw [ed_zero]
      exact h
    rw [if_neg h0]
    by_cases h1 : 0 < i ∧ 0 < j ∧ ed a b i j = ed a b (i - 1) (j - 1) + unl a b (i - 1) (j - 1)
    · rw [if_pos h1]
      obtain ⟨p1, p2, p3⟩ := h1
      have e := ih (i - 1) (j - 1) (c + unl a b (i - 1) (j - 1)) (⟨((i - 1 : Nat) : Int), ((j - 1 : Nat) : Int)⟩ :: acc) (by omega) (by omega) (by omega) (fun m => by
        simp only [pcGo]
        rw [if_pos ⟨trivial, trivial, by omega, by omega⟩, show i - 1 + 1 = i by omega, show j - 1 + 1 = j by omega, h]
        unfold unl
        split <;> omega)
      rw [p3, show c + (ed a b (i - 1) (j - 1) + unl a b (i - 1) (j - 1)) = c + unl a b (i - 1) (j - 1) + ed a b (i - 1) (j - 1) by omega]
      exact e
    rw [if_neg h1]
    by_cases h2 : 0 < i ∧ ed a b i j = ed a b (i - 1) j + 1
    · rw [if_pos h2]
      obtain ⟨p1, p3⟩ := h2
      have e := ih (i - 1) j (c + 1) (⟨((i - 1 : Nat) : Int), -1⟩ :: acc) (by omega) (by omega) (by omega) (fun m => by
        simp only [pcGo]
        rw [if_neg (by omega), if_pos ⟨trivial, trivial, by omega⟩, show i - 1 + 1 = i by omega, h]
        omega)
      rw [p3, show c + (ed a b (i - 1) j + 1) = c + 1 + ed a b (i - 1) j by omega]
      exact e
    rw [if_neg h2]
    have h3 : 0 < j ∧ ed a b i j = ed a b i (j - 1) + 1 := by
      cases i with
      | zero => rw [ed_zero, ed_zero]; omega
      | succ i =>
        cases j with
        | zero => rw [ed_left, Nat.add_sub_cancel, ed_left] at h2; omega
        | succ j =>
          simp only [Nat.add_sub_cancel] at h1 h2 ⊢
          have := ed_succ a b i j
          omega
    obtain ⟨p1, p3⟩ := h3
    have e := ih i (j - 1) (c + 1) (⟨-1, ((j - 1 : Nat) : Int)⟩ :: acc) (by omega) (by omega) (by omega) (fun m => by
      simp only [pcGo]
      rw [if_neg (by omega), if_neg (by omega), if_pos ⟨trivial, trivial, by omega⟩, show j - 1 + 1 = j by omega, h]
      omega)
    rw [p3, show c + (ed a b i (j - 1) + 1) = c + 1 + ed a b i (j - 1) by omega]
    exact e
theorem pathM_of (a b : List Int) (ha : a.length ≤ 40) (hb : b.length ≤ 40) : pathM a b (pathOf a b) = ((ed a b a.length b.length : Nat) : Int) := by
  unfold pathM pathOf
  rw [if_pos ⟨ha, hb⟩]
  have e := back_cost a b (a.length + b.length) a.length b.length 0 [] (Nat.le_refl _) (Nat.le_refl _) (Nat.le_refl _) (fun m => by simp [pcGo]) 0
  rw [e]
  simp
theorem pcGo_low (a b : List Int) (l : List S99) : ∀ i j m : Nat, pcGo a b l i j m = -1 ∨ (0 ≤ pcGo a b l i j m ∧ ((ed a b a.length b.length : Nat) : Int) + (m : Int) ≤ pcGo a b l i j m + ((ed a b i j : Nat) : Int)) := by
  induction l with
  | nil =>
    intro i j m
    simp only [pcGo]
    by_cases h : i = a.length ∧ j = b.length
    · obtain ⟨rfl, rfl⟩ := h
      rw [if_pos ⟨rfl, rfl⟩]
      right; omega
    · rw [if_neg h]; left; rfl
  | cons x t ih =>
    intro i j m
    simp only [pcGo]
    have u1 := ed_up1 a b i j
    have u2 := ed_up2 a b i j
    have u3 := ed_up3 a b i j
    by_cases h1 : x.f0 = (i : Int) ∧ x.f1 = (j : Int) ∧ i < a.length ∧ j < b.length
    · rw [if_pos h1]
      rcases ih (i + 1) (j + 1) (if a.getD i 0 = b.getD j 0 then m else m + 1) with h | ⟨h0, h⟩
      · left; exact h
      · right
        refine ⟨h0, ?_⟩
        unfold unl at u3
        split at h <;> rename_i hc
        · rw [if_pos hc] at u3; rw [if_pos hc] at *; omega
        · rw [if_neg hc] at u3; rw [if_neg hc] at *; omega
    rw [if_neg h1]
    by_cases h2 : x.f0 = (i : Int) ∧ x.f1 = -1 ∧ i < a.length
    · rw [if_pos h2]
      rcases ih (i + 1) j (m + 1) with h | ⟨h0, h⟩
      · left; exact h
      · right; exact ⟨h0, by omega⟩
    rw [if_neg h2]
    by_cases h3 : x.f0 = -1 ∧ x.f1 = (j : Int) ∧ j < b.length
    · rw [if_pos h3]
      rcases ih i (j + 1) (m + 1) with h | ⟨h0, h⟩
      · left; exact h
      · right; exact ⟨h0, by omega⟩
    rw [if_neg h3]
    left; rfl
theorem matched_lc (a b : List Int) (l : List S99) : ∀ i j m : Nat, 0 ≤ pcGo a b l i j m → (l.filterMap (mtG a b)).length + lc a b i j ≤ lc a b a.length b.length := by
  induction l with
  | nil =>
    intro i j m h
    simp only [pcGo] at h
    by_cases h0 : i = a.length ∧ j = b.length
    · obtain ⟨rfl, rfl⟩ := h0
      simp
    · rw [if_neg h0] at h; omega
  | cons x t ih =>
    intro i j m h
    simp only [pcGo] at h
    obtain ⟨s1, _, s3, _⟩ := lc_steps a b (i + j) i j rfl
    by_cases h1 : x.f0 = (i : Int) ∧ x.f1 = (j : Int) ∧ i < a.length ∧ j < b.length
    · rw [if_pos h1] at h
      have e := ih (i + 1) (j + 1) _ h
      obtain ⟨p0, p1, _, _⟩ := h1
      obtain ⟨t1, _, t3, _⟩ := lc_steps a b (i + 1 + j) (i + 1) j rfl
      rw [List.filterMap_cons]
      have hs := lc_succ a b i j
      by_cases hc : a.getD i 0 = b.getD j 0
      · have hm : mtG a b x = some x := by
          unfold mtG
          rw [if_pos ⟨by omega, by omega, by rw [p0, p1, rd_nat, rd_nat]; exact hc⟩]
        rw [if_pos hc] at hs
        rw [hm]
        simp only [List.length_cons]
        omega
      · have hm : mtG a b x = none := by
          unfold mtG
          rw [if_neg (fun z => hc (by have := z.2.2; rw [p0, p1, rd_nat, rd_nat] at this; exact this))]
        rw [hm]
        simp only
        omega
    rw [if_neg h1] at h
    by_cases h2 : x.f0 = (i : Int) ∧ x.f1 = -1 ∧ i < a.length
    · rw [if_pos h2] at h
      have e := ih (i + 1) j _ h
      have hm : mtG a b x = none := by unfold mtG; rw [if_neg (by omega)]
      rw [List.filterMap_cons, hm]
      simp only
      omega
    rw [if_neg h2] at h
    by_cases h3 : x.f0 = -1 ∧ x.f1 = (j : Int) ∧ j < b.length
    · rw [if_pos h3] at h
      have e := ih i (j + 1) _ h
      have hm : mtG a b x = none := by unfold mtG; rw [if_neg (by omega)]
      rw [List.filterMap_cons, hm]
      simp only
      omega
    rw [if_neg h3] at h
    omega
/-- sameInts of any two rows. -/
theorem same_l0 (d : Nat) (a b : List Int) (ha : a.length ≤ 1048576) (hb : a.length = b.length) : ∀ i : Nat, i + d = a.length → (∀ t, t < i → a.getD t 0 = b.getD t 0) → Ev (fun k => laws_sameInts.l0 k a b (i : Int)) (decide (a = b)) := by
  induction d with
  | zero =>
    intro i hi h
    refine ev_tail ?_
    simp only [laws_sameInts.l0]
    refine ev_neg (by omega) (ev_eq (Ev.now _) ?_)
    refine (decide_eq_true ?_).symm
    apply List.ext_getElem hb
    intro j h1 h2
    have := h j (by omega)
    rw [List.getD_eq_getElem?_getD, List.getD_eq_getElem?_getD, List.getElem?_eq_getElem h1, List.getElem?_eq_getElem h2] at this
    exact this
  | succ d ih =>
    intro i hi h
    refine ev_tail ?_
    simp only [laws_sameInts.l0]
    refine ev_pos (by omega) (ev_pos (by omega) (ev_pos (by omega) (ev_ite (fun hc => ?_) (fun hc => ev_eq (Ev.now _) ?_))))
    · rw [wrap_succ (by omega)]
      refine ih (i + 1) (by omega) (fun t ht => ?_)
      by_cases e : t = i
      · subst e; rw [rd_nat, rd_nat] at hc; exact hc
      · exact h t (by omega)
    · refine (decide_eq_false (fun e => hc ?_)).symm
      rw [e]
theorem same_ev (a b : List Int) (ha : a.length ≤ 1048576) (hb : b.length ≤ 1048576) : Ev (fun k => laws_sameInts.f k a b) (decide (a = b)) := by
  simp only [laws_sameInts.f]
  refine ev_ite (fun h => same_l0 a.length a b ha (by omega) 0 (by omega) (fun t ht => by omega)) (fun h => ev_eq (Ev.now _) ?_)
  exact (decide_eq_false (fun e => h (by rw [e]))).symm

/-! ### slips that change something, and the distance -/
def realB (p : List Int) (x : S95) : Nat := if x.f0 = 1 ∧ rd p x.f1 = x.f2 then 0 else 1
def realN (p : List Int) (l : List S95) : Nat := (l.map (realB p)).sum
theorem count_l0 (p : List Int) (suf : List S95) : ∀ (pre : List S95) (c : Nat), (pre ++ suf).length ≤ 1048576 → c ≤ pre.length → (∀ x ∈ suf, slP (p.length : Int) x) →
    Ev (fun k => impl_CountReal.l0 k p (c : Int) (pre ++ suf) ((pre ++ suf).length : Int) (pre.length : Int)) ((c + realN p suf : Nat) : Int) := by
  induction suf with
  | nil =>
    intro pre c h hc hs
    refine ev_tail ?_
    simp only [impl_CountReal.l0]
    exact ev_neg (by simp) (ev_eq (Ev.now _) (by simp [realN]))
  | cons x t ih =>
    intro pre c h hc hs
    have hx := hs x (by simp)
    have hr : rd_T95 (pre ++ x :: t) ((pre.length : Nat) : Int) = x := getD_mid pre x t _
    have hlen : pre.length + (t.length + 1) ≤ 1048576 := by simpa using h
    have key : ∀ d : Nat, d ≤ 1 → realB p x = d → Ev (fun k => impl_CountReal.l0 k p ((c + d : Nat) : Int) (pre ++ x :: t) ((pre ++ x :: t).length : Int) (wrap64 ((pre.length : Int) + 1))) ((c + realN p (x :: t) : Nat) : Int) := by
      intro d hd hb
      have e := ih (pre ++ [x]) (c + d) (by simpa using h) (by simp; omega) (fun y hy => hs y (by simp [hy]))
      rw [wrap_succ (by omega), snoc_cons pre x t, ← length_snoc pre x]
      refine ev_eq e ?_
      unfold realN
      simp only [List.map_cons, List.sum_cons]
      omega
    have k0 := key 0 (by omega)
    have k1 := key 1 (by omega)
    rw [Nat.add_zero] at k0
    have wc : wrap64 ((c : Int) + 1) = ((c + 1 : Nat) : Int) := wrap_succ (by omega)
    refine ev_tail ?_
    simp only [impl_CountReal.l0, hr, wc]
    refine ev_pos (by simp; omega) (ev_pos (by omega) (ev_pos (by simp; omega) (ev_ite (fun h1 => ?_) (fun h1 => k1 ?_))))
    · obtain ⟨_, _, a3, a4, _⟩ := hx
      rw [if_neg (by omega)] at a4
      refine ev_pos a3 (ev_pos (by omega) (ev_ite (fun h2 => k0 ?_) (fun h2 => k1 ?_)))
      · unfold realB; rw [if_pos ⟨h1, h2⟩]
      · unfold realB; rw [if_neg (fun z => h2 z.2)]
    · unfold realB; rw [if_neg (fun z => h1 z.1)]
def countM (p : List Int) (l : List S95) : Int := if slipsM l (p.length : Int) = true then ((realN p l : Nat) : Int) else 0
theorem implCountReal_ev (p : List Int) (l : List S95) (hl : l.length ≤ 1048576) : Ev (fun k => impl_CountReal.f k p l) (countM p l) := by
  simp only [impl_CountReal.f, countM]
  refine Ev.bind (implAreSlips_ev l _ hl) (ev_ite (fun h => ?_) (fun h => ?_))
  · rw [if_pos h]
    have e := count_l0 p l [] 0 (by simpa using hl) (by simp) (slips_facts h).2.2.2.1
    simp only [List.nil_append, List.length_nil, Nat.zero_add] at e
    exact e
  · rw [if_neg h]; exact Ev.now _
theorem take_split (p : List Int) (i m : Nat) (h : i ≤ m) : p.take m = p.take i ++ (p.drop i).take (m - i) := by
  rw [← List.take_add]
  congr 1
  omega
theorem drop_split (p : List Int) (i m : Nat) (h : i ≤ m) : p.drop i = (p.drop i).take (m - i) ++ p.drop m := by
  conv => lhs; rw [← List.take_append_drop (m - i) (p.drop i)]
  rw [List.drop_drop, show i + (m - i) = m by omega]
theorem drop_cons' (p : List Int) (i : Nat) (h : i < p.length) : p.drop i = rd p (i : Int) :: p.drop (i + 1) := by
  rw [List.drop_eq_getElem_cons h, rd_nat, List.getD_eq_getElem?_getD, List.getElem?_eq_getElem h, Option.getD_some]
/-- Slips from the end to the front: no more is between the two rows than the slips that change something. -/
theorem err_sd (p : List Int) (l : List S95) : ∀ (m : Nat) (rest : List Int) (c : Nat), m ≤ p.length → sd (p.drop m) rest ≤ c → (∀ y ∈ l, 1 ≤ y.f0 ∧ y.f0 ≤ 3 ∧ 0 ≤ y.f1) → l.Pairwise (fun a b => b.f1 < a.f1) →
    (∀ y, l.head? = some y → y.f1 < (m : Int) ∨ (y.f0 = 3 ∧ y.f1 ≤ (m : Int))) → sd p (l.foldl errStep (p.take m ++ rest)) ≤ c + realN p l := by
  induction l with
  | nil =>
    intro m rest c hm hs _ _ _
    simp only [List.foldl_nil, realN, List.map_nil, List.sum_nil, Nat.add_zero]
    have := sd_app (p.take m) (p.drop m) rest
    rw [List.take_append_drop] at this
    omega
  | cons x t ih =>
    intro m rest c hm hs hk hp hh
    obtain ⟨k1, k2, k3⟩ := hk x (by simp)
    have hx := hh x rfl
    have hi : x.f1.toNat ≤ m := by omega
    have tl : (p.take x.f1.toNat).length = x.f1.toNat := by rw [List.length_take]; omega
    have ts := take_split p x.f1.toNat m hi
    have ds := drop_split p x.f1.toNat m hi
    have next : ∀ (rest' : List Int), errStep (p.take m ++ rest) x = p.take x.f1.toNat ++ rest' → sd (p.drop x.f1.toNat) rest' ≤ c + realB p x → sd p ((x :: t).foldl errStep (p.take m ++ rest)) ≤ c + realN p (x :: t) := by
      intro rest' e hs'
      have r := ih x.f1.toNat rest' (c + realB p x) (by omega) hs' (fun y hy => hk y (by simp [hy])) (List.pairwise_cons.1 hp).2 (fun y hy => by
        have := (List.pairwise_cons.1 hp).1 y (List.mem_of_mem_head? hy)
        left; omega)
      rw [List.foldl_cons, e]
      unfold realN at r ⊢
      simp only [List.map_cons, List.sum_cons]
      omega
    have mid : ∀ (q : List Int), sd (q ++ p.drop m) (q ++ rest) ≤ c := fun q => by have := sd_app q (p.drop m) rest; omega
    by_cases c3 : x.f0 = 3
    · refine next (x.f2 :: ((p.drop x.f1.toNat).take (m - x.f1.toNat) ++ rest)) ?_ ?_
      · unfold errStep
        rw [if_neg (by omega), if_neg (by omega), ts, List.append_assoc (p.take x.f1.toNat), List.take_left' tl, List.drop_left' tl]
        simp
      · have a := sd_ins x.f2 (p.drop x.f1.toNat) ((p.drop x.f1.toNat).take (m - x.f1.toNat) ++ rest)
        have b := mid ((p.drop x.f1.toNat).take (m - x.f1.toNat))
        rw [← ds] at b
        have : realB p x = 1 := by unfold realB; rw [if_neg (by omega)]
        omega
    · have hlt : x.f1.toNat < m := by omega
      have hpl : x.f1.toNat < p.length := by omega
      have dc := drop_cons' p x.f1.toNat hpl
      have dt : (p.drop x.f1.toNat).take (m - x.f1.toNat) = rd p x.f1 :: (p.drop (x.f1.toNat + 1)).take (m - (x.f1.toNat + 1)) := by
        rw [dc, show m - x.f1.toNat = (m - (x.f1.toNat + 1)) + 1 by omega, List.take_succ_cons]
        rw [show ((x.f1.toNat : Nat) : Int) = x.f1 by omega]
      have ds1 := drop_split p (x.f1.toNat + 1) m (by omega)
      have b := mid ((p.drop (x.f1.toNat + 1)).take (m - (x.f1.toNat + 1)))
      rw [← ds1] at b
      rw [show ((x.f1.toNat : Nat) : Int) = x.f1 by omega] at dc
      by_cases c1 : x.f0 = 1
      · refine next (x.f2 :: ((p.drop (x.f1.toNat + 1)).take (m - (x.f1.toNat + 1)) ++ rest)) ?_ ?_
        · unfold errStep
          rw [if_pos c1, ts, dt, List.append_assoc (p.take x.f1.toNat), List.set_append_right _ _ (by omega), tl, Nat.sub_self, List.cons_append, List.set_cons_zero]
        · rw [dc]
          have a := sd_sub (rd p x.f1) x.f2 (p.drop (x.f1.toNat + 1)) ((p.drop (x.f1.toNat + 1)).take (m - (x.f1.toNat + 1)) ++ rest)
          have hb : realB p x = if rd p x.f1 = x.f2 then 0 else 1 := by
            unfold realB
            by_cases e : rd p x.f1 = x.f2
            · rw [if_pos ⟨c1, e⟩, if_pos e]
            · rw [if_neg (fun z => e z.2), if_neg e]
          omega
      · refine next ((p.drop (x.f1.toNat + 1)).take (m - (x.f1.toNat + 1)) ++ rest) ?_ ?_
        · unfold errStep
          rw [if_neg c1, if_pos (by omega), ts, dt, List.append_assoc (p.take x.f1.toNat), List.take_left' tl]
          rw [show x.f1.toNat + 1 = (p.take x.f1.toNat).length + 1 by omega, List.drop_append]
          simp [tl]
        · rw [dc]
          have a := sd_del (rd p x.f1) (p.drop (x.f1.toNat + 1)) ((p.drop (x.f1.toNat + 1)).take (m - (x.f1.toNat + 1)) ++ rest)
          have : realB p x = 1 := by unfold realB; rw [if_neg (by omega)]
          omega
theorem errM_cost (p : List Int) (l : List S95) (h : (errM p l).2 = true) : alignM p (errM p l).1 ≤ countM p l := by
  by_cases hs : slipsM l (p.length : Int) = true
  · have he : (errM p l).1 = l.foldl errStep p := by unfold errM; rw [if_pos hs]
    have hc : countM p l = ((realN p l : Nat) : Int) := by unfold countM; rw [if_pos hs]
    rw [he, hc]
    unfold alignM
    by_cases hf : p.length ≤ 40 ∧ (l.foldl errStep p).length ≤ 40
    · rw [if_pos hf]
      obtain ⟨h1, h2, h3⟩ := slips_head hs
      have r := err_sd p l p.length [] 0 (Nat.le_refl _) (by rw [List.drop_length, sd_nil]; simp) h1 h2 (fun y hy => (h3 y hy).2)
      rw [List.take_length, List.append_nil, Nat.zero_add] at r
      have := ed_le_sd p (l.foldl errStep p)
      omega
    · rw [if_neg hf]; omega
  · unfold errM at h
    rw [if_neg hs] at h
    simp at h

theorem drawAlign_ok (b : List Int) (hb : b.length ≤ 1048576) : ∃ p q, Ev (fun k => spec_DrawAlignCost.f k b) (p, q) ∧ p.length ≤ 60 ∧ q.length ≤ 60 := by
  obtain ⟨s0, e0⟩ := new_ok b hb
  obtain ⟨p, q, i1, s1, e1, hp, hq, h1⟩ := l16Pair_ok (Rd.zero hb) s0
  refine ⟨p, q, ?_, hp, hq⟩
  simp only [spec_DrawAlignCost.f]
  exact Ev.bind e0 (Ev.bind e1 (Ev.now _))
theorem drawPath_ok (b : List Int) (hb : b.length ≤ 1048576) : ∃ p q l, Ev (fun k => spec_DrawPathCost.f k b) (p, q, l) ∧ p.length ≤ 60 ∧ q.length ≤ 60 ∧ l.length ≤ 80 := by
  obtain ⟨s0, e0⟩ := new_ok b hb
  obtain ⟨p, q, i1, s1, e1, hp, hq, h1⟩ := l16Pair_ok (Rd.zero hb) s0
  have e2 := specAlignPath_ev p q
  have hl := pathOf_length p q
  generalize pathOf p q = l at e2 hl
  by_cases c0 : (l.length : Int) > 0
  · obtain ⟨x, i2, s2, e3, ⟨x0, x1, _⟩, h2⟩ := below_ok h1 s1 (l.length : Int)
    have x1 := x1 (by omega)
    obtain ⟨y, i3, s3, e4, _, h3⟩ := below_ok h2 s2 8
    by_cases c1 : y = 0
    · obtain ⟨v, i4, s4, e5, _, h4⟩ := int_ok h3 s3 [-1, 0, 5] (by decide)
      refine ⟨p, q, l.set x.toNat ⟨v, (rd_T99 l x).f1⟩, ?_, hp, hq, by rw [List.length_set]; exact hl⟩
      simp only [spec_DrawPathCost.f]
      refine Ev.bind e0 (Ev.bind e1 (Ev.bind e2 (ev_pos c0 ?_)))
      simp only [e3, e4, Option.bind_some]
      refine ev_pos c1 ?_
      simp only [e5, Option.bind_some]
      exact ev_pos x0 (ev_pos x1 (Ev.now _))
    by_cases c2 : y = 1
    · obtain ⟨v, i4, s4, e5, _, h4⟩ := int_ok h3 s3 [-1, 0, 9223372036854775807] (by decide)
      refine ⟨p, q, l.set x.toNat ⟨(rd_T99 l x).f0, v⟩, ?_, hp, hq, by rw [List.length_set]; exact hl⟩
      simp only [spec_DrawPathCost.f]
      refine Ev.bind e0 (Ev.bind e1 (Ev.bind e2 (ev_pos c0 ?_)))
      simp only [e3, e4, Option.bind_some]
      refine ev_neg c1 (ev_pos c2 ?_)
      simp only [e5, Option.bind_some]
      exact ev_pos x0 (ev_pos x1 (Ev.now _))
    by_cases c3 : y = 2
    · refine ⟨p, q, l.drop (1 : Int).toNat, ?_, hp, hq, by rw [List.length_drop]; omega⟩
      simp only [spec_DrawPathCost.f]
      refine Ev.bind e0 (Ev.bind e1 (Ev.bind e2 (ev_pos c0 ?_)))
      simp only [e3, e4, Option.bind_some]
      exact ev_neg c1 (ev_neg c2 (ev_pos c3 (ev_pos (by omega) (Ev.now _))))
    · refine ⟨p, q, l, ?_, hp, hq, hl⟩
      simp only [spec_DrawPathCost.f]
      refine Ev.bind e0 (Ev.bind e1 (Ev.bind e2 (ev_pos c0 ?_)))
      simp only [e3, e4, Option.bind_some]
      exact ev_neg c1 (ev_neg c2 (ev_neg c3 (Ev.now _)))
  · refine ⟨p, q, l, ?_, hp, hq, hl⟩
    simp only [spec_DrawPathCost.f]
    exact Ev.bind e0 (Ev.bind e1 (Ev.bind e2 (ev_neg c0 (Ev.now _))))
theorem al_j1 (b : List Int) (hb : b.length ≤ 1048576) (c : Bool) (hc : c = false) : Ev (fun k => laws_FnAligned.j1 k b c) true := by
  subst hc
  obtain ⟨p, q, l, e, hp, hq, hl⟩ := drawPath_ok b hb
  refine ev_tail ?_
  simp only [laws_FnAligned.j1]
  refine ev_neg (by simp) (Ev.bind e (Ev.bind (implPathCost_ev p q l (by omega) (by omega) (by omega)) (ev_ite (fun _ => Ev.now _) (fun hn => Ev.bind (implAlignCost_ev p q) (ev_eq (Ev.now _) ?_)))))
  refine decide_eq_true ?_
  try dsimp only at hn ⊢
  rcases pcGo_low p q l 0 0 0 with h | ⟨h0, h⟩
  · exact absurd h hn
  · unfold pathM at hn ⊢
    unfold alignM
    rw [ed_zero] at h
    split <;> omega
theorem al_j0 (b : List Int) (hb : b.length ≤ 1048576) (c : Bool) (hc : c = false) : Ev (fun k => laws_FnAligned.j0 k b c) true := by
  subst hc
  obtain ⟨p, l, e, hp, hl⟩ := drawErr_ok b hb
  refine ev_tail ?_
  simp only [laws_FnAligned.j0]
  refine ev_neg (by simp) (Ev.bind e (Ev.bind (implErrBy_ev p l (by omega) (by omega)) (ev_ite (fun h => ?_) (fun _ => al_j1 b hb _ rfl))))
  refine Ev.bind (implAlignCost_ev p _) (Ev.bind (implCountReal_ev p l (by omega)) (al_j1 b hb _ (decide_eq_false ?_)))
  have := errM_cost p l h
  omega
theorem FnAligned : ∀ (l0 : List (Int)), (l0.length ≤ maxLen) → (∀ x ∈ l0, (Lit.int .u8 x).wf = true) → ∃ k, laws_FnAligned.f k l0 = some true := by
  intro b _ _
  refine Ev.rounds ?_
  simp only [laws_FnAligned.f, big_ev, Option.bind_some]
  refine ev_ite (fun _ => Ev.now _) (fun h => ?_)
  simp only [decide_eq_true_eq] at h
  have hb : b.length ≤ 1048576 := by omega
  obtain ⟨p, q, e, hp, hq⟩ := drawAlign_ok b hb
  refine Ev.bind e (Ev.bind (implAlignCost_ev p q) (Ev.bind (implAlignPath_ev p q) (ev_ite (fun hneg => ?_) (fun hneg => ?_))))
  · refine ev_eq (Ev.now _) ?_
    have hf : ¬ (p.length ≤ 40 ∧ q.length ≤ 40) := by
      intro z
      try dsimp only at hneg
      unfold alignM at hneg
      rw [if_pos z] at hneg
      omega
    unfold pathOf
    rw [if_neg hf]
    rfl
  · try dsimp only at hneg
    have hf : p.length ≤ 40 ∧ q.length ≤ 40 := by
      refine Classical.byContradiction fun z => ?_
      unfold alignM at hneg
      rw [if_neg z] at hneg
      omega
    have ha : alignM p q = ((ed p q p.length q.length : Nat) : Int) := by unfold alignM; rw [if_pos hf]
    have hc : commonM p q = ((lc p q p.length q.length : Nat) : Int) := by unfold commonM; rw [if_pos hf]
    have hl := pathOf_length p q
    have hm : ((matchedM p q (pathOf p q)).length : Int) ≤ commonM p q := by
      rw [hc]
      unfold matchedM
      split
      · rename_i h0
        have := matched_lc p q (pathOf p q) 0 0 0 h0
        rw [lc_zero] at this
        omega
      · simp
    have hlc := ed_lc p q p.length q.length
    refine Ev.bind (implMatched_ev p q _ (by omega) (by omega) (by omega)) (Ev.bind (implCommonLength_ev p q) (Ev.bind (implPathCost_ev p q _ (by omega) (by omega) (by omega)) (ev_pos ?_ (Ev.bind (implAlignCost_ev q p) (ev_pos (alignM_symm p q) (Ev.bind (same_ev p q (by omega) (by omega)) (ev_neg ?_ (ev_neg ?_ (al_j0 b hb _ (decide_eq_false ?_))))))))))
    · try dsimp only
      rw [pathM_of p q hf.1 hf.2, ha]
    · rw [ha]
      have hz := ed_zero_iff p q
      by_cases e : p = q
      · have := hz.2 e
        rw [this, decide_eq_true e]; simp
      · have h0 : ed p q p.length q.length ≠ 0 := fun z => e (hz.1 z)
        rw [decide_eq_false e]
        have : (((ed p q p.length q.length : Nat) : Int) == 0) = false := by
          rw [beq_eq_false_iff_ne]; omega
        rw [this]; simp
    · omega
    · rw [hc, ha, wrap_id (n := (p.length : Int) + (q.length : Int)) (by omega) (by omega), wrap_id (n := 2 * ((lc p q p.length q.length : Nat) : Int)) (by omega) (by omega), wrap_id (by omega) (by omega)]
      omega
end Go.Proofs.Ytcgkmcnfhobkiaa.Pure
