/-
A follower keeps the row of distances, and a player who errs no more than so often is where they surely are: the law answers true for whatever bytes it draws from.
Conditions: none.
-/
import Derived.Test.YtcgkmcnfhobkiaaPFnFollowedx17
import Derived.Test.YtcgkmcnfhobkiaaEd
namespace Go.Proofs.Ytcgkmcnfhobkiaa.Pure
open Go.RowKit Go.Proofs.Ytcgkmcnfhobkiaa.PFnFollowed Go.Proofs.YtcgkmcnfhobkiaaW.PrintWords Go.Proofs.YtcgkmcnfhobkiaaW.PrintLast Go.Proofs.YtcgkmcnfhobkiaaW.PrintMore Go.Proofs.Ytcgkmcnfhobkiaa.Base Go.Proofs.Ytcgkmcnfhobkiaa.Ed
set_option linter.unusedVariables false
set_option linter.unusedSimpArgs false

theorem l1In_eq (a b c : Int) : spec_l1In.f a b c = some (decide (b ≤ a ∧ a ≤ c)) := by
  unfold spec_l1In.f
  by_cases h1 : b ≤ a <;> by_cases h2 : a ≤ c <;> simp [h1, h2]
theorem InRange_eq (a b c : Int) : impl_InRange.f a b c = some (decide (b ≤ a ∧ a ≤ c)) := by
  unfold impl_InRange.f
  by_cases h1 : b ≤ a <;> by_cases h2 : a ≤ c <;> simp [h1, h2]

/-! ### more on distances -/
theorem ed_up1 (a b : List Int) (i j : Nat) : ed a b (i + 1) j ≤ ed a b i j + 1 := by
  cases j with
  | zero => rw [ed_left, ed_left]; omega
  | succ j => rw [ed_succ]; omega
theorem ed_up2 (a b : List Int) (i j : Nat) : ed a b i (j + 1) ≤ ed a b i j + 1 := by
  cases i with
  | zero => rw [ed_zero, ed_zero]; omega
  | succ i => rw [ed_succ]; omega
theorem ed_up3 (a b : List Int) (i j : Nat) : ed a b (i + 1) (j + 1) ≤ ed a b i j + unl a b i j := by rw [ed_succ]; omega
/-- The distance depends on what lies ahead of the places alone. -/
theorem ed_take (a b a' b' : List Int) : ∀ i j, (∀ t, t < i → a.getD t 0 = a'.getD t 0) → (∀ t, t < j → b.getD t 0 = b'.getD t 0) → ed a b i j = ed a' b' i j := by
  intro i
  induction i with
  | zero => intro j _ _; rw [ed_zero, ed_zero]
  | succ i ih =>
    intro j
    induction j with
    | zero => intro _ _; rw [ed_left, ed_left]
    | succ j jh =>
      intro h1 h2
      have e1 := ih (j + 1) (fun t ht => h1 t (by omega)) h2
      have e2 := jh h1 (fun t ht => h2 t (by omega))
      have e3 := ih j (fun t ht => h1 t (by omega)) (fun t ht => h2 t (by omega))
      have e4 : unl a b i j = unl a' b' i j := by unfold unl; rw [h1 i (by omega), h2 j (by omega)]
      rw [ed_succ, ed_succ, e1, e2, e3, e4]
/-! ### from the front -/
def sd : List Int → List Int → Nat
  | [], b => b.length
  | x :: a, [] => a.length + 1
  | x :: a, y :: b => min (min (sd a (y :: b) + 1) (sd (x :: a) b + 1)) (sd a b + if x = y then 0 else 1)
termination_by a b => a.length + b.length
theorem sd_nil (b : List Int) : sd [] b = b.length := by rw [sd]
theorem sd_left (a : List Int) : sd a [] = a.length := by cases a <;> rw [sd] <;> rfl
theorem sd_cons (x y : Int) (a b : List Int) : sd (x :: a) (y :: b) = min (min (sd a (y :: b) + 1) (sd (x :: a) b + 1)) (sd a b + if x = y then 0 else 1) := by rw [sd]
theorem sd_del (x : Int) (a b : List Int) : sd (x :: a) b ≤ sd a b + 1 := by
  cases b with
  | nil => rw [sd_left, sd_left, List.length_cons]; omega
  | cons y b => rw [sd_cons]; omega
theorem sd_ins (y : Int) (a b : List Int) : sd a (y :: b) ≤ sd a b + 1 := by
  cases a with
  | nil => rw [sd_nil, sd_nil, List.length_cons]; omega
  | cons x a => rw [sd_cons]; omega
theorem sd_sub (x y : Int) (a b : List Int) : sd (x :: a) (y :: b) ≤ sd a b + if x = y then 0 else 1 := by rw [sd_cons]; omega
theorem sd_app (p a b : List Int) : sd (p ++ a) (p ++ b) ≤ sd a b := by
  induction p with
  | nil => exact Nat.le_refl _
  | cons x p ih =>
    have := sd_sub x x (p ++ a) (p ++ b)
    rw [if_pos rfl] at this
    simp only [List.cons_append]
    omega
theorem ed_sd (a b : List Int) (n : Nat) : ∀ i j, i ≤ a.length → j ≤ b.length → (a.length - i) + (b.length - j) = n → ed a b a.length b.length ≤ ed a b i j + sd (a.drop i) (b.drop j) := by
  induction n using Nat.strongRecOn with
  | _ n ih =>
    intro i j hi hj h
    rcases Nat.lt_or_ge i a.length with hi' | hi'
    · rcases Nat.lt_or_ge j b.length with hj' | hj'
      · have h1 := ih _ (by omega) (i + 1) j (by omega) hj rfl
        have h2 := ih _ (by omega) i (j + 1) hi (by omega) rfl
        have h3 := ih _ (by omega) (i + 1) (j + 1) (by omega) (by omega) rfl
        have u1 := ed_up1 a b i j
        have u2 := ed_up2 a b i j
        have u3 := ed_up3 a b i j
        have e : unl a b i j = if a[i] = b[j] then 0 else 1 := by simp [unl, List.getD, hi', hj']
        rw [e] at u3
        rw [List.drop_eq_getElem_cons hj'] at h1
        rw [List.drop_eq_getElem_cons hi'] at h2
        rw [List.drop_eq_getElem_cons hi', List.drop_eq_getElem_cons hj', sd_cons]
        omega
      · obtain rfl : j = b.length := by omega
        have h1 := ih _ (by omega) (i + 1) b.length (by omega) hj rfl
        have u1 := ed_up1 a b i b.length
        rw [List.drop_length, sd_left, List.length_drop] at h1 ⊢
        omega
    · obtain rfl : i = a.length := by omega
      rcases Nat.lt_or_ge j b.length with hj' | hj'
      · have h2 := ih _ (by omega) a.length (j + 1) hi (by omega) rfl
        have u2 := ed_up2 a b a.length j
        rw [List.drop_length, sd_nil, List.length_drop] at h2 ⊢
        omega
      · obtain rfl : j = b.length := by omega
        omega
theorem ed_le_sd (a b : List Int) : ed a b a.length b.length ≤ sd a b := by
  have h := ed_sd a b _ 0 0 (Nat.zero_le _) (Nat.zero_le _) rfl
  rw [ed_zero] at h
  simpa using h

theorem specMin_eq (a b : Int) : spec_Min.f a b = some (min a b) := by
  unfold spec_Min.f
  split <;> (congr 1; omega)
theorem unlE_eq (a b : List Int) (i j : Nat) : impl_unlike.f (rd a (i : Int)) (rd b (j : Int)) = some ((unl a b i j : Nat) : Int) := by
  unfold impl_unlike.f unl
  rw [rd_nat, rd_nat]
  split <;> simp
def alignM (a b : List Int) : Int := if a.length ≤ 40 ∧ b.length ≤ 40 then ((ed a b a.length b.length : Nat) : Int) else -1
/-- A row of the costs; the table. -/
def rowE (a b : List Int) (i n : Nat) : List Int := (List.range n).map fun j => ((ed a b i j : Nat) : Int)
def rowsE (a b : List Int) (n : Nat) : List (List Int) := (List.range n).map fun i => rowE a b i (b.length + 1)
theorem rowsE_length (a b : List Int) (n : Nat) : (rowsE a b n).length = n := by simp [rowsE]
theorem rowE_length (a b : List Int) (i n : Nat) : (rowE a b i n).length = n := by simp [rowE]
theorem rowsE_at (a b : List Int) (n i : Nat) (h : i < n) : rd_L2 (rowsE a b n) (i : Int) = rowE a b i (b.length + 1) := by
  simp [rd_L2, rowsE, List.getD, h]
theorem implCosts_l1 (a b : List Int) (ha : a.length ≤ 40) (hb : b.length ≤ 40) (i : Nat) (hi : i ≤ a.length) {r : List (List Int)} (e : Ev (fun k => impl_costs.l0 k a b (rowsE a b (i + 1)) ((a.length + 1 : Nat) : Int) ((i + 1 : Nat) : Int)) r) (d : Nat) : ∀ j, j + d = b.length + 1 →
    Ev (fun k => impl_costs.l1 k a b (rowsE a b i) (i : Int) (rowE a b i j ++ List.replicate d 0) ((a.length + 1 : Nat) : Int) (i : Int) ((b.length + 1 : Nat) : Int) (j : Int)) r := by
  induction d with
  | zero =>
    intro j hj
    refine ev_tail ?_
    simp only [impl_costs.l1]
    refine ev_neg (by omega) (ev_pos (by rw [rowsE_length]; omega) ?_)
    rw [wrap_succ (by omega)]
    have : rowsE a b i ++ [rowE a b i j ++ List.replicate 0 0] = rowsE a b (i + 1) := by
      obtain rfl : j = b.length + 1 := by omega
      simp [rowsE, List.range_succ]
    rw [this]
    exact e
  | succ d ih =>
    intro j hj
    have e1 := ih (j + 1) (by omega)
    have wj : Aside0 (wrap64 ((j : Int) + 1) = ((j + 1 : Nat) : Int)) := ⟨wrap_succ (by omega)⟩
    have hlen : (rowE a b i j ++ List.replicate (d + 1) (0 : Int)).length = b.length + 1 := by simp [rowE]; omega
    have put : ∀ v : Int, v = ((ed a b i j : Nat) : Int) → (rowE a b i j ++ List.replicate (d + 1) 0).set ((j : Nat) : Int).toNat v = rowE a b i (j + 1) ++ List.replicate d 0 := fun v hv => row_set (fun j => ((ed a b i j : Nat) : Int)) j d v hv
    refine ev_tail ?_
    simp only [impl_costs.l1, hlen, wj.out]
    refine ev_pos (by omega) ?_
    by_cases hi0 : i = 0
    · subst hi0
      refine ev_pos (by omega) (ev_pos (by omega) (ev_pos (by omega) ?_))
      rw [put _ (by rw [ed_zero])]
      exact e1
    · refine ev_neg (by omega) ?_
      by_cases hj0 : j = 0
      · subst hj0
        refine ev_pos (by omega) (ev_pos (by omega) (ev_pos (by omega) ?_))
        rw [put _ (by rw [ed_left])]
        exact e1
      · refine ev_neg (by omega) ?_
        obtain ⟨i', rfl⟩ : ∃ m, i = m + 1 := ⟨i - 1, by omega⟩
        obtain ⟨j', rfl⟩ : ∃ m, j = m + 1 := ⟨j - 1, by omega⟩
        have wi : Aside0 (wrap64 (((i' + 1 : Nat) : Int) - 1) = (i' : Int)) := ⟨by rw [wrap_pred (by omega) (by omega)]; omega⟩
        have wj1 : Aside0 (wrap64 (((j' + 1 : Nat) : Int) - 1) = (j' : Int)) := ⟨by rw [wrap_pred (by omega) (by omega)]; omega⟩
        have hrow : Aside0 (rd_L2 (rowsE a b (i' + 1)) (i' : Int) = rowE a b i' (b.length + 1)) := ⟨rowsE_at a b (i' + 1) i' (by omega)⟩
        have r1 : Aside0 (rd (rowE a b i' (b.length + 1)) ((j' + 1 : Nat) : Int) = ((ed a b i' (j' + 1) : Nat) : Int)) := ⟨rd_map_range (fun j => ((ed a b i' j : Nat) : Int)) _ _ (by omega)⟩
        have r2 : Aside0 (rd (rowE a b (i' + 1) (j' + 1) ++ List.replicate (d + 1) 0) (j' : Int) = ((ed a b (i' + 1) j' : Nat) : Int)) := ⟨rd_row (fun j => ((ed a b (i' + 1) j : Nat) : Int)) _ _ _ (by omega)⟩
        have r3 : Aside0 (rd (rowE a b i' (b.length + 1)) (j' : Int) = ((ed a b i' j' : Nat) : Int)) := ⟨rd_map_range (fun j => ((ed a b i' j : Nat) : Int)) _ _ (by omega)⟩
        have b1 := ed_le a b i' (j' + 1)
        have b2 := ed_le a b (i' + 1) j'
        have b3 := ed_le a b i' j'
        have b4 := unl_le a b i' j'
        simp only [wi.out, wj1.out, hrow.out, r1.out, r2.out, r3.out, unlE_eq, Option.bind_some, rowE_length, rowsE_length]
        refine ev_pos (by omega) (ev_pos (by omega) (ev_pos (by omega) (ev_pos (by omega) (ev_pos (by omega) (ev_pos (by omega) (ev_pos (by omega) (ev_pos (by omega) (ev_pos (by omega) (ev_pos (by omega) ?_)))))))))
        rw [put _ (by rw [ed_succ, mn_eq, mn_eq, wrap_id (by omega) (by omega), wrap_id (by omega) (by omega), wrap_id (by omega) (by omega)]; omega)]
        exact e1
theorem implCosts_l0 (a b : List Int) (ha : a.length ≤ 40) (hb : b.length ≤ 40) (d : Nat) : ∀ i, i + d = a.length + 1 →
    Ev (fun k => impl_costs.l0 k a b (rowsE a b i) ((a.length + 1 : Nat) : Int) (i : Int)) (rowsE a b (a.length + 1)) := by
  induction d with
  | zero =>
    intro i hi
    obtain rfl : i = a.length + 1 := by omega
    refine ev_tail ?_
    simp only [impl_costs.l0]
    exact ev_neg (by omega) (Ev.now _)
  | succ d ih =>
    intro i hi
    refine ev_tail ?_
    have wb : Aside0 (wrap64 ((b.length : Int) + 1) = ((b.length + 1 : Nat) : Int)) := ⟨wrap_succ (by omega)⟩
    simp only [impl_costs.l0, wb.out, Option.bind_some, Int.toNat_natCast, List.length_replicate]
    refine ev_pos (by omega) (ev_pos (by omega) (ev_pos (by omega) ?_))
    exact implCosts_l1 a b ha hb i (by omega) (ih (i + 1) (by omega)) (b.length + 1) 0 (by omega)
theorem implCosts_ev (a b : List Int) (ha : a.length ≤ 40) (hb : b.length ≤ 40) : Ev (fun k => impl_costs.f k a b) (rowsE a b (a.length + 1)) := by
  simp only [impl_costs.f]
  rw [wrap_succ (by omega)]
  exact implCosts_l0 a b ha hb (a.length + 1) 0 (by omega)

theorem implAlignCost_ev (a b : List Int) : Ev (fun k => impl_AlignCost.f k a b) (alignM a b) := by
  simp only [impl_AlignCost.f, alignM]
  by_cases ha : a.length ≤ 40
  · refine ev_neg (by omega) ?_
    by_cases hb : b.length ≤ 40
    · rw [if_pos ⟨ha, hb⟩]
      refine ev_neg (by omega) (Ev.bind (implCosts_ev a b ha hb) ?_)
      have hrow : Aside0 (rd_L2 (rowsE a b (a.length + 1)) (a.length : Int) = rowE a b a.length (b.length + 1)) := ⟨rowsE_at a b (a.length + 1) a.length (by omega)⟩
      have r1 : Aside0 (rd (rowE a b a.length (b.length + 1)) ((b.length : Nat) : Int) = ((ed a b a.length b.length : Nat) : Int)) := ⟨rd_map_range (fun j => ((ed a b a.length j : Nat) : Int)) _ _ (by omega)⟩
      simp only [hrow.out, r1.out, rowsE_length, rowE_length]
      exact ev_pos (by omega) (ev_pos (by omega) (ev_pos (by omega) (ev_pos (by omega) (Ev.now _))))
    · rw [if_neg (by omega)]
      exact ev_pos (by omega) (Ev.now _)
  · rw [if_neg (by omega)]
    exact ev_pos (by omega) (Ev.now _)

/-- 0, 1, .. -/
def countI (n : Nat) : List Int := (List.range n).map fun (j : Nat) => (j : Int)
theorem countI_succ (n : Nat) : countI (n + 1) = countI n ++ [(n : Int)] := by simp [countI, List.range_succ]
theorem countI_length (n : Nat) : (countI n).length = n := by simp [countI]
def startM (t : List Int) : List Int × Int × Bool := if t.length ≤ 40 then (countI (t.length + 1), 0, true) else ([], 0, false)
theorem specStart_l0 (t : List Int) (h : t.length ≤ 40) (d : Nat) : ∀ i, i + d = t.length + 1 → Ev (fun k => spec_StartFollower.l0 k t (i : Int) (countI i) 0) (countI (t.length + 1), 0, true) := by
  induction d with
  | zero =>
    intro i hi
    refine ev_tail ?_
    simp only [spec_StartFollower.l0]
    obtain rfl : i = t.length + 1 := by omega
    exact ev_neg (by omega) (Ev.now _)
  | succ d ih =>
    intro i hi
    have e := ih (i + 1) (by omega)
    refine ev_tail ?_
    simp only [spec_StartFollower.l0]
    refine ev_pos (by omega) (ev_pos (by rw [countI_length]; omega) ?_)
    rw [wrap_succ (by omega), ← countI_succ]
    exact e
theorem implStart_l0 (n : Nat) (h : n ≤ 41) (d : Nat) : ∀ i, i + d = n → Ev (fun k => impl_StartFollower.l0 k (n : Int) (i : Int) (countI i) 0) (countI n, 0, true) := by
  induction d with
  | zero =>
    intro i hi
    refine ev_tail ?_
    simp only [impl_StartFollower.l0]
    obtain rfl : i = n := by omega
    exact ev_neg (by omega) (Ev.now _)
  | succ d ih =>
    intro i hi
    have e := ih (i + 1) (by omega)
    refine ev_tail ?_
    simp only [impl_StartFollower.l0]
    refine ev_pos (by omega) (ev_pos (by rw [countI_length]; omega) ?_)
    rw [wrap_succ (by omega), ← countI_succ]
    exact e
theorem specStartFollower_ev (t : List Int) : Ev (fun k => spec_StartFollower.f k t) (startM t) := by
  simp only [spec_StartFollower.f, startM]
  by_cases h : t.length ≤ 40
  · rw [if_pos h]
    have e := specStart_l0 t h (t.length + 1) 0 (by omega)
    exact ev_neg (by omega) (by simpa [countI] using e)
  · rw [if_neg h]
    exact ev_pos (by omega) (Ev.now _)
theorem implStartFollower_ev (t : List Int) : Ev (fun k => impl_StartFollower.f k t) (startM t) := by
  simp only [impl_StartFollower.f, startM]
  by_cases h : t.length ≤ 40
  · rw [if_pos h]
    refine ev_neg (by omega) ?_
    rw [wrap_succ (by omega)]
    have e := implStart_l0 (t.length + 1) (by omega) (t.length + 1) 0 (by omega)
    simpa [countI] using e
  · rw [if_neg h]
    exact ev_pos (by omega) (Ev.now _)
theorem startM_length (t : List Int) : (startM t).1.length ≤ 41 := by
  unfold startM
  split
  · simp [countI_length]; omega
  · simp

def folC (l : List Int) (i : Int) : Bool := decide (0 ≤ rd l i ∧ rd l i ≤ 1000 ∧ (0 < i → -1 ≤ wrap64 (rd l i - rd l (i - 1)) ∧ wrap64 (rd l i - rd l (i - 1)) ≤ 1))
def folM (t l : List Int) (x : Int) : Bool := allF (folC l) (decide ((t.length : Int) ≤ 40 ∧ (l.length : Int) = (t.length : Int) + 1 ∧ 0 ≤ x ∧ x ≤ 1000)) l.length 0
theorem specIsFollower_ev (t l : List Int) (x : Int) (ht : t.length ≤ 1048576) (h : l.length ≤ 1048577) : Ev (fun k => spec_IsFollower.f k t l x) (folM t l x) := by
  simp only [spec_IsFollower.f]
  refine ev_all (L := fun k i => spec_IsFollower.l0 k t i l x) (n := l.length) (fun i hi => ?_) ?_ l.length 0 (by omega)
  · have w1 : wrap64 ((i : Int) + 1) = (i : Int) + 1 := wrap_id (by omega) (by omega)
    have w2 : wrap64 ((i : Int) - 1) = (i : Int) - 1 := wrap_id (by omega) (by omega)
    constructor
    · intro hc r e
      simp only [folC, decide_eq_true_eq] at hc
      obtain ⟨h1, h2, h5⟩ := hc
      refine ev_tail ?_
      simp only [spec_IsFollower.l0, l1In_eq, Option.bind_some, w1, w2]
      refine ev_pos (by omega) (ev_pos (by omega) (ev_pos (by simpa using ⟨h1, h2⟩) ?_))
      refine ev_ite (fun h0 => ?_) (fun _ => e)
      exact ev_pos (by omega) (ev_pos (by omega) (ev_pos (by simpa using h5 h0) e))
    · intro hc
      simp only [folC, decide_eq_false_iff_not] at hc
      refine ev_tail ?_
      simp only [spec_IsFollower.l0, l1In_eq, Option.bind_some, w1, w2]
      refine ev_pos (by omega) (ev_pos (by omega) (ev_ite (fun h1 => ?_) (fun _ => Ev.now _)))
      simp only [decide_eq_true_eq] at h1
      refine ev_ite (fun h0 => ?_) (fun h0 => absurd ⟨h1.1, h1.2, fun h => absurd h h0⟩ hc)
      refine ev_pos (by omega) (ev_pos (by omega) (ev_ite (fun h3 => ?_) (fun _ => Ev.now _)))
      simp only [decide_eq_true_eq] at h3
      exact absurd ⟨h1.1, h1.2, fun _ => h3⟩ hc
  · refine ev_tail ?_
    have w3 : wrap64 ((t.length : Int) + 1) = (t.length : Int) + 1 := wrap_id (by omega) (by omega)
    simp only [spec_IsFollower.l0, l1In_eq, Option.bind_some, w3]
    refine ev_neg (by omega) (ev_ite (fun h1 => ev_ite (fun h2 => ?_) (fun h2 => ?_)) (fun h1 => ?_))
    · simpa [h1, h2] using Ev.now _
    · simpa [h1, h2] using Ev.now _
    · simpa [h1] using Ev.now _
theorem implIsFollower_ev (t l : List Int) (x : Int) (ht : t.length ≤ 1048576) (h : l.length ≤ 1048577) : Ev (fun k => impl_IsFollower.f k t l x) (folM t l x) := by
  simp only [impl_IsFollower.f]
  refine ev_all (L := fun k i => impl_IsFollower.l0 k t l (l.length : Int) i l x) (n := l.length) (fun i hi => ?_) ?_ l.length 0 (by omega)
  · have w1 : wrap64 ((i : Int) + 1) = (i : Int) + 1 := wrap_id (by omega) (by omega)
    have w2 : wrap64 ((i : Int) - 1) = (i : Int) - 1 := wrap_id (by omega) (by omega)
    constructor
    · intro hc r e
      simp only [folC, decide_eq_true_eq] at hc
      obtain ⟨h1, h2, h5⟩ := hc
      refine ev_tail ?_
      simp only [impl_IsFollower.l0, InRange_eq, Option.bind_some, w1, w2]
      refine ev_pos (by omega) (ev_pos (by omega) (ev_pos (by omega) (ev_pos (by simpa using ⟨h1, h2⟩) ?_)))
      refine ev_ite (fun h0 => ?_) (fun _ => e)
      exact ev_pos (by omega) (ev_pos (by omega) (ev_pos (by simpa using h5 h0) e))
    · intro hc
      simp only [folC, decide_eq_false_iff_not] at hc
      refine ev_tail ?_
      simp only [impl_IsFollower.l0, InRange_eq, Option.bind_some, w1, w2]
      refine ev_pos (by omega) (ev_pos (by omega) (ev_pos (by omega) (ev_ite (fun h1 => ?_) (fun _ => Ev.now _))))
      simp only [decide_eq_true_eq] at h1
      refine ev_ite (fun h0 => ?_) (fun h0 => absurd ⟨h1.1, h1.2, fun h => absurd h h0⟩ hc)
      refine ev_pos (by omega) (ev_pos (by omega) (ev_ite (fun h3 => ?_) (fun _ => Ev.now _)))
      simp only [decide_eq_true_eq] at h3
      exact absurd ⟨h1.1, h1.2, fun _ => h3⟩ hc
  · refine ev_tail ?_
    have w3 : wrap64 ((t.length : Int) + 1) = (t.length : Int) + 1 := wrap_id (by omega) (by omega)
    simp only [impl_IsFollower.l0, InRange_eq, Option.bind_some, w3]
    refine ev_neg (by omega) (ev_ite (fun h1 => ev_ite (fun h2 => ?_) (fun h2 => ?_)) (fun h1 => ?_))
    · simpa [h1, h2] using Ev.now _
    · simpa [h1, h2] using Ev.now _
    · simpa [h1] using Ev.now _

/-- Where x stands first in a list, counted from i; -1: nowhere. -/
def idxI : List Int → Int → Int → Int
  | [], _, _ => -1
  | y :: t, x, i => if x = y then i else idxI t x (i + 1)
theorem Index_l0 (x : Int) (suf : List Int) : ∀ pre : List Int, (pre ++ suf).length ≤ 35184372088832 → Ev (fun k => slices_Index_int_int.l0 k (pre ++ suf) x ((pre ++ suf).length : Int) (pre.length : Int)) (idxI suf x (pre.length : Int)) := by
  induction suf with
  | nil =>
    intro pre h
    refine ev_tail ?_
    simp only [slices_Index_int_int.l0]
    exact ev_neg (by simp) (Ev.now _)
  | cons y t ih =>
    intro pre h
    have e := ih (pre ++ [y]) (by simpa using h)
    simp only [List.length_append, List.length_cons] at h
    refine ev_tail ?_
    simp only [slices_Index_int_int.l0, idxI]
    refine ev_pos (by simp; omega) (ev_pos (by omega) (ev_pos (by simp; omega) ?_))
    rw [rd_mid]
    by_cases hy : x = y
    · rw [if_pos hy]
      exact ev_pos hy (Ev.now _)
    · rw [if_neg hy]
      refine ev_neg hy ?_
      rw [wrap_succ (by omega), snoc_cons pre y t, ← length_snoc pre y]
      simpa using e
theorem Index_ev (l : List Int) (x : Int) (h : l.length ≤ 35184372088832) : Ev (fun k => slices_Index_int_int.f k l x) (idxI l x 0) := by
  simp only [slices_Index_int_int.f]
  exact Index_l0 x l [] (by simpa using h)

/-- The least of a number and a list's numbers. -/
def minGo : List Int → Int → Int
  | [], m => m
  | y :: t, m => minGo t (mn m y)
theorem Min_l0 (suf : List Int) : ∀ (pre : List Int) (m : Int), (pre ++ suf).length ≤ 35184372088832 → Ev (fun k => slices_Min_int_int.l0 k (pre ++ suf) m (pre.length : Int)) (minGo suf m) := by
  induction suf with
  | nil =>
    intro pre m h
    refine ev_tail ?_
    simp only [slices_Min_int_int.l0]
    exact ev_neg (by simp) (Ev.now _)
  | cons y t ih =>
    intro pre m h
    have e := ih (pre ++ [y]) (mn m y) (by simpa using h)
    simp only [List.length_append, List.length_cons] at h
    refine ev_tail ?_
    simp only [slices_Min_int_int.l0, minGo]
    refine ev_pos (by simp; omega) (ev_pos (by omega) ?_)
    rw [rd_mid, wrap_succ (by omega), snoc_cons pre y t, ← length_snoc pre y]
    exact e
theorem Min_ev (y : Int) (t : List Int) (h : (y :: t).length ≤ 35184372088832) : Ev (fun k => slices_Min_int_int.f k (y :: t)) (minGo t y) := by
  simp only [slices_Min_int_int.f]
  refine ev_neg (by simp; omega) (ev_pos (by simp) ?_)
  exact Min_l0 t [y] y h
theorem minGo_le (l : List Int) : ∀ m, minGo l m ≤ m ∧ ∀ y ∈ l, minGo l m ≤ y := by
  induction l with
  | nil => intro m; simp [minGo]
  | cons y t ih =>
    intro m
    obtain ⟨h1, h2⟩ := ih (mn m y)
    rw [mn_eq] at h1
    simp only [minGo, mn_eq] at *
    refine ⟨by omega, fun z hz => ?_⟩
    rcases List.mem_cons.1 hz with rfl | hz
    · omega
    · exact h2 z hz
/-- The first place of the least number. -/
def posM : List Int → Int
  | [] => 0
  | y :: t => idxI (y :: t) (minGo t y) 0
def bestM : List Int → Int
  | [] => 0
  | y :: t => minGo t y
theorem idxI_at (l : List Int) (x : Int) : ∀ (p i : Nat), p < l.length → l.getD p 0 = x → (∀ j, j < p → l.getD j 0 ≠ x) → idxI l x (i : Int) = ((i + p : Nat) : Int) := by
  induction l with
  | nil => intro p i h; simp at h
  | cons y t ih =>
    intro p i h h1 h2
    cases p with
    | zero =>
      simp only [List.getD_cons_zero] at h1
      simp [idxI, h1]
    | succ p =>
      have h0 : y ≠ x := by simpa using h2 0 (by omega)
      simp only [idxI]
      rw [if_neg (fun h => h0 h.symm)]
      have := ih p (i + 1) (by simpa using h) (by simpa using h1) (fun j hj => by simpa using h2 (j + 1) (by omega))
      rw [show ((i : Int) + 1) = ((i + 1 : Nat) : Int) by omega, this]
      omega
theorem minGo_mem (l : List Int) : ∀ m, minGo l m = m ∨ minGo l m ∈ l := by
  induction l with
  | nil => intro m; simp [minGo]
  | cons y t ih =>
    intro m
    simp only [minGo]
    rcases ih (mn m y) with h | h
    · rw [h, mn_eq]
      rcases Int.le_total m y with hl | hl
      · left; omega
      · right; rw [show min m y = y by omega]; simp
    · right; simp [h]
/-- The place that the reference finds. -/
def IsPos (l : List Int) (p : Nat) : Prop := p < l.length ∧ (∀ j, j < l.length → l.getD p 0 ≤ l.getD j 0) ∧ ∀ j, j < p → l.getD p 0 < l.getD j 0
theorem posM_of (l : List Int) (p : Nat) (h : IsPos l p) : posM l = (p : Int) ∧ bestM l = l.getD p 0 := by
  obtain ⟨h0, h1, h2⟩ := h
  cases l with
  | nil => simp at h0
  | cons y t =>
    have hm : minGo t y = (y :: t).getD p 0 := by
      have hle := minGo_le t y
      apply Int.le_antisymm
      · have hmem : (y :: t).getD p 0 ∈ y :: t := by
          rw [List.getD_eq_getElem?_getD, List.getElem?_eq_getElem h0]; exact List.getElem_mem h0
        rcases List.mem_cons.1 hmem with h | h
        · rw [h]; exact hle.1
        · exact hle.2 _ h
      · rcases minGo_mem t y with h | h
        · rw [h]; exact h1 0 (by simp)
        · obtain ⟨j, hj, hje⟩ := List.getElem_of_mem h
          have := h1 (j + 1) (by simpa using hj)
          rw [List.getD_cons_succ, List.getD_eq_getElem?_getD (l := t), List.getElem?_eq_getElem hj, Option.getD_some, hje] at this
          exact this
    refine ⟨?_, hm⟩
    simp only [posM]
    have := idxI_at (y :: t) (minGo t y) p 0 h0 hm.symm (fun j hj => by have := h2 j hj; omega)
    simpa using this
theorem implPositionOf_ev (l : List Int) (x : Int) (hl : l.length ≤ 35184372088832) : Ev (fun k => impl_PositionOf.f k l x) (posM l) := by
  simp only [impl_PositionOf.f]
  cases l with
  | nil => exact ev_pos (by simp) (Ev.now _)
  | cons y t =>
    refine ev_neg (by simp; omega) ?_
    exact Ev.bind (Min_ev y t hl) (Ev.bind (Index_ev _ _ hl) (Ev.now _))

theorem implBestCost_ev (l : List Int) (x : Int) (hl : l.length ≤ 35184372088832) : Ev (fun k => impl_BestCost.f k l x) (bestM l) := by
  simp only [impl_BestCost.f]
  cases l with
  | nil => exact ev_pos (by simp) (Ev.now _)
  | cons y t =>
    refine ev_neg (by simp; omega) ?_
    exact Ev.bind (Min_ev y t hl) (Ev.now _)

theorem isPos_ex (l : List Int) (n : Nat) : 0 < n → n ≤ l.length → ∃ p, p < n ∧ (∀ j, j < n → l.getD p 0 ≤ l.getD j 0) ∧ ∀ j, j < p → l.getD p 0 < l.getD j 0 := by
  induction n with
  | zero => intro h; omega
  | succ n ih =>
    intro _ hn
    by_cases h0 : n = 0
    · subst h0
      exact ⟨0, by omega, fun j hj => by obtain rfl : j = 0 := (by omega); exact Int.le_refl _, fun j hj => by omega⟩
    · obtain ⟨p, h1, h2, h3⟩ := ih (by omega) (by omega)
      by_cases h4 : l.getD n 0 < l.getD p 0
      · refine ⟨n, by omega, fun j hj => ?_, fun j hj => ?_⟩
        · by_cases h5 : j = n
          · subst h5; exact Int.le_refl _
          · have := h2 j (by omega); omega
        · have := h2 j hj; omega
      · refine ⟨p, by omega, fun j hj => ?_, h3⟩
        by_cases h5 : j = n
        · subst h5; omega
        · exact h2 j (by omega)
theorem posM_bound {l : List Int} (hl : l.length ≤ 35184372088832) (h0 : l ≠ []) : 0 ≤ posM l ∧ posM l < l.length := by
  obtain ⟨q, h⟩ := isPos_ex l l.length (by cases l with | nil => exact absurd rfl h0 | cons y t => simp) (Nat.le_refl _)
  rw [(posM_of l q h).1]
  have := h.1
  omega

/-- 0 for two like numbers, else 1. -/
def unl1 (x p : Int) : Int := if x = p then 0 else 1
theorem unl1_le (x p : Int) : 0 ≤ unl1 x p ∧ unl1 x p ≤ 1 := by unfold unl1; split <;> omega
theorem unlike_eq (x p : Int) : impl_unlike.f x p = some (unl1 x p) := by
  unfold impl_unlike.f unl1
  by_cases h : x = p <;> simp [h]
theorem l17Copy_eq (l : List Int) (x : Int) (h : l.length < 17592186044416) : spec_l17Copy.f l x = some (l, x) := by
  unfold spec_l17Copy.f
  simp [h]
theorem clone_eq (l : List Int) (h : l.length < 17592186044416) : impl_clone_int.f l = some l := by
  unfold impl_clone_int.f
  simp [h]

theorem rd_at (pre : List Int) (x : Int) (suf : List Int) {i : Int} (h : i = (pre.length : Int)) : rd (pre ++ x :: suf) i = x := by
  subst h; exact rd_mid pre x suf
theorem rd_at1 (pre : List Int) (d x : Int) (suf : List Int) {i : Int} (h : i = ((pre.length + 1 : Nat) : Int)) : rd (pre ++ d :: x :: suf) i = x := by
  rw [snoc_cons]; exact rd_at _ _ _ (by simp; omega)
theorem set_at1 (pre : List Int) (d x y : Int) (suf : List Int) {i : Int} (h : i = ((pre.length + 1 : Nat) : Int)) : (pre ++ d :: x :: suf).set i.toNat y = pre ++ d :: y :: suf := by
  subst h
  rw [snoc_cons]
  have e := set_mid (pre ++ [d]) x y suf
  rw [length_snoc] at e
  rw [e]; simp
def stepV (p x d o c : Int) : Int := min (min (c + 1) (o + 1)) (d + unl1 x p)
/-- The costs behind the first one, once a pitch is heard. -/
def folRow (p : Int) : List Int → Int → Int → List Int → List Int
  | x :: t, d, o, c :: cs => stepV p x d o c :: folRow p t c (stepV p x d o c) cs
  | _, _, _, _ => []
theorem folRow_length (p : Int) (t : List Int) : ∀ (d o : Int) (cs : List Int), cs.length = t.length → (folRow p t d o cs).length = cs.length := by
  induction t with
  | nil => intro d o cs h; cases cs with
    | nil => rfl
    | cons c cs => simp at h
  | cons x t ih =>
    intro d o cs h
    cases cs with
    | nil => simp at h
    | cons c cs => simp only [folRow, List.length_cons]; rw [ih _ _ _ (by simpa using h)]
def stepRow (t l : List Int) (x p : Int) : List Int × Int := match l with
  | [] => ([], x + 1)
  | c :: cs => ((c + 1) :: folRow p t c (c + 1) cs, x + 1)
def stepM (t l : List Int) (x p : Int) : List Int × Int := if folM t l x = true ∧ x ≤ 500 then stepRow t l x p else (l, x)
theorem folM_facts {t l : List Int} {x : Int} (h : folM t l x = true) : t.length ≤ 40 ∧ l.length = t.length + 1 ∧ 0 ≤ x ∧ x ≤ 1000 ∧ ∀ c ∈ l, 0 ≤ c ∧ c ≤ 1000 := by
  unfold folM at h
  rw [allF_iff] at h
  obtain ⟨h1, h2⟩ := h
  simp only [decide_eq_true_eq] at h1
  refine ⟨by omega, by omega, h1.2.2.1, h1.2.2.2, fun c hc => ?_⟩
  obtain ⟨j, hj, rfl⟩ := List.getElem_of_mem hc
  have h3 := h2 j (by omega) (by omega)
  simp only [folC, decide_eq_true_eq] at h3
  have e : rd l (j : Int) = l[j] := by rw [rd_nat, List.getD_eq_getElem?_getD, List.getElem?_eq_getElem hj, Option.getD_some]
  rw [e] at h3
  exact ⟨h3.1, h3.2.1⟩
theorem stepV_bound {p x d o c : Int} (hd : 0 ≤ d ∧ d ≤ 1001) (ho : 0 ≤ o ∧ o ≤ 1001) (hc : 0 ≤ c ∧ c ≤ 1000) : 0 ≤ stepV p x d o c ∧ stepV p x d o c ≤ 1001 := by
  have := unl1_le x p
  unfold stepV; omega
theorem implStep_l0 (p x h : Int) (ts : List Int) : ∀ (tp lp op cs : List Int) (d o : Int), tp.length = lp.length → op.length = lp.length → cs.length = ts.length → (tp ++ ts).length ≤ 40 → (0 ≤ d ∧ d ≤ 1000) → (0 ≤ o ∧ o ≤ 1001) → (∀ c ∈ cs, 0 ≤ c ∧ c ≤ 1000) →
    Ev (fun k => impl_StepFollower.l0 k p (tp ++ ts) ((tp ++ ts).length : Int) (tp.length : Int) (lp ++ d :: cs) x (op ++ o :: cs) h) (op ++ o :: folRow p ts d o cs, h) := by
  induction ts with
  | nil =>
    intro tp lp op cs d o h1 h2 h3 h4 _ _ _
    obtain rfl : cs = [] := List.length_eq_zero_iff.1 (by simpa using h3)
    refine ev_tail ?_
    simp only [impl_StepFollower.l0]
    exact ev_neg (by simp) (Ev.now _)
  | cons y t ih =>
    intro tp lp op cs d o h1 h2 h3 h4 hd ho hc
    cases cs with
    | nil => simp at h3
    | cons c cs =>
      have hcc := hc c (by simp)
      have hv := stepV_bound (p := p) (x := y) ⟨hd.1, by omega⟩ ho hcc
      have e := ih (tp ++ [y]) (lp ++ [d]) (op ++ [o]) cs c (stepV p y d o c) (by simp [h1]) (by simp [h2]) (by simpa using h3) (by simpa using h4) hcc hv (fun z hz => hc z (by simp [hz]))
      simp only [List.length_append, List.length_cons] at h4
      refine ev_tail ?_
      simp only [impl_StepFollower.l0]
      have w1 : Aside0 (wrap64 ((tp.length : Int) + 1) = ((tp.length + 1 : Nat) : Int)) := ⟨wrap_succ (by omega)⟩
      rw [w1.out]
      refine ev_pos (by simp; omega) (ev_pos (by omega) (ev_pos (by simp; omega) (ev_pos (by omega) (ev_pos (by simp; omega) (ev_pos (by simp; omega) (ev_pos (by simp; omega) (ev_val (unlike_eq _ _) (ev_pos (by simp; omega) ?_))))))))
      have r1 := rd_mid tp y t
      have r2 := rd_at1 lp d c cs (i := ((tp.length + 1 : Nat) : Int)) (by omega)
      have r3 := rd_at op o (c :: cs) (i := (tp.length : Int)) (by omega)
      have r4 := rd_at lp d (c :: cs) (i := (tp.length : Int)) (by omega)
      have u := unl1_le y p
      rw [r1, r2, r3, r4, set_at1 op o c _ cs (by omega)]
      have ev : mn (mn (wrap64 (c + 1)) (wrap64 (o + 1))) (wrap64 (d + unl1 y p)) = stepV p y d o c := by
        rw [wrap_id (by omega) (by omega), wrap_id (by omega) (by omega), wrap_id (by omega) (by omega), mn_eq, mn_eq]
        rfl
      rw [ev]
      simp only [folRow]
      have e2 := e
      simp only [List.append_assoc, List.singleton_append, length_snoc] at e2
      exact e2
theorem specStep_l0 (p x h : Int) (ts : List Int) : ∀ (tp lp op cs : List Int) (d o : Int), tp.length = lp.length → op.length = lp.length → cs.length = ts.length → (tp ++ ts).length ≤ 40 → (0 ≤ d ∧ d ≤ 1000) → (0 ≤ o ∧ o ≤ 1001) → (∀ c ∈ cs, 0 ≤ c ∧ c ≤ 1000) →
    Ev (fun k => spec_StepFollower.l0 k (tp ++ ts) p ((tp.length + 1 : Nat) : Int) (lp ++ d :: cs) x (op ++ o :: cs) h) (op ++ o :: folRow p ts d o cs, h) := by
  induction ts with
  | nil =>
    intro tp lp op cs d o h1 h2 h3 h4 _ _ _
    obtain rfl : cs = [] := List.length_eq_zero_iff.1 (by simpa using h3)
    refine ev_tail ?_
    simp only [spec_StepFollower.l0]
    exact ev_neg (by simp; omega) (Ev.now _)
  | cons y t ih =>
    intro tp lp op cs d o h1 h2 h3 h4 hd ho hc
    cases cs with
    | nil => simp at h3
    | cons c cs =>
      have hcc := hc c (by simp)
      have hv := stepV_bound (p := p) (x := y) ⟨hd.1, by omega⟩ ho hcc
      have e := ih (tp ++ [y]) (lp ++ [d]) (op ++ [o]) cs c (stepV p y d o c) (by simp [h1]) (by simp [h2]) (by simpa using h3) (by simpa using h4) hcc hv (fun z hz => hc z (by simp [hz]))
      simp only [List.length_append, List.length_cons] at h4
      refine ev_tail ?_
      simp only [spec_StepFollower.l0, specMin_eq, Option.bind_some]
      have w1 : Aside0 (wrap64 (((tp.length + 1 : Nat) : Int) - 1) = (tp.length : Int)) := ⟨by rw [wrap_pred (by omega) (by omega)]; simp⟩
      have w2 : Aside0 (wrap64 (((tp.length + 1 : Nat) : Int) + 1) = ((tp.length + 1 + 1 : Nat) : Int)) := ⟨wrap_succ (by omega)⟩
      rw [w1.out, w2.out]
      have r1 := rd_mid tp y t
      have r2 := rd_at1 lp d c cs (i := ((tp.length + 1 : Nat) : Int)) (by omega)
      have r3 := rd_at op o (c :: cs) (i := (tp.length : Int)) (by omega)
      have r4 := rd_at lp d (c :: cs) (i := (tp.length : Int)) (by omega)
      have hset : ∀ v, (op ++ o :: c :: cs).set (((tp.length + 1 : Nat) : Int)).toNat v = op ++ o :: v :: cs := fun v => set_at1 op o c v cs (by omega)
      refine ev_pos (by simp; omega) (ev_pos (by omega) (ev_pos (by simp; omega) (ev_pos (by simp; omega) ?_)))
      rw [r1, r2, r3, r4]
      simp only [hset]
      have fin : ∀ g : Nat → Option (List Int × Int), (∀ k, g k = spec_StepFollower.l0 k (tp ++ y :: t) p ((tp.length + 1 + 1 : Nat) : Int) (lp ++ d :: c :: cs) x (op ++ o :: stepV p y d o c :: cs) h) → Ev g (op ++ o :: folRow p (y :: t) d o (c :: cs), h) := by
        intro g hg
        have e' : Ev g ((op ++ [o]) ++ stepV p y d o c :: folRow p t c (stepV p y d o c) cs, h) := by
          have hg' : g = fun k => spec_StepFollower.l0 k ((tp ++ [y]) ++ t) p (((tp ++ [y]).length + 1 : Nat) : Int) ((lp ++ [d]) ++ c :: cs) x ((op ++ [o]) ++ stepV p y d o c :: cs) h := by
            funext k; rw [hg k]; simp
          rw [hg']; exact e
        refine ev_eq e' ?_
        simp [folRow]
      by_cases hy : y = p
      · refine ev_pos hy (ev_pos (by omega) (ev_pos (by simp; omega) (ev_pos (by simp; omega) ?_)))
        refine fin _ (fun k => ?_)
        have ev : min d (wrap64 (min c o + 1)) = stepV p y d o c := by
          rw [wrap_id (by omega) (by omega)]; unfold stepV unl1; rw [if_pos hy]; omega
        rw [ev]
      · refine ev_neg hy (ev_pos (by omega) (ev_pos (by simp; omega) (ev_pos (by simp; omega) ?_)))
        refine fin _ (fun k => ?_)
        have ev : min (wrap64 (d + 1)) (wrap64 (min c o + 1)) = stepV p y d o c := by
          rw [wrap_id (by omega) (by omega), wrap_id (by omega) (by omega)]; unfold stepV unl1; rw [if_neg hy]; omega
        rw [ev]
theorem stepRow_length {t l : List Int} {x p : Int} (h : l.length = t.length + 1) : (stepRow t l x p).1.length = l.length := by
  cases l with
  | nil => simp at h
  | cons c cs => simp only [stepRow, List.length_cons]; rw [folRow_length p t _ _ cs (by simpa using h)]
theorem stepM_length (t l : List Int) (x p : Int) : (stepM t l x p).1.length = l.length := by
  unfold stepM
  split
  · rename_i h; exact stepRow_length (folM_facts h.1).2.1
  · rfl
theorem specStep_j0 (t l : List Int) (x p : Int) (hf : folM t l x = true) (b : Bool) (hb : b = decide (x > 500)) : Ev (fun k => spec_StepFollower.j0 k t p b l x l x) (stepM t l x p) := by
  obtain ⟨h1, h2, h3, h4, h5⟩ := folM_facts hf
  refine ev_tail ?_
  simp only [spec_StepFollower.j0]
  by_cases h : x > 500
  · rw [stepM, if_neg (by omega)]
    exact ev_pos (by rw [hb]; simpa using h) (Ev.now _)
  · rw [stepM, if_pos ⟨hf, by omega⟩]
    refine ev_neg (by rw [hb]; simpa using h) ?_
    cases l with
    | nil => simp at h2
    | cons c cs =>
      have hc := h5 c (by simp)
      refine ev_pos (by simp only [List.length_cons]; omega) (ev_pos (by simp only [List.length_cons]; omega) ?_)
      have w1 : wrap64 (rd (c :: cs) 0 + 1) = c + 1 := by
        have : rd (c :: cs) 0 = c := rd_mid [] c cs
        rw [this, wrap_id (by omega) (by omega)]
      have w2 : wrap64 (x + 1) = x + 1 := wrap_id (by omega) (by omega)
      rw [w1, w2]
      exact specStep_l0 p x (x + 1) t [] [] [] cs c (c + 1) rfl rfl (by simpa using h2) (by simpa using h1) hc (by omega) (fun z hz => h5 z (by simp [hz]))
theorem implStep_j0 (t l : List Int) (x p : Int) (hf : folM t l x = true) (b : Bool) (hb : b = decide (x > 500)) : Ev (fun k => impl_StepFollower.j0 k t p b l x l x) (stepM t l x p) := by
  obtain ⟨h1, h2, h3, h4, h5⟩ := folM_facts hf
  refine ev_tail ?_
  simp only [impl_StepFollower.j0]
  by_cases h : x > 500
  · rw [stepM, if_neg (by omega)]
    exact ev_pos (by rw [hb]; simpa using h) (Ev.now _)
  · rw [stepM, if_pos ⟨hf, by omega⟩]
    refine ev_neg (by rw [hb]; simpa using h) ?_
    cases l with
    | nil => simp at h2
    | cons c cs =>
      have hc := h5 c (by simp)
      refine ev_pos (by simp only [List.length_cons]; omega) ?_
      have w1 : wrap64 (rd (c :: cs) 0 + 1) = c + 1 := by
        have : rd (c :: cs) 0 = c := rd_mid [] c cs
        rw [this, wrap_id (by omega) (by omega)]
      have w2 : wrap64 (x + 1) = x + 1 := wrap_id (by omega) (by omega)
      rw [w1, w2]
      exact implStep_l0 p x (x + 1) t [] [] [] cs c (c + 1) rfl rfl (by simpa using h2) (by simpa using h1) hc (by omega) (fun z hz => h5 z (by simp [hz]))
theorem specStepFollower_ev (t l : List Int) (x p : Int) (ht : t.length ≤ 1048576) (hl : l.length ≤ 1048577) : Ev (fun k => spec_StepFollower.f k t l x p) (stepM t l x p) := by
  simp only [spec_StepFollower.f, l17Copy_eq l x (by omega), Option.bind_some]
  refine Ev.bind (specIsFollower_ev t l x ht hl) ?_
  refine ev_ite (fun h => specStep_j0 t l x p h _ rfl) (fun h => ?_)
  refine ev_tail ?_
  simp only [spec_StepFollower.j0, if_true]
  rw [stepM, if_neg (fun z => h z.1)]
  exact Ev.now _
theorem implStepFollower_ev (t l : List Int) (x p : Int) (ht : t.length ≤ 1048576) (hl : l.length ≤ 1048577) : Ev (fun k => impl_StepFollower.f k t l x p) (stepM t l x p) := by
  simp only [impl_StepFollower.f, clone_eq l (by omega), Option.bind_some]
  refine Ev.bind (implIsFollower_ev t l x ht hl) ?_
  refine ev_ite (fun h => implStep_j0 t l x p h _ rfl) (fun h => ?_)
  refine ev_tail ?_
  simp only [impl_StepFollower.j0, if_true]
  rw [stepM, if_neg (fun z => h z.1)]
  exact Ev.now _

def hearM (t l : List Int) (x : Int) (ps : List Int) : List Int × Int := ps.foldl (fun s p => stepM t s.1 s.2 p) (l, x)
theorem hearM_length (t : List Int) (ps : List Int) : ∀ (l : List Int) (x : Int), (hearM t l x ps).1.length = l.length := by
  induction ps with
  | nil => intro l x; rfl
  | cons p ps ih =>
    intro l x
    have e := ih (stepM t l x p).1 (stepM t l x p).2
    rw [stepM_length] at e
    exact e
theorem specHear_l0 (t : List Int) (ht : t.length ≤ 1048576) (suf : List Int) : ∀ (pre l : List Int) (x : Int), (pre ++ suf).length ≤ 1048576 → l.length ≤ 1048577 → Ev (fun k => spec_HearAll.l0 k t (pre ++ suf) (pre.length : Int) l x) (hearM t l x suf) := by
  induction suf with
  | nil =>
    intro pre l x h hl
    refine ev_tail ?_
    simp only [spec_HearAll.l0]
    exact ev_neg (by simp) (Ev.now _)
  | cons p ps ih =>
    intro pre l x h hl
    have hs := stepM_length t l x p
    have e := ih (pre ++ [p]) (stepM t l x p).1 (stepM t l x p).2 (by simpa using h) (by omega)
    simp only [List.length_append, List.length_cons] at h
    refine ev_tail ?_
    simp only [spec_HearAll.l0]
    refine ev_pos (by simp; omega) (ev_pos (by omega) ?_)
    rw [rd_mid]
    refine Ev.bind (specStepFollower_ev t l x p ht hl) ?_
    rw [wrap_succ (by omega), snoc_cons pre p ps, ← length_snoc pre p]
    exact e
theorem implHear_l0 (t : List Int) (ht : t.length ≤ 1048576) (suf : List Int) : ∀ (pre l : List Int) (x : Int), (pre ++ suf).length ≤ 1048576 → l.length ≤ 1048577 → Ev (fun k => impl_HearAll.l0 k t (pre ++ suf) ((pre ++ suf).length : Int) (pre.length : Int) l x) (hearM t l x suf) := by
  induction suf with
  | nil =>
    intro pre l x h hl
    refine ev_tail ?_
    simp only [impl_HearAll.l0]
    exact ev_neg (by simp) (Ev.now _)
  | cons p ps ih =>
    intro pre l x h hl
    have hs := stepM_length t l x p
    have e := ih (pre ++ [p]) (stepM t l x p).1 (stepM t l x p).2 (by simpa using h) (by omega)
    simp only [List.length_append, List.length_cons] at h
    refine ev_tail ?_
    simp only [impl_HearAll.l0]
    refine ev_pos (by simp; omega) (ev_pos (by omega) (ev_pos (by simp; omega) ?_))
    rw [rd_mid]
    refine Ev.bind (implStepFollower_ev t l x p ht hl) ?_
    rw [wrap_succ (by omega), snoc_cons pre p ps, ← length_snoc pre p]
    exact e
theorem specHearAll_ev (t l : List Int) (x : Int) (ps : List Int) (ht : t.length ≤ 1048576) (hl : l.length ≤ 1048577) (hp : ps.length ≤ 1048576) : Ev (fun k => spec_HearAll.f k t l x ps) (hearM t l x ps) := by
  simp only [spec_HearAll.f, l17Copy_eq l x (by omega), Option.bind_some]
  exact specHear_l0 t ht ps [] l x (by simpa using hp) hl
theorem implHearAll_ev (t l : List Int) (x : Int) (ps : List Int) (ht : t.length ≤ 1048576) (hl : l.length ≤ 1048577) (hp : ps.length ≤ 1048576) : Ev (fun k => impl_HearAll.f k t l x ps) (hearM t l x ps) := by
  simp only [impl_HearAll.f, clone_eq l (by omega), Option.bind_some]
  exact implHear_l0 t ht ps [] l x (by simpa using hp) hl

/-! ### slips -/
def slP (n : Int) (x : S95) : Prop := 1 ≤ x.f0 ∧ x.f0 ≤ 3 ∧ 0 ≤ x.f1 ∧ x.f1 ≤ (if x.f0 = 3 then n else n - 1) ∧ 0 ≤ x.f2 ∧ x.f2 ≤ 127 ∧ (x.f0 = 2 → x.f2 = 0)
instance (n : Int) (x : S95) : Decidable (slP n x) := by unfold slP; exact inferInstance
def slC (l : List S95) (n : Int) (i : Int) : Bool := decide (slP n (rd_T95 l i) ∧ (0 < i → (rd_T95 l i).f1 < (rd_T95 l (i - 1)).f1))
def slipsM (l : List S95) (n : Int) : Bool := decide (0 ≤ n ∧ n ≤ 1000) && allF (slC l n) (decide ((l.length : Int) ≤ 8)) l.length 0
theorem allF_fin (c : Int → Bool) (fin : Bool) (d : Nat) : ∀ i, allF c fin d i = (allF c true d i && fin) := by
  induction d with
  | zero => intro i; simp [allF]
  | succ d ih => intro i; simp only [allF]; rw [ih, Bool.and_assoc]
theorem specSl_j1 (l : List S95) (n m : Int) (i : Nat) (hi : i < l.length) (hl : l.length ≤ 1048576) (hm : m = if (rd_T95 l (i : Int)).f0 = 3 then n else n - 1) :
    (slC l n (i : Int) = true → ∀ r, Ev (fun k => spec_AreSlips.l0 k l n ((i : Int) + 1)) r → Ev (fun k => spec_AreSlips.j1 k l n (i : Int) m (rd_T95 l (i : Int)).f0 (rd_T95 l (i : Int)).f1 (rd_T95 l (i : Int)).f2) r) ∧
    (slC l n (i : Int) = false → Ev (fun k => spec_AreSlips.j1 k l n (i : Int) m (rd_T95 l (i : Int)).f0 (rd_T95 l (i : Int)).f1 (rd_T95 l (i : Int)).f2) false) := by
  have w1 : wrap64 ((i : Int) + 1) = (i : Int) + 1 := wrap_id (by omega) (by omega)
  have w2 : wrap64 ((i : Int) - 1) = (i : Int) - 1 := wrap_id (by omega) (by omega)
  constructor
  · intro hc r e
    simp only [slC, slP, decide_eq_true_eq, ← hm] at hc
    obtain ⟨⟨h1, h2, h3, h4, h5, h6, h7⟩, h8⟩ := hc
    refine ev_tail ?_
    simp only [spec_AreSlips.j1, l1In_eq, Option.bind_some, w1, w2]
    refine ev_pos (decide_eq_true ⟨h1, h2⟩) (ev_pos (decide_eq_true ⟨h3, h4⟩) (ev_pos (decide_eq_true ⟨h5, h6⟩) ?_))
    refine ev_ite (fun hk => ev_pos (h7 hk) ?_) (fun _ => ?_)
    all_goals exact ev_ite (fun h0 => ev_pos (by omega) (ev_pos (by omega) (ev_neg (by have := h8 h0; omega) e))) (fun _ => e)
  · intro hc
    simp only [slC, slP, decide_eq_false_iff_not, ← hm] at hc
    refine ev_tail ?_
    simp only [spec_AreSlips.j1, l1In_eq, Option.bind_some, w1, w2]
    refine ev_ite (fun a1 => ev_ite (fun a2 => ev_ite (fun a3 => ?_) (fun _ => Ev.now _)) (fun _ => Ev.now _)) (fun _ => Ev.now _)
    simp only [decide_eq_true_eq] at a1 a2 a3
    refine ev_ite (fun hk => ev_ite (fun h => ?_) (fun _ => Ev.now _)) (fun hk => ?_)
    · exact ev_ite (fun h0 => ev_pos (by omega) (ev_pos (by omega) (ev_ite (fun _ => Ev.now _) (fun h8 => absurd ⟨⟨a1.1, a1.2, a2.1, a2.2, a3.1, a3.2, fun _ => h⟩, fun _ => by omega⟩ hc)))) (fun h0 => absurd ⟨⟨a1.1, a1.2, a2.1, a2.2, a3.1, a3.2, fun _ => h⟩, fun z => absurd z h0⟩ hc)
    · exact ev_ite (fun h0 => ev_pos (by omega) (ev_pos (by omega) (ev_ite (fun _ => Ev.now _) (fun h8 => absurd ⟨⟨a1.1, a1.2, a2.1, a2.2, a3.1, a3.2, fun z => absurd z hk⟩, fun _ => by omega⟩ hc)))) (fun h0 => absurd ⟨⟨a1.1, a1.2, a2.1, a2.2, a3.1, a3.2, fun z => absurd z hk⟩, fun z => absurd z h0⟩ hc)
theorem specAreSlips_ev (l : List S95) (n : Int) (hl : l.length ≤ 1048576) : Ev (fun k => spec_AreSlips.f k l n) (slipsM l n) := by
  simp only [spec_AreSlips.f, l1In_eq, Option.bind_some, slipsM]
  refine ev_ite (fun hn => ?_) (fun hn => ev_eq (Ev.now _) (by simp only [Bool.not_eq_true] at hn; rw [hn, Bool.false_and]))
  rw [hn, Bool.true_and]
  simp only [decide_eq_true_eq] at hn
  refine ev_all (L := fun k i => spec_AreSlips.l0 k l n i) (n := l.length) (fun i hi => ?_) ?_ l.length 0 (by omega)
  · have w2 : wrap64 (n - 1) = n - 1 := wrap_id (by omega) (by omega)
    constructor
    · intro hc r e
      refine ev_tail ?_
      simp only [spec_AreSlips.l0, w2]
      exact ev_pos (by omega) (ev_pos (by omega) (ev_ite (fun h => (specSl_j1 l n n i hi hl (by rw [if_pos h])).1 hc r e) (fun h => (specSl_j1 l n (n - 1) i hi hl (by rw [if_neg h])).1 hc r e)))
    · intro hc
      refine ev_tail ?_
      simp only [spec_AreSlips.l0, w2]
      exact ev_pos (by omega) (ev_pos (by omega) (ev_ite (fun h => (specSl_j1 l n n i hi hl (by rw [if_pos h])).2 hc) (fun h => (specSl_j1 l n (n - 1) i hi hl (by rw [if_neg h])).2 hc)))
  · refine ev_tail ?_
    simp only [spec_AreSlips.l0]
    exact ev_neg (by omega) (Ev.now _)

theorem implSl_j2 (l : List S95) (n m : Int) (i : Nat) (hi : i < l.length) (hl : l.length ≤ 1048576) (hm : m = if (rd_T95 l (i : Int)).f0 = 3 then n else n - 1) :
    (slC l n (i : Int) = true → ∀ r, Ev (fun k => impl_AreSlips.l0 k l n l (l.length : Int) ((i : Int) + 1)) r → Ev (fun k => impl_AreSlips.j2 k l n (i : Int) m l (l.length : Int) (i : Int) (rd_T95 l (i : Int)).f0 (rd_T95 l (i : Int)).f1 (rd_T95 l (i : Int)).f2) r) ∧
    (slC l n (i : Int) = false → Ev (fun k => impl_AreSlips.j2 k l n (i : Int) m l (l.length : Int) (i : Int) (rd_T95 l (i : Int)).f0 (rd_T95 l (i : Int)).f1 (rd_T95 l (i : Int)).f2) false) := by
  have w1 : wrap64 ((i : Int) + 1) = (i : Int) + 1 := wrap_id (by omega) (by omega)
  have w2 : wrap64 ((i : Int) - 1) = (i : Int) - 1 := wrap_id (by omega) (by omega)
  constructor
  · intro hc r e
    simp only [slC, slP, decide_eq_true_eq, ← hm] at hc
    obtain ⟨⟨h1, h2, h3, h4, h5, h6, h7⟩, h8⟩ := hc
    refine ev_tail ?_
    simp only [impl_AreSlips.j2, InRange_eq, Option.bind_some, w1, w2]
    refine ev_pos (decide_eq_true ⟨h1, h2⟩) (ev_pos (decide_eq_true ⟨h3, h4⟩) (ev_pos (decide_eq_true ⟨h5, h6⟩) ?_))
    refine ev_ite (fun hk => ev_pos (h7 hk) ?_) (fun _ => ?_)
    all_goals exact ev_ite (fun h0 => ev_pos (by omega) (ev_pos (by omega) (ev_neg (by have := h8 h0; omega) e))) (fun _ => e)
  · intro hc
    simp only [slC, slP, decide_eq_false_iff_not, ← hm] at hc
    refine ev_tail ?_
    simp only [impl_AreSlips.j2, InRange_eq, Option.bind_some, w1, w2]
    refine ev_ite (fun a1 => ev_ite (fun a2 => ev_ite (fun a3 => ?_) (fun _ => Ev.now _)) (fun _ => Ev.now _)) (fun _ => Ev.now _)
    simp only [decide_eq_true_eq] at a1 a2 a3
    refine ev_ite (fun hk => ev_ite (fun h => ?_) (fun _ => Ev.now _)) (fun hk => ?_)
    · exact ev_ite (fun h0 => ev_pos (by omega) (ev_pos (by omega) (ev_ite (fun _ => Ev.now _) (fun h8 => absurd ⟨⟨a1.1, a1.2, a2.1, a2.2, a3.1, a3.2, fun _ => h⟩, fun _ => by omega⟩ hc)))) (fun h0 => absurd ⟨⟨a1.1, a1.2, a2.1, a2.2, a3.1, a3.2, fun _ => h⟩, fun z => absurd z h0⟩ hc)
    · exact ev_ite (fun h0 => ev_pos (by omega) (ev_pos (by omega) (ev_ite (fun _ => Ev.now _) (fun h8 => absurd ⟨⟨a1.1, a1.2, a2.1, a2.2, a3.1, a3.2, fun z => absurd z hk⟩, fun _ => by omega⟩ hc)))) (fun h0 => absurd ⟨⟨a1.1, a1.2, a2.1, a2.2, a3.1, a3.2, fun z => absurd z hk⟩, fun z => absurd z h0⟩ hc)
theorem implAreSlips_ev (l : List S95) (n : Int) (hl : l.length ≤ 1048576) : Ev (fun k => impl_AreSlips.f k l n) (slipsM l n) := by
  simp only [impl_AreSlips.f, InRange_eq, Option.bind_some, slipsM]
  refine ev_ite (fun h8 => ev_tail ?_) (fun h8 => ev_tail ?_)
  · simp only [impl_AreSlips.j0]
    refine ev_pos (by trivial) (ev_eq (Ev.now _) ?_)
    rw [allF_fin, decide_eq_false (show ¬ ((l.length : Int) ≤ 8) by omega), Bool.and_false, Bool.and_false]
  · simp only [impl_AreSlips.j0]
    refine ev_ite (fun hn => ev_eq (Ev.now _) (by simp only [Bool.not_eq_true'] at hn; rw [hn, Bool.false_and])) (fun hn => ?_)
    simp only [Bool.not_eq_true', Bool.not_eq_false] at hn
    rw [hn, Bool.true_and]
    simp only [decide_eq_true_eq] at hn
    rw [decide_eq_true (show (l.length : Int) ≤ 8 by omega)]
    refine ev_all (L := fun k i => impl_AreSlips.l0 k l n l (l.length : Int) i) (n := l.length) (fun i hi => ?_) ?_ l.length 0 (by omega)
    · have w2 : wrap64 (n - 1) = n - 1 := wrap_id (by omega) (by omega)
      constructor
      · intro hc r e
        refine ev_tail ?_
        simp only [impl_AreSlips.l0, w2]
        exact ev_pos (by omega) (ev_pos (by omega) (ev_pos (by omega) (ev_ite (fun h => (implSl_j2 l n n i hi hl (by rw [if_pos h])).1 hc r e) (fun h => (implSl_j2 l n (n - 1) i hi hl (by rw [if_neg h])).1 hc r e))))
      · intro hc
        refine ev_tail ?_
        simp only [impl_AreSlips.l0, w2]
        exact ev_pos (by omega) (ev_pos (by omega) (ev_pos (by omega) (ev_ite (fun h => (implSl_j2 l n n i hi hl (by rw [if_pos h])).2 hc) (fun h => (implSl_j2 l n (n - 1) i hi hl (by rw [if_neg h])).2 hc))))
    · refine ev_tail ?_
      simp only [impl_AreSlips.l0]
      exact ev_neg (by omega) (Ev.now _)

/-! ### errors -/
theorem slips_facts {l : List S95} {n : Int} (h : slipsM l n = true) : 0 ≤ n ∧ n ≤ 1000 ∧ l.length ≤ 8 ∧ (∀ x ∈ l, slP n x) ∧ l.Pairwise (fun a b => b.f1 < a.f1) := by
  simp only [slipsM, Bool.and_eq_true, decide_eq_true_eq] at h
  obtain ⟨⟨h1, h2⟩, h3⟩ := h
  obtain ⟨h4, h5⟩ := (allF_iff _ _ _ _).1 h3
  simp only [decide_eq_true_eq] at h4
  have at_ : ∀ (j : Nat) (hj : j < l.length), rd_T95 l (j : Int) = l[j] := fun j hj => by simp [rd_T95, List.getD, hj]
  have hx : ∀ (j : Nat) (hj : j < l.length), slP n l[j] := fun j hj => by
    have := h5 j (Nat.zero_le _) (by omega)
    simp only [slC, decide_eq_true_eq] at this
    rw [← at_ j hj]; exact this.1
  have adj : ∀ (j : Nat) (hj : j + 1 < l.length), l[j + 1].f1 < l[j].f1 := fun j hj => by
    have := h5 (j + 1) (Nat.zero_le _) (by omega)
    simp only [slC, decide_eq_true_eq] at this
    have h6 := this.2 (by omega)
    rw [at_ (j + 1) hj, show ((j + 1 : Nat) : Int) - 1 = (j : Int) by omega, at_ j (by omega)] at h6
    exact h6
  have far : ∀ (d i : Nat) (hd : i + d + 1 < l.length), l[i + d + 1].f1 < l[i].f1 := by
    intro d
    induction d with
    | zero => intro i hd; exact adj i hd
    | succ d ih =>
      intro i hd
      have a1 := ih i (by omega)
      have a2 := adj (i + d + 1) (by omega)
      have : l[i + (d + 1) + 1].f1 < l[i + d + 1].f1 := a2
      omega
  refine ⟨h1, h2, by omega, fun x hm => ?_, List.pairwise_iff_getElem.2 (fun i j hi hj hij => ?_)⟩
  · obtain ⟨j, hj, rfl⟩ := List.getElem_of_mem hm
    exact hx j hj
  · obtain ⟨d, rfl⟩ : ∃ d, j = i + d + 1 := ⟨j - i - 1, by omega⟩
    exact far d i hj
def errStep (o : List Int) (x : S95) : List Int := if x.f0 = 1 then o.set x.f1.toNat x.f2 else if x.f0 = 2 then o.take x.f1.toNat ++ o.drop (x.f1.toNat + 1) else o.take x.f1.toNat ++ [x.f2] ++ o.drop x.f1.toNat
def errM (p : List Int) (l : List S95) : List Int × Bool := if slipsM l (p.length : Int) = true then (l.foldl errStep p, true) else (p, false)
/-- The place of a slip in what is there. -/
def slOk (x : S95) (n : Nat) : Prop := (1 ≤ x.f0 ∧ x.f0 ≤ 3 ∧ 0 ≤ x.f1) ∧ (x.f1 < (n : Int) ∨ x.f0 = 3 ∧ x.f1 ≤ (n : Int))
theorem errStep_len {o : List Int} {x : S95} (h : slOk x o.length) : x.f1 ≤ ((errStep o x).length : Int) ∧ (errStep o x).length ≤ o.length + 1 := by
  obtain ⟨⟨h1, h2, h3⟩, h4⟩ := h
  unfold errStep
  by_cases k1 : x.f0 = 1
  · rw [if_pos k1, List.length_set]; omega
  · rw [if_neg k1]
    by_cases k2 : x.f0 = 2
    · rw [if_pos k2]; simp only [List.length_append, List.length_take, List.length_drop]; omega
    · rw [if_neg k2]; simp only [List.length_append, List.length_take, List.length_drop, List.length_cons, List.length_nil]; omega
theorem slOk_next {o : List Int} {x : S95} {t : List S95} (hx : slOk x o.length) (hm : ∀ y ∈ x :: t, 1 ≤ y.f0 ∧ y.f0 ≤ 3 ∧ 0 ≤ y.f1) (hp : (x :: t).Pairwise (fun a b => b.f1 < a.f1)) : ∀ y, t.head? = some y → slOk y (errStep o x).length := by
  intro y hy
  have hyt : y ∈ t := List.mem_of_mem_head? hy
  have h1 := (List.pairwise_cons.1 hp).1 y hyt
  have h2 := (errStep_len hx).1
  exact ⟨hm y (List.mem_cons_of_mem _ hyt), .inl (by omega)⟩
theorem err_length (l : List S95) : ∀ o : List Int, (∀ y ∈ l, 1 ≤ y.f0 ∧ y.f0 ≤ 3 ∧ 0 ≤ y.f1) → l.Pairwise (fun a b => b.f1 < a.f1) → (∀ y, l.head? = some y → slOk y o.length) → (l.foldl errStep o).length ≤ o.length + l.length := by
  induction l with
  | nil => intro o _ _ _; simp
  | cons x t ih =>
    intro o hm hp hx
    have hx := hx x rfl
    have h1 := ih (errStep o x) (fun y hy => hm y (List.mem_cons_of_mem _ hy)) (List.pairwise_cons.1 hp).2 (slOk_next hx hm hp)
    have h2 := (errStep_len hx).2
    simp only [List.foldl_cons, List.length_cons]
    omega
theorem slips_head {l : List S95} {n : Nat} (h : slipsM l (n : Int) = true) : (∀ y ∈ l, 1 ≤ y.f0 ∧ y.f0 ≤ 3 ∧ 0 ≤ y.f1) ∧ l.Pairwise (fun a b => b.f1 < a.f1) ∧ (∀ y, l.head? = some y → slOk y n) := by
  obtain ⟨_, _, _, h1, h2⟩ := slips_facts h
  refine ⟨fun y hy => ⟨(h1 y hy).1, (h1 y hy).2.1, (h1 y hy).2.2.1⟩, h2, fun y hy => ?_⟩
  obtain ⟨a1, a2, a3, a4, _⟩ := h1 y (List.mem_of_mem_head? hy)
  refine ⟨⟨a1, a2, a3⟩, ?_⟩
  by_cases h3 : y.f0 = 3
  · rw [if_pos h3] at a4; exact .inr ⟨h3, a4⟩
  · rw [if_neg h3] at a4; exact .inl (by omega)
theorem errM_length (p : List Int) (l : List S95) : (errM p l).1.length ≤ p.length + 8 := by
  unfold errM
  split
  · rename_i h
    obtain ⟨h1, h2, h3⟩ := slips_head h
    have := err_length l p h1 h2 h3
    have := (slips_facts h).2.2.1
    show (l.foldl errStep p).length ≤ _
    omega
  · show p.length ≤ _; omega
theorem specErr_l0 (suf : List S95) : ∀ (pre : List S95) (o : List Int), (pre ++ suf).length ≤ 1048576 → o.length + suf.length ≤ 2097152 → (∀ y ∈ suf, 1 ≤ y.f0 ∧ y.f0 ≤ 3 ∧ 0 ≤ y.f1) → suf.Pairwise (fun a b => b.f1 < a.f1) → (∀ y, suf.head? = some y → slOk y o.length) →
    Ev (fun k => spec_ErrBy.l0 k (pre ++ suf) o (pre.length : Int)) (suf.foldl errStep o, true) := by
  induction suf with
  | nil =>
    intro pre o h _ _ _ _
    refine ev_tail ?_
    simp only [spec_ErrBy.l0]
    exact ev_neg (by simp) (Ev.now _)
  | cons x t ih =>
    intro pre o h ho hm hp hx
    have hx := hx x rfl
    have hlen := (errStep_len hx).2
    have e := ih (pre ++ [x]) (errStep o x) (by simpa using h) (by simp only [List.length_cons] at ho; omega) (fun y hy => hm y (List.mem_cons_of_mem _ hy)) (List.pairwise_cons.1 hp).2 (slOk_next hx hm hp)
    simp only [List.length_append, List.length_cons] at h ho
    obtain ⟨⟨h1, h2, h3⟩, h4⟩ := hx
    refine ev_tail ?_
    simp only [spec_ErrBy.l0]
    refine ev_pos (by simp; omega) (ev_pos (by omega) ?_)
    rw [show rd_T95 (pre ++ x :: t) ((pre.length : Nat) : Int) = x from getD_mid pre x t _, wrap_succ (by omega), snoc_cons pre x t, ← length_snoc pre x]
    have w : (wrap64 (x.f1 + 1)).toNat = x.f1.toNat + 1 := by rw [wrap_id (by omega) (by omega)]; omega
    refine ev_ite (fun k1 => ?_) (fun k1 => ev_ite (fun k2 => ?_) (fun k2 => ?_))
    · refine ev_pos h3 (ev_pos (by omega) ?_)
      rw [show errStep o x = o.set x.f1.toNat x.f2 by unfold errStep; rw [if_pos k1]] at e
      exact ev_eq e (by rw [List.foldl_cons, show errStep o x = o.set x.f1.toNat x.f2 by unfold errStep; rw [if_pos k1]])
    · have q : spec_cut.f o x.f1 = some (errStep o x) := by
        unfold spec_cut.f errStep
        rw [if_pos ⟨h3, by omega, by omega⟩, if_neg k1, if_pos k2, w]; simp
      exact ev_val q (ev_eq e rfl)
    · have q : spec_put.f o x.f1 x.f2 = some (errStep o x) := by
        unfold spec_put.f errStep
        rw [if_pos ⟨h3, by omega, by omega⟩, if_neg k1, if_neg k2]; simp
      exact ev_val q (ev_eq e rfl)
theorem specErrBy_ev (p : List Int) (l : List S95) (hp : p.length ≤ 1048576) (hl : l.length ≤ 1048576) : Ev (fun k => spec_ErrBy.f k p l) (errM p l) := by
  simp only [spec_ErrBy.f, Option.bind_some, List.length_nil, List.nil_append, errM]
  refine ev_pos (by omega) (Ev.bind (specAreSlips_ev l _ hl) (ev_ite (fun h => ?_) (fun h => ?_)))
  · rw [if_pos h]
    obtain ⟨h1, h2, h3⟩ := slips_head h
    exact specErr_l0 l [] p (by simpa using hl) (by omega) h1 h2 h3
  · rw [if_neg h]; exact Ev.now _

theorem implErr_l0 (suf : List S95) : ∀ (pre : List S95) (o : List Int), (pre ++ suf).length ≤ 1048576 → o.length + suf.length ≤ 2097152 → (∀ y ∈ suf, 1 ≤ y.f0 ∧ y.f0 ≤ 3 ∧ 0 ≤ y.f1) → suf.Pairwise (fun a b => b.f1 < a.f1) → (∀ y, suf.head? = some y → slOk y o.length) →
    Ev (fun k => impl_ErrBy.l0 k o (pre ++ suf) ((pre ++ suf).length : Int) (pre.length : Int)) (suf.foldl errStep o, true) := by
  induction suf with
  | nil =>
    intro pre o h _ _ _ _
    refine ev_tail ?_
    simp only [impl_ErrBy.l0]
    exact ev_neg (by simp) (Ev.now _)
  | cons x t ih =>
    intro pre o h ho hm hp hx
    have hx := hx x rfl
    have hlen := (errStep_len hx).2
    have e := ih (pre ++ [x]) (errStep o x) (by simpa using h) (by simp only [List.length_cons] at ho; omega) (fun y hy => hm y (List.mem_cons_of_mem _ hy)) (List.pairwise_cons.1 hp).2 (slOk_next hx hm hp)
    simp only [List.length_append, List.length_cons] at h ho
    obtain ⟨⟨h1, h2, h3⟩, h4⟩ := hx
    refine ev_tail ?_
    simp only [impl_ErrBy.l0]
    refine ev_pos (by simp; omega) (ev_pos (by omega) (ev_pos (by simp; omega) ?_))
    rw [show rd_T95 (pre ++ x :: t) ((pre.length : Nat) : Int) = x from getD_mid pre x t _, wrap_succ (by omega), snoc_cons pre x t, ← length_snoc pre x]
    have w : wrap64 (x.f1 + 1) = x.f1 + 1 := wrap_id (by omega) (by omega)
    refine ev_ite (fun k1 => ?_) (fun k1 => ev_ite (fun k2 => ?_) (fun k2 => ?_))
    · refine ev_pos h3 (ev_pos (by omega) ?_)
      rw [show errStep o x = o.set x.f1.toNat x.f2 by unfold errStep; rw [if_pos k1]] at e
      exact ev_eq e (by rw [List.foldl_cons, show errStep o x = o.set x.f1.toNat x.f2 by unfold errStep; rw [if_pos k1]])
    · have q : slices_Delete_int_int.f o x.f1 (wrap64 (x.f1 + 1)) = some (errStep o x) := by
        unfold slices_Delete_int_int.f errStep
        rw [w, if_pos ⟨h3, by omega, by omega⟩, if_neg k1, if_pos k2, show (x.f1 + 1).toNat = x.f1.toNat + 1 by omega]
      exact ev_val q (ev_eq e rfl)
    · have q : slices_Insert_int_int.f o x.f1 [x.f2] = some (errStep o x) := by
        unfold slices_Insert_int_int.f errStep
        rw [if_pos ⟨⟨h3, by omega⟩, rfl, by omega⟩, if_neg k1, if_neg k2]
      exact ev_val q (ev_eq e rfl)
theorem implErrBy_ev (p : List Int) (l : List S95) (hp : p.length ≤ 1048576) (hl : l.length ≤ 1048576) : Ev (fun k => impl_ErrBy.f k p l) (errM p l) := by
  have hc : impl_clone_int.f p = some p := by unfold impl_clone_int.f; simp; omega
  simp only [impl_ErrBy.f, hc, Option.bind_some, errM]
  refine Ev.bind (implAreSlips_ev l _ hl) (ev_ite (fun h => ?_) (fun h => ?_))
  · rw [if_pos h]
    obtain ⟨h1, h2, h3⟩ := slips_head h
    exact implErr_l0 l [] p (by simpa using hl) (by omega) h1 h2 h3
  · rw [if_neg h]; exact Ev.now _

/-- The first and the last place of a cost that is small enough. -/
def sbGo (e : Int) : List Int → Int → Int × Int → Int × Int
  | [], _, s => s
  | c :: t, i, s => if c ≤ e then sbGo e t (i + 1) (if s.1 < 0 then i else s.1, i) else sbGo e t (i + 1) s
theorem implSurely_l0 (e : Int) (suf : List Int) : ∀ (pre : List Int) (a b : Int), (pre ++ suf).length ≤ 35184372088832 → Ev (fun k => impl_SurelyBetween.l0 k e a b (pre ++ suf) ((pre ++ suf).length : Int) (pre.length : Int)) (sbGo e suf (pre.length : Int) (a, b)) := by
  induction suf with
  | nil =>
    intro pre a b h
    refine ev_tail ?_
    simp only [impl_SurelyBetween.l0]
    exact ev_neg (by simp) (Ev.now _)
  | cons y t ih =>
    intro pre a b h
    have e1 := fun a' b' => ih (pre ++ [y]) a' b' (by simpa using h)
    simp only [List.length_append, List.length_cons] at h
    refine ev_tail ?_
    simp only [impl_SurelyBetween.l0, sbGo]
    refine ev_pos (by simp; omega) (ev_pos (by omega) (ev_pos (by simp; omega) ?_))
    rw [rd_mid, wrap_succ (by omega), snoc_cons pre y t, ← length_snoc pre y]
    refine ev_ite (fun hy => ?_) (fun hy => ?_)
    · rw [if_pos hy]
      refine ev_ite (fun h0 => ?_) (fun h0 => ?_)
      · rw [if_pos h0]; simpa using e1 _ _
      · rw [if_neg h0]; simpa using e1 _ _
    · rw [if_neg hy]; simpa using e1 _ _
def surelyM (l : List Int) (e : Int) : Int × Int := sbGo e l 0 (-1, -1)
theorem implSurely_ev (l : List Int) (x e : Int) (h : l.length ≤ 35184372088832) : Ev (fun k => impl_SurelyBetween.f k l x e) (surelyM l e) := by
  simp only [impl_SurelyBetween.f]
  exact implSurely_l0 e l [] _ _ (by simpa using h)

/-! ### draws -/
/-- Where a reader of draws stands: inside its bytes. -/
def Rd (b : List Int) (i : Int) : Prop := 0 ≤ i ∧ i ≤ (b.length : Int) ∧ b.length ≤ 1048576
theorem and255 (x : Int) : 0 ≤ Go.bits .and .i64 x 255 ∧ Go.bits .and .i64 x 255 ≤ 255 := by
  have h : (BitVec.ofInt IntKind.i64.bits x &&& BitVec.ofInt IntKind.i64.bits 255).toNat ≤ 255 := by
    rw [BitVec.toNat_and]; exact Nat.le_trans Nat.and_le_right (by decide)
  show 0 ≤ IntKind.i64.wrap ((BitVec.ofInt IntKind.i64.bits x &&& BitVec.ofInt IntKind.i64.bits 255).toNat : Int) ∧ IntKind.i64.wrap ((BitVec.ofInt IntKind.i64.bits x &&& BitVec.ofInt IntKind.i64.bits 255).toNat : Int) ≤ 255
  generalize (BitVec.ofInt IntKind.i64.bits x &&& BitVec.ofInt IntKind.i64.bits 255).toNat = n at h ⊢
  simp only [i64_w]
  rw [wrap_id (by omega) (by omega)]
  omega
theorem new_l0 (b : List Int) (hb : b.length ≤ 1048576) (d : Nat) : ∀ (i : Nat) (h : Int), i + d = b.length → ∃ h', Ev (fun k => spec_l1New.l0 k b h (i : Int)) (b, 0, h') := by
  induction d with
  | zero =>
    intro i h hi
    refine ⟨h, ev_tail ?_⟩
    simp only [spec_l1New.l0]
    exact ev_neg (by omega) (Ev.now _)
  | succ d ih =>
    intro i h hi
    by_cases h4 : (i : Int) < 4000
    · obtain ⟨h', e⟩ := ih (i + 1) (Go.bits .and .i64 (wrap64 ((wrap64 ((wrap64 (h * 137)) + (wrap64 (rd b (i : Int))))) + 11)) 1073741823) (by omega)
      refine ⟨h', ev_tail ?_⟩
      simp only [spec_l1New.l0]
      refine ev_pos (by omega) (ev_pos h4 (ev_pos (by omega) ?_))
      rw [wrap_succ (by omega)]
      exact e
    · refine ⟨h, ev_tail ?_⟩
      simp only [spec_l1New.l0]
      exact ev_pos (by omega) (ev_neg h4 (Ev.now _))
theorem new_ok (b : List Int) (hb : b.length ≤ 1048576) : ∃ h', Ev (fun k => spec_l1New.f k b) (b, 0, h') := by
  obtain ⟨h', e⟩ := new_l0 b hb b.length 0 (wrap64 (193017 + (b.length : Int))) (by omega)
  exact ⟨h', by simp only [spec_l1New.f]; exact e⟩
theorem Rd.zero {b : List Int} (hb : b.length ≤ 1048576) : Rd b 0 := ⟨by omega, by omega, hb⟩
theorem byte_ok {b : List Int} {i : Int} (h : Rd b i) (s : Int) : ∃ x i' s', spec_l1Byte.f b i s = some (x, i', s') ∧ (0 ≤ x ∧ x ≤ 255) ∧ Rd b i' := by
  obtain ⟨h1, h2, h3⟩ := h
  unfold spec_l1Byte.f
  by_cases c : i < (b.length : Int)
  · rw [if_pos c, if_pos h1]
    exact ⟨_, _, _, rfl, and255 _, by rw [wrap_id (by omega) (by omega)]; exact ⟨by omega, by omega, h3⟩⟩
  · rw [if_neg c]
    exact ⟨_, _, _, rfl, and255 _, h1, h2, h3⟩
theorem below_ok {b : List Int} {i : Int} (h : Rd b i) (s n : Int) : ∃ x i' s', spec_l1Below.f b i s n = some (x, i', s') ∧ (0 ≤ x ∧ (0 < n → x < n) ∧ (n ≤ 0 → x = 0)) ∧ Rd b i' := by
  unfold spec_l1Below.f
  by_cases c0 : n ≤ 0
  · rw [if_pos c0]
    exact ⟨_, _, _, rfl, ⟨by omega, fun z => by omega, fun _ => rfl⟩, h⟩
  · rw [if_neg c0]
    by_cases c1 : n ≤ 256
    · rw [if_pos c1]
      obtain ⟨x, i', s', e, hx, h'⟩ := byte_ok h s
      rw [e]
      simp only [Option.bind_some]
      rw [if_neg (by omega)]
      exact ⟨_, _, _, rfl, ⟨Int.tmod_nonneg _ hx.1, fun _ => Int.tmod_lt_of_pos _ (by omega), fun z => absurd z c0⟩, h'⟩
    · rw [if_neg c1]
      obtain ⟨x, i1, s1, e1, hx, h1⟩ := byte_ok h s
      obtain ⟨y, i2, s2, e2, hy, h2⟩ := byte_ok h1 s1
      obtain ⟨z, i3, s3, e3, hz, h3⟩ := byte_ok h2 s2
      rw [e1]
      simp only [Option.bind_some, e2, e3]
      rw [if_neg (by omega)]
      refine ⟨_, _, _, rfl, ⟨Int.tmod_nonneg _ ?_, fun _ => Int.tmod_lt_of_pos _ (by omega), fun z => absurd z c0⟩, h3⟩
      rw [wrap_id (n := x * 65536) (by omega) (by omega), wrap_id (n := y * 256) (by omega) (by omega), wrap_id (n := x * 65536 + y * 256) (by omega) (by omega), wrap_id (by omega) (by omega)]
      omega

theorem int_ok {b : List Int} {i : Int} (h : Rd b i) (s : Int) (l : List Int) (hl : 0 < l.length) : ∃ v i' s', spec_l1Int.f b i s l = some (v, i', s') ∧ v ∈ l ∧ Rd b i' := by
  obtain ⟨x, i', s', e, ⟨h0, h1, _⟩, h'⟩ := below_ok h s (l.length : Int)
  have h1 := h1 (by omega)
  unfold spec_l1Int.f
  rw [e]
  simp only [Option.bind_some]
  rw [if_pos h0, if_pos h1]
  refine ⟨_, _, _, rfl, ?_, h'⟩
  have hx : x.toNat < l.length := by omega
  have : rd l x = l[x.toNat] := by simp [rd, List.getD, hx]
  rw [this]
  exact List.getElem_mem hx

theorem once_ok {b : List Int} {i : Int} (h : Rd b i) (s n : Int) : ∃ c i' s', spec_l1Once.f b i s n = some (c, i', s') ∧ Rd b i' := by
  obtain ⟨x, i', s', e, _, h'⟩ := below_ok h s n
  unfold spec_l1Once.f
  rw [e]
  exact ⟨_, _, _, rfl, h'⟩

theorem big_ev (l : List Int) : laws_big.f l = some (decide ((l.length : Int) > 1048576)) := rfl

theorem l15Pitches_l0 (d : Nat) : ∀ (out : List Int) {b : List Int} {i : Int} (h : Rd b i) (s : Int), out.length + d ≤ 40 →
    ∃ l i' s', Ev (fun k => spec_l15Pitches.l0 k out (d : Int) b i s) (l, i', s') ∧ l.length = out.length + d ∧ Rd b i' := by
  induction d with
  | zero =>
    intro out b i h s ho
    refine ⟨out, i, s, ev_tail ?_, rfl, h⟩
    simp only [spec_l15Pitches.l0]
    exact ev_neg (by omega) (Ev.now _)
  | succ d ih =>
    intro out b i h s ho
    obtain ⟨x, i1, s1, e1, _, h1⟩ := below_ok h s 6
    obtain ⟨l, i2, s2, e2, hl, h2⟩ := ih (out ++ [wrap64 (60 + x)]) h1 s1 (by simp; omega)
    refine ⟨l, i2, s2, ev_tail ?_, by simp at hl; omega, h2⟩
    simp only [spec_l15Pitches.l0, e1, Option.bind_some]
    refine ev_pos (by omega) (ev_pos (by omega) ?_)
    rw [show wrap64 (((d + 1 : Nat) : Int) - 1) = (d : Int) by rw [wrap_id (by omega) (by omega)]; omega]
    exact e2
theorem l15Pitches_ok {b : List Int} {i : Int} (h : Rd b i) (s n : Int) (h0 : 0 < n) (hn : n ≤ 40) : ∃ l i' s', Ev (fun k => spec_l15Pitches.f k b i s n) (l, i', s') ∧ (l.length : Int) < n ∧ Rd b i' := by
  obtain ⟨x, i1, s1, e1, ⟨x0, x1, _⟩, h1⟩ := below_ok h s n
  have x1 := x1 h0
  obtain ⟨l, i2, s2, e2, hl, h2⟩ := l15Pitches_l0 x.toNat [] h1 s1 (by simp; omega)
  rw [show ((x.toNat : Nat) : Int) = x by omega] at e2
  refine ⟨l, i2, s2, ?_, by simp at hl; omega, h2⟩
  simp only [spec_l15Pitches.f, e1, Option.bind_some]
  exact e2
theorem l15Draw_j1 (n : Int) (out : List S95) (x : Int) (c : Bool) {b : List Int} {i : Int} (h : Rd b i) (s : Int) (ho : out.length ≤ 2000) {P : List S95 → Int → Int → Prop}
    (e : ∀ (o : List S95) {j : Int} (hj : Rd b j) (t : Int), o.length ≤ out.length + 1 → ∃ l i' s', Ev (fun k => spec_l15Draw.l0 k n o (wrap64 (x - 1)) b j t) (l, i', s') ∧ P l i' s') :
    ∃ l i' s', Ev (fun k => spec_l15Draw.j1 k n out x c b i s) (l, i', s') ∧ P l i' s' := by
  cases c with
  | true =>
    obtain ⟨l, i', s', e1, hp⟩ := e out h s (by omega)
    refine ⟨l, i', s', ev_tail ?_, hp⟩
    simp only [spec_l15Draw.j1]
    exact ev_pos (by trivial) e1
  | false =>
    obtain ⟨r, i1, s1, e1, _, h1⟩ := below_ok h s 3
    obtain ⟨p, i2, s2, e2, _, h2⟩ := below_ok h1 s1 6
    by_cases hx : x = n
    · obtain ⟨l, i', s', e3, hp⟩ := e (out ++ [⟨3, x, wrap64 (60 + p)⟩]) h2 s2 (by simp)
      refine ⟨l, i', s', ev_tail ?_, hp⟩
      simp only [spec_l15Draw.j1, e1, e2, Option.bind_some]
      exact ev_neg (by simp) (ev_pos hx (ev_neg (by omega) (ev_pos (by omega) e3)))
    · by_cases h2' : wrap64 (1 + r) = 2
      · obtain ⟨l, i', s', e3, hp⟩ := e (out ++ [⟨wrap64 (1 + r), x, 0⟩]) h2 s2 (by simp)
        refine ⟨l, i', s', ev_tail ?_, hp⟩
        simp only [spec_l15Draw.j1, e1, e2, Option.bind_some]
        exact ev_neg (by simp) (ev_neg hx (ev_pos h2' (ev_pos (by omega) e3)))
      · obtain ⟨l, i', s', e3, hp⟩ := e (out ++ [⟨wrap64 (1 + r), x, wrap64 (60 + p)⟩]) h2 s2 (by simp)
        refine ⟨l, i', s', ev_tail ?_, hp⟩
        simp only [spec_l15Draw.j1, e1, e2, Option.bind_some]
        exact ev_neg (by simp) (ev_neg hx (ev_neg h2' (ev_pos (by omega) e3)))
theorem l15Draw_l0 (n : Int) (d : Nat) : ∀ (out : List S95) {b : List Int} {i : Int} (h : Rd b i) (s : Int), out.length + d ≤ 1000 →
    ∃ l i' s', Ev (fun k => spec_l15Draw.l0 k n out ((d : Int) - 1) b i s) (l, i', s') ∧ l.length ≤ 1000 ∧ Rd b i' := by
  induction d with
  | zero =>
    intro out b i h s ho
    refine ⟨out, i, s, ev_tail ?_, by omega, h⟩
    simp only [spec_l15Draw.l0]
    exact ev_neg (by omega) (Ev.now _)
  | succ d ih =>
    intro out b i h s ho
    have e : ∀ (o : List S95) {j : Int} (hj : Rd b j) (t : Int), o.length ≤ out.length + 1 → ∃ l i' s', Ev (fun k => spec_l15Draw.l0 k n o (wrap64 ((((d + 1 : Nat) : Int) - 1) - 1)) b j t) (l, i', s') ∧ (l.length ≤ 1000 ∧ Rd b i') := by
      intro o j hj t hl
      rw [show wrap64 ((((d + 1 : Nat) : Int) - 1) - 1) = (d : Int) - 1 by rw [wrap_id (by omega) (by omega)]; omega]
      exact ih o hj t (by omega)
    obtain ⟨c, i1, s1, e1, h1⟩ := once_ok h s 4
    cases c with
    | true =>
      obtain ⟨l, i2, s2, e2, hl⟩ := l15Draw_j1 n out (((d + 1 : Nat) : Int) - 1) (decide ((out.length : Int) ≥ 8)) h1 s1 (by omega) (P := fun l i' _ => l.length ≤ 1000 ∧ Rd b i') e
      refine ⟨l, i2, s2, ev_tail ?_, hl⟩
      simp only [spec_l15Draw.l0, e1, Option.bind_some]
      exact ev_pos (by omega) (ev_pos (by trivial) e2)
    | false =>
      obtain ⟨l, i2, s2, e2, hl⟩ := l15Draw_j1 n out (((d + 1 : Nat) : Int) - 1) true h1 s1 (by omega) (P := fun l i' _ => l.length ≤ 1000 ∧ Rd b i') e
      refine ⟨l, i2, s2, ev_tail ?_, hl⟩
      simp only [spec_l15Draw.l0, e1, Option.bind_some]
      exact ev_pos (by omega) (ev_neg (by simp) e2)
theorem l15Draw_ok {b : List Int} {i : Int} (h : Rd b i) (s n : Int) (h0 : 0 ≤ n) (hn : n ≤ 40) : ∃ l i' s', Ev (fun k => spec_l15Draw.f k b i s n) (l, i', s') ∧ l.length ≤ 1000 ∧ Rd b i' := by
  simp only [spec_l15Draw.f]
  have e := l15Draw_l0 n (n.toNat + 1) [] h s (by simp; omega)
  rw [show (((n.toNat + 1 : Nat) : Int) - 1) = n by omega] at e
  exact e

theorem pair_l0 (p : List Int) {b : List Int} {i : Int} (s : Int) (d : Nat) : ∀ q : List Int, 41 - q.length ≤ d → q.length ≤ 60 → ∃ l, Ev (fun k => spec_l16Pair.l0 k p q b i s) (p, l, i, s) ∧ l.length ≤ 60 := by
  induction d with
  | zero =>
    intro q hq h60
    refine ⟨q, ev_tail ?_, h60⟩
    simp only [spec_l16Pair.l0]
    exact ev_neg (by omega) (Ev.now _)
  | succ d ih =>
    intro q hq h60
    by_cases h : (q.length : Int) < 41
    · obtain ⟨l, e, hl⟩ := ih (q ++ [60]) (by simp; omega) (by simp; omega)
      refine ⟨l, ev_tail ?_, hl⟩
      simp only [spec_l16Pair.l0]
      exact ev_pos h (ev_pos (by omega) e)
    · refine ⟨q, ev_tail ?_, h60⟩
      simp only [spec_l16Pair.l0]
      exact ev_neg h (Ev.now _)
theorem pair_j0 (p q : List Int) (hq : q.length ≤ 60) {b : List Int} {i : Int} (h : Rd b i) (s : Int) : ∃ l i' s', Ev (fun k => spec_l16Pair.j0 k p q b i s) (p, l, i', s') ∧ l.length ≤ 60 ∧ Rd b i' := by
  obtain ⟨c, i1, s1, e1, h1⟩ := once_ok h s 12
  cases c with
  | true =>
    obtain ⟨l, e2, hl⟩ := pair_l0 p (b := b) (i := i1) s1 41 q (by omega) hq
    refine ⟨l, i1, s1, ev_tail ?_, hl, h1⟩
    simp only [spec_l16Pair.j0, e1, Option.bind_some]
    exact ev_pos (by trivial) e2
  | false =>
    refine ⟨q, i1, s1, ev_tail ?_, hq, h1⟩
    simp only [spec_l16Pair.j0, e1, Option.bind_some]
    exact ev_neg (by simp) (Ev.now _)
theorem l16Pair_ok {b : List Int} {i : Int} (h : Rd b i) (s : Int) : ∃ p q i' s', Ev (fun k => spec_l16Pair.f k b i s) (p, q, i', s') ∧ p.length ≤ 60 ∧ q.length ≤ 60 ∧ Rd b i' := by
  obtain ⟨p, i1, s1, e1, hp, h1⟩ := l15Pitches_ok h s 12 (by omega) (by omega)
  obtain ⟨sl, i2, s2, e2, hs, h2⟩ := l15Draw_ok h1 s1 (p.length : Int) (by omega) (by omega)
  have e3 := specErrBy_ev p sl (by omega) (by omega)
  have hlen := errM_length p sl
  obtain ⟨c, i3, s3, e4, h3⟩ := once_ok h2 s2 4
  cases c with
  | true =>
    obtain ⟨q, i4, s4, e5, hq, h4⟩ := l15Pitches_ok h3 s3 12 (by omega) (by omega)
    obtain ⟨l, i5, s5, e6, hl, h5⟩ := pair_j0 p q (by omega) h4 s4
    refine ⟨p, l, i5, s5, ?_, by omega, hl, h5⟩
    simp only [spec_l16Pair.f]
    refine Ev.bind e1 (Ev.bind e2 (Ev.bind e3 ?_))
    simp only [e4, Option.bind_some]
    exact ev_pos (by trivial) (Ev.bind e5 e6)
  | false =>
    obtain ⟨l, i5, s5, e6, hl, h5⟩ := pair_j0 p (errM p sl).1 (by omega) h3 s3
    refine ⟨p, l, i5, s5, ?_, by omega, hl, h5⟩
    simp only [spec_l16Pair.f]
    refine Ev.bind e1 (Ev.bind e2 (Ev.bind e3 ?_))
    simp only [e4, Option.bind_some]
    exact ev_neg (by simp) e6

theorem l15Any_ok {b : List Int} {i : Int} (h : Rd b i) (s n : Int) (h0 : 0 ≤ n) (hn : n ≤ 40) : ∃ l i' s', Ev (fun k => spec_l15Any.f k b i s n) (l, i', s') ∧ l.length ≤ 1000 ∧ Rd b i' := by
  obtain ⟨l, i1, s1, e1, hl, h1⟩ := l15Draw_ok h s n h0 hn
  by_cases c0 : (l.length : Int) = 0
  · refine ⟨l, i1, s1, ?_, hl, h1⟩
    simp only [spec_l15Any.f]
    exact Ev.bind e1 (ev_pos c0 (Ev.now _))
  obtain ⟨x, i2, s2, e2, ⟨x0, x1, _⟩, h2⟩ := below_ok h1 s1 (l.length : Int)
  have x1 := x1 (by omega)
  obtain ⟨y, i3, s3, e3, _, h3⟩ := below_ok h2 s2 9
  by_cases c1 : y = 0
  · obtain ⟨v, i4, s4, e4, _, h4⟩ := int_ok h3 s3 [0, 4, 2] (by decide)
    refine ⟨l.set x.toNat ⟨v, (rd_T95 l x).f1, (rd_T95 l x).f2⟩, i4, s4, ?_, by rw [List.length_set]; exact hl, h4⟩
    simp only [spec_l15Any.f]
    refine Ev.bind e1 (ev_neg c0 ?_)
    simp only [e2, e3, Option.bind_some]
    refine ev_pos c1 ?_
    simp only [e4, Option.bind_some]
    exact ev_pos x0 (ev_pos x1 (Ev.now _))
  by_cases c2 : y = 1
  · obtain ⟨v, i4, s4, e4, _, h4⟩ := int_ok h3 s3 [-1, n, wrap64 (n + 1)] (by simp)
    refine ⟨l.set x.toNat ⟨(rd_T95 l x).f0, v, (rd_T95 l x).f2⟩, i4, s4, ?_, by rw [List.length_set]; exact hl, h4⟩
    simp only [spec_l15Any.f]
    refine Ev.bind e1 (ev_neg c0 ?_)
    simp only [e2, e3, Option.bind_some]
    refine ev_neg c1 (ev_pos c2 ?_)
    simp only [e4, Option.bind_some]
    exact ev_pos x0 (ev_pos x1 (Ev.now _))
  by_cases c3 : y = 2
  · obtain ⟨v, i4, s4, e4, _, h4⟩ := int_ok h3 s3 [-1, 127, 128] (by decide)
    refine ⟨l.set x.toNat ⟨(rd_T95 l x).f0, (rd_T95 l x).f1, v⟩, i4, s4, ?_, by rw [List.length_set]; exact hl, h4⟩
    simp only [spec_l15Any.f]
    refine Ev.bind e1 (ev_neg c0 ?_)
    simp only [e2, e3, Option.bind_some]
    refine ev_neg c1 (ev_neg c2 (ev_pos c3 ?_))
    simp only [e4, Option.bind_some]
    exact ev_pos x0 (ev_pos x1 (Ev.now _))
  · refine ⟨l, i3, s3, ?_, hl, h3⟩
    simp only [spec_l15Any.f]
    refine Ev.bind e1 (ev_neg c0 ?_)
    simp only [e2, e3, Option.bind_some]
    exact ev_neg c1 (ev_neg c2 (ev_neg c3 (Ev.now _)))
theorem drawErr_ok (b : List Int) (hb : b.length ≤ 1048576) : ∃ p l, Ev (fun k => spec_DrawErrBy.f k b) (p, l) ∧ p.length ≤ 14 ∧ l.length ≤ 1000 := by
  obtain ⟨s0, e0⟩ := new_ok b hb
  obtain ⟨p, i1, s1, e1, hp, h1⟩ := l15Pitches_ok (Rd.zero hb) s0 14 (by omega) (by omega)
  obtain ⟨l, i2, s2, e2, hl, h2⟩ := l15Any_ok h1 s1 (p.length : Int) (by omega) (by omega)
  refine ⟨p, l, ?_, by omega, hl⟩
  simp only [spec_DrawErrBy.f]
  exact Ev.bind e0 (Ev.bind e1 (Ev.bind e2 (Ev.now _)))

theorem l17Case_ok {b : List Int} {i : Int} (h : Rd b i) (s : Int) : ∃ t p i' s', Ev (fun k => spec_l17Case.f k b i s) (t, p, i', s') ∧ t.length ≤ 13 ∧ p.length ≤ 21 ∧ Rd b i' := by
  obtain ⟨t, i1, s1, e1, ht, h1⟩ := l15Pitches_ok h s 14 (by omega) (by omega)
  obtain ⟨n, i2, s2, e2, ⟨n0, n1, _⟩, h2⟩ := below_ok h1 s1 ((t.length : Int) + 1)
  have n1 := n1 (by omega)
  obtain ⟨sl, i3, s3, e3, hs, h3⟩ := l15Draw_ok h2 s2 n n0 (by omega)
  have e4 := specErrBy_ev (t.take n.toNat) sl (by rw [List.length_take]; omega) (by omega)
  have hlen := errM_length (t.take n.toNat) sl
  rw [List.length_take] at hlen
  refine ⟨t, (errM (t.take n.toNat) sl).1, i3, s3, ?_, by omega, by omega, h3⟩
  simp only [spec_l17Case.f]
  refine Ev.bind e1 ?_
  dsimp only
  rw [wrap_id (n := (t.length : Int) + 1) (by omega) (by omega)]
  simp only [e2, Option.bind_some]
  refine ev_pos n0 (ev_pos (by omega) (Ev.bind e3 (Ev.bind e4 (ev_pos (by simp; omega) ?_))))
  exact Ev.now _
theorem l4Raw_ok {b : List Int} {i : Int} (h : Rd b i) (s : Int) : ∃ w i' s', spec_l4Raw.f b i s = some (w, i', s') ∧ Rd b i' := by
  obtain ⟨v, i1, s1, e1, _, h1⟩ := int_ok h s [-1, 0, 1, 1000000000, -1000000000, 1000000001, 1000000, 1000001, 9223372036854775807, -9223372036854775808] (by decide)
  unfold spec_l4Raw.f
  rw [e1]
  exact ⟨_, _, _, rfl, h1⟩
/-- What a follower's draw gives: a tune and any row and number. -/
theorem l17Any_ok {b : List Int} {i : Int} (h : Rd b i) (s : Int) : ∃ t l x i' s', Ev (fun k => spec_l17Any.f k b i s) (t, l, x, i', s') ∧ t.length ≤ 13 ∧ l.length ≤ 41 ∧ Rd b i' := by
  obtain ⟨t, p, i1, s1, e1, ht, hp, h1⟩ := l17Case_ok h s
  have hs := startM_length t
  have hlen := hearM_length t p (startM t).1 (startM t).2.1
  have e3 := specHearAll_ev t (startM t).1 (startM t).2.1 p (by omega) (by omega) (by omega)
  generalize hq : hearM t (startM t).1 (startM t).2.1 p = q at hlen e3
  have hst : (startM t).1.length = t.length + 1 := by unfold startM; rw [if_pos (by omega), countI_length]
  obtain ⟨r, i2, s2, e2, _, h2⟩ := below_ok h1 s1 9
  by_cases c0 : r = 0
  · obtain ⟨j, i3, s3, e4, ⟨j0, j1, _⟩, h3⟩ := below_ok h2 s2 (q.1.length : Int)
    have j1 := j1 (by omega)
    obtain ⟨v, i4, s4, e5, h4⟩ := l4Raw_ok h3 s3
    refine ⟨t, q.1.set j.toNat v, q.2, i4, s4, ?_, ht, by rw [List.length_set]; omega, h4⟩
    simp only [spec_l17Any.f]
    refine Ev.bind e1 (Ev.bind (specStartFollower_ev t) (Ev.bind e3 ?_))
    simp only [e2, Option.bind_some]
    refine ev_pos c0 ?_
    simp only [e4, e5, Option.bind_some]
    exact ev_pos j0 (ev_pos j1 (Ev.now _))
  by_cases c1 : r = 1
  · obtain ⟨v, i4, s4, e5, _, h4⟩ := int_ok h2 s2 [-1, 500, 501, 1000, 1001] (by decide)
    refine ⟨t, q.1, v, i4, s4, ?_, ht, by omega, h4⟩
    simp only [spec_l17Any.f]
    refine Ev.bind e1 (Ev.bind (specStartFollower_ev t) (Ev.bind e3 ?_))
    simp only [e2, Option.bind_some]
    refine ev_neg c0 (ev_pos c1 ?_)
    simp only [e5, Option.bind_some]
    exact Ev.now _
  by_cases c2 : r = 2
  · refine ⟨t, q.1.drop (1 : Int).toNat, q.2, i2, s2, ?_, ht, by rw [List.length_drop]; omega, h2⟩
    simp only [spec_l17Any.f]
    refine Ev.bind e1 (Ev.bind (specStartFollower_ev t) (Ev.bind e3 ?_))
    simp only [e2, Option.bind_some]
    exact ev_neg c0 (ev_neg c1 (ev_pos c2 (ev_pos (by omega) (Ev.now _))))
  · refine ⟨t, q.1, q.2, i2, s2, ?_, ht, by omega, h2⟩
    simp only [spec_l17Any.f]
    refine Ev.bind e1 (Ev.bind (specStartFollower_ev t) (Ev.bind e3 ?_))
    simp only [e2, Option.bind_some]
    exact ev_neg c0 (ev_neg c1 (ev_neg c2 (Ev.now _)))
theorem drawStep_ok (b : List Int) (hb : b.length ≤ 1048576) : ∃ t l x p, Ev (fun k => spec_DrawStepFollower.f k b) (t, l, x, p) ∧ t.length ≤ 13 ∧ l.length ≤ 41 := by
  obtain ⟨s0, e0⟩ := new_ok b hb
  obtain ⟨t, l, x, i1, s1, e1, ht, hl, h1⟩ := l17Any_ok (Rd.zero hb) s0
  obtain ⟨p, i2, s2, e2, _, h2⟩ := below_ok (Rd.zero hb) s0 7
  refine ⟨t, l, x, wrap64 (60 + p), ?_, ht, hl⟩
  have e3 : Ev (fun k => spec_DrawIsFollower.f k b) (t, l, x) := by
    simp only [spec_DrawIsFollower.f]
    exact Ev.bind e0 (Ev.bind e1 (Ev.now _))
  simp only [spec_DrawStepFollower.f]
  refine Ev.bind e3 (Ev.bind e0 ?_)
  simp only [e2, Option.bind_some]
  exact Ev.now _

/-! ### the row by its places -/
/-- The cost at a place once a pitch is heard, by the place. -/
def stepN (t l : List Int) (p : Int) : Nat → Int
  | 0 => rd l 0 + 1
  | i + 1 => min (min (rd l ((i : Int) + 1) + 1) (stepN t l p i + 1)) (rd l (i : Int) + unl1 (rd t (i : Int)) p)
theorem rd_drop (l : List Int) (i : Nat) (h : i < l.length) : l.drop i = rd l (i : Int) :: l.drop (i + 1) := by
  rw [List.drop_eq_getElem_cons h, rd_nat, List.getD_eq_getElem?_getD, List.getElem?_eq_getElem h, Option.getD_some]
theorem folRow_N (t l : List Int) (p : Int) (hl : l.length = t.length + 1) (d : Nat) : ∀ i : Nat, i + d = t.length →
    folRow p (t.drop i) (rd l (i : Int)) (stepN t l p i) (l.drop (i + 1)) = (List.range d).map fun j => stepN t l p (i + 1 + j) := by
  induction d with
  | zero =>
    intro i h
    rw [List.drop_of_length_le (by omega)]
    simp [folRow]
  | succ d ih =>
    intro i h
    have e := ih (i + 1) (by omega)
    rw [rd_drop t i (by omega), rd_drop l (i + 1) (by omega)]
    have hv : stepV p (rd t (i : Int)) (rd l (i : Int)) (stepN t l p i) (rd l ((i + 1 : Nat) : Int)) = stepN t l p (i + 1) := by
      simp only [stepV, stepN]
      rw [show ((i + 1 : Nat) : Int) = (i : Int) + 1 by omega]
    simp only [folRow]
    rw [hv, e, List.range_succ_eq_map, List.map_cons, List.map_map]
    refine congrArg (List.cons _) ?_
    refine List.map_congr_left fun j _ => ?_
    simp only [Function.comp_apply]
    congr 1
    omega
theorem stepRow_N (t l : List Int) (x p : Int) (hl : l.length = t.length + 1) : stepRow t l x p = ((List.range l.length).map (stepN t l p), x + 1) := by
  have e := folRow_N t l p hl t.length 0 (by omega)
  cases l with
  | nil => simp at hl
  | cons c cs =>
    simp only [stepRow]
    have h0 : stepN t (c :: cs) p 0 = c + 1 := rfl
    rw [h0] at e
    simp only [List.drop_zero, Nat.zero_add, List.drop_succ_cons] at e
    rw [show rd (c :: cs) ((0 : Nat) : Int) = c from rfl] at e
    rw [e, hl, List.range_succ_eq_map, List.map_cons, List.map_map, h0]
    refine congrArg (fun z => ((c + 1) :: z, x + 1)) ?_
    refine List.map_congr_left fun j _ => ?_
    simp only [Function.comp_apply]
    congr 1
    omega
/-- A row that a tune's follower has after x pitches: small, and steps of one. -/
def rowOK (t l : List Int) (x : Int) : Prop := l.length = t.length + 1 ∧ t.length ≤ 40 ∧ 0 ≤ x ∧ (∀ i : Nat, i ≤ t.length → 0 ≤ rd l (i : Int) ∧ rd l (i : Int) ≤ (i : Int) + x) ∧ ∀ i : Nat, i < t.length → rd l (i : Int) - 1 ≤ rd l ((i : Int) + 1) ∧ rd l ((i : Int) + 1) ≤ rd l (i : Int) + 1
theorem rd_map_range (f : Nat → Int) (n i : Nat) (h : i < n) : rd ((List.range n).map f) (i : Int) = f i := by
  rw [rd_nat, List.getD_eq_getElem?_getD, List.getElem?_map, List.getElem?_range h]
  rfl
theorem rowOK_start (t : List Int) (h : t.length ≤ 40) : rowOK t (countI (t.length + 1)) 0 := by
  have hr : ∀ i : Nat, i ≤ t.length → rd (countI (t.length + 1)) (i : Int) = (i : Int) := fun i hi => rd_map_range _ _ i (by omega)
  refine ⟨countI_length _, h, Int.le_refl _, fun i hi => ?_, fun i hi => ?_⟩
  · rw [hr i hi]; omega
  · rw [hr i (by omega), show ((i : Int) + 1) = ((i + 1 : Nat) : Int) by omega, hr (i + 1) (by omega)]; omega
theorem stepN_ok {t l : List Int} {x : Int} (h : rowOK t l x) (p : Int) : ∀ i : Nat, i ≤ t.length → 0 ≤ stepN t l p i ∧ stepN t l p i ≤ (i : Int) + (x + 1) ∧ stepN t l p i ≤ rd l (i : Int) + 1 := by
  obtain ⟨h1, h2, h3, h4, h5⟩ := h
  intro i
  induction i with
  | zero =>
    intro hi
    have := h4 0 (by omega)
    simp only [stepN, Int.natCast_zero] at this ⊢
    omega
  | succ i ih =>
    intro hi
    have a := ih (by omega)
    have b := h4 i (by omega)
    have c := h4 (i + 1) hi
    have u := unl1_le (rd t (i : Int)) p
    simp only [stepN]
    rw [show ((i + 1 : Nat) : Int) = (i : Int) + 1 by omega] at c ⊢
    omega
theorem stepN_near {t l : List Int} {x : Int} (h : rowOK t l x) (p : Int) (i : Nat) (hi : i < t.length) : stepN t l p i - 1 ≤ stepN t l p (i + 1) ∧ stepN t l p (i + 1) ≤ stepN t l p i + 1 := by
  have a := stepN_ok h p i (by omega)
  obtain ⟨h1, h2, h3, h4, h5⟩ := h
  have b := h5 i hi
  have u := unl1_le (rd t (i : Int)) p
  simp only [stepN]
  omega
theorem rowOK_next {t l : List Int} {x : Int} (h : rowOK t l x) (p : Int) : rowOK t ((List.range l.length).map (stepN t l p)) (x + 1) := by
  have h' := h
  obtain ⟨h1, h2, h3, h4, h5⟩ := h
  refine ⟨by simp [h1], h2, by omega, fun i hi => ?_, fun i hi => ?_⟩
  · rw [rd_map_range _ _ i (by omega)]
    have := stepN_ok h' p i hi
    omega
  · rw [show ((i : Int) + 1) = ((i + 1 : Nat) : Int) by omega, rd_map_range _ _ i (by omega), rd_map_range _ _ (i + 1) (by omega)]
    exact stepN_near h' p i hi
theorem rowOK_fol {t l : List Int} {x : Int} (h : rowOK t l x) (hx : x ≤ 500) : folM t l x = true := by
  obtain ⟨h1, h2, h3, h4, h5⟩ := h
  unfold folM
  rw [allF_iff]
  refine ⟨decide_eq_true (by omega), fun j _ hj => ?_⟩
  have a := h4 j (by omega)
  unfold folC
  refine decide_eq_true ⟨by omega, by omega, fun hp => ?_⟩
  have b := h5 (j - 1) (by omega)
  have c := h4 (j - 1) (by omega)
  rw [show ((j - 1 : Nat) : Int) = (j : Int) - 1 by omega] at b c
  rw [show ((j : Int) - 1 + 1) = (j : Int) by omega] at b
  rw [wrap_id (by omega) (by omega)]
  omega
theorem step_row {t l : List Int} {x : Int} (h : rowOK t l x) (hx : x ≤ 400) (p : Int) : stepM t l x p = ((List.range l.length).map (stepN t l p), x + 1) := by
  unfold stepM
  rw [if_pos ⟨rowOK_fol h (by omega), by omega⟩, stepRow_N t l x p h.1]

/-! ### what is heard makes the row of distances -/
def rowEd (p q : List Int) (j : Nat) : List Int := (List.range (p.length + 1)).map fun i => ((ed p q i j : Nat) : Int)
theorem rowEd_length (p q : List Int) (j : Nat) : (rowEd p q j).length = p.length + 1 := by simp [rowEd]
theorem rowEd_at (p q : List Int) (j i : Nat) (h : i ≤ p.length) : rd (rowEd p q j) (i : Int) = ((ed p q i j : Nat) : Int) := rd_map_range (fun i => ((ed p q i j : Nat) : Int)) _ i (by omega)
theorem rowEd_start (p q : List Int) : countI (p.length + 1) = rowEd p q 0 := by
  unfold countI rowEd
  refine List.map_congr_left fun i _ => ?_
  rw [ed_left]
theorem rowEd_step (p q : List Int) (j : Nat) (hj : j < q.length) : ∀ i : Nat, i ≤ p.length → stepN p (rowEd p q j) (q.getD j 0) i = ((ed p q i (j + 1) : Nat) : Int) := by
  intro i
  induction i with
  | zero =>
    intro _
    have := rowEd_at p q j 0 (by omega)
    simp only [stepN, Int.natCast_zero] at this ⊢
    rw [this, ed_zero, ed_zero]
    omega
  | succ i ih =>
    intro hi
    have a := rowEd_at p q j i (by omega)
    have b := rowEd_at p q j (i + 1) hi
    rw [show ((i + 1 : Nat) : Int) = (i : Int) + 1 by omega] at b
    simp only [stepN]
    rw [a, b, ih (by omega), ed_succ, rd_nat]
    have u : unl1 (p.getD i 0) (q.getD j 0) = ((unl p q i j : Nat) : Int) := by unfold unl1 unl; split <;> rfl
    rw [u]
    omega
theorem hear_ed (p q : List Int) (hq : q.length ≤ 300) (suf : List Int) : ∀ pre : List Int, q = pre ++ suf → rowOK p (rowEd p q pre.length) (pre.length : Int) →
    hearM p (rowEd p q pre.length) (pre.length : Int) suf = (rowEd p q q.length, (q.length : Int)) ∧ rowOK p (rowEd p q q.length) (q.length : Int) := by
  induction suf with
  | nil =>
    intro pre h ho
    rw [List.append_nil] at h
    subst h
    exact ⟨rfl, ho⟩
  | cons y t ih =>
    intro pre h ho
    have hlen : pre.length + (t.length + 1) = q.length := by rw [h]; simp
    have hy : q.getD pre.length 0 = y := by rw [h]; exact getD_mid pre y t 0
    have e2 := step_row ho (by omega) y
    have hm : (List.range (rowEd p q pre.length).length).map (stepN p (rowEd p q pre.length) y) = rowEd p q (pre.length + 1) := by
      rw [rowEd_length]
      refine List.map_congr_left fun i hi => ?_
      have := List.mem_range.1 hi
      rw [← hy]
      exact rowEd_step p q pre.length (by omega) i (by omega)
    have hn := rowOK_next ho y
    rw [hm] at hn e2
    have r := ih (pre ++ [y]) (by rw [h]; simp) (by rw [length_snoc]; rw [show ((pre.length + 1 : Nat) : Int) = (pre.length : Int) + 1 by omega]; exact hn)
    rw [length_snoc] at r
    refine ⟨?_, r.2⟩
    rw [← r.1]
    unfold hearM
    rw [List.foldl_cons]
    simp only [e2]
    rw [show ((pre.length + 1 : Nat) : Int) = (pre.length : Int) + 1 by omega]
theorem hear_all (p q : List Int) (hp : p.length ≤ 40) (hq : q.length ≤ 300) : hearM p (startM p).1 (startM p).2.1 q = (rowEd p q q.length, (q.length : Int)) ∧ rowOK p (rowEd p q q.length) (q.length : Int) := by
  have hs : startM p = (countI (p.length + 1), 0, true) := by unfold startM; rw [if_pos hp]
  have h0 := rowOK_start p hp
  rw [hs]
  dsimp only
  rw [rowEd_start p q] at h0 ⊢
  exact hear_ed p q hq q [] rfl h0
theorem best_at (l : List Int) (h0 : l ≠ []) : bestM l = rd l (posM l) := by
  obtain ⟨q, h⟩ := isPos_ex l l.length (by cases l with | nil => exact absurd rfl h0 | cons y t => simp) (Nat.le_refl _)
  obtain ⟨h1, h2⟩ := posM_of l q h
  rw [h1, h2, rd_nat]

/-! ### slips that change something, and the distance -/
def realB (p : List Int) (x : S95) : Nat := if x.f0 = 1 ∧ rd p x.f1 = x.f2 then 0 else 1
def realN (p : List Int) (l : List S95) : Nat := (l.map (realB p)).sum
theorem count_l0 (p : List Int) (suf : List S95) : ∀ (pre : List S95) (c : Nat), (pre ++ suf).length ≤ 1048576 → c ≤ pre.length → (∀ x ∈ suf, slP (p.length : Int) x) →
    Ev (fun k => impl_CountReal.l0 k p (c : Int) (pre ++ suf) ((pre ++ suf).length : Int) (pre.length : Int)) ((c + realN p suf : Nat) : Int) := by
  induction suf with
  | nil =>
    intro pre c h hc hs
    refine ev_tail ?_
    simp only [impl_CountReal.l0]
    exact ev_neg (by simp) (ev_eq (Ev.now _) (by simp [realN]))
  | cons x t ih =>
    intro pre c h hc hs
    have hx := hs x (by simp)
    have hr : rd_T95 (pre ++ x :: t) ((pre.length : Nat) : Int) = x := getD_mid pre x t _
    have hlen : pre.length + (t.length + 1) ≤ 1048576 := by simpa using h
    have key : ∀ d : Nat, d ≤ 1 → realB p x = d → Ev (fun k => impl_CountReal.l0 k p ((c + d : Nat) : Int) (pre ++ x :: t) ((pre ++ x :: t).length : Int) (wrap64 ((pre.length : Int) + 1))) ((c + realN p (x :: t) : Nat) : Int) := by
      intro d hd hb
      have e := ih (pre ++ [x]) (c + d) (by simpa using h) (by simp; omega) (fun y hy => hs y (by simp [hy]))
      rw [wrap_succ (by omega), snoc_cons pre x t, ← length_snoc pre x]
      refine ev_eq e ?_
      unfold realN
      simp only [List.map_cons, List.sum_cons]
      omega
    have k0 := key 0 (by omega)
    have k1 := key 1 (by omega)
    rw [Nat.add_zero] at k0
    have wc : wrap64 ((c : Int) + 1) = ((c + 1 : Nat) : Int) := wrap_succ (by omega)
    refine ev_tail ?_
    simp only [impl_CountReal.l0, hr, wc]
    refine ev_pos (by simp; omega) (ev_pos (by omega) (ev_pos (by simp; omega) (ev_ite (fun h1 => ?_) (fun h1 => k1 ?_))))
    · obtain ⟨_, _, a3, a4, _⟩ := hx
      rw [if_neg (by omega)] at a4
      refine ev_pos a3 (ev_pos (by omega) (ev_ite (fun h2 => k0 ?_) (fun h2 => k1 ?_)))
      · unfold realB; rw [if_pos ⟨h1, h2⟩]
      · unfold realB; rw [if_neg (fun z => h2 z.2)]
    · unfold realB; rw [if_neg (fun z => h1 z.1)]
def countM (p : List Int) (l : List S95) : Int := if slipsM l (p.length : Int) = true then ((realN p l : Nat) : Int) else 0
theorem implCountReal_ev (p : List Int) (l : List S95) (hl : l.length ≤ 1048576) : Ev (fun k => impl_CountReal.f k p l) (countM p l) := by
  simp only [impl_CountReal.f, countM]
  refine Ev.bind (implAreSlips_ev l _ hl) (ev_ite (fun h => ?_) (fun h => ?_))
  · rw [if_pos h]
    have e := count_l0 p l [] 0 (by simpa using hl) (by simp) (slips_facts h).2.2.2.1
    simp only [List.nil_append, List.length_nil, Nat.zero_add] at e
    exact e
  · rw [if_neg h]; exact Ev.now _
theorem take_split (p : List Int) (i m : Nat) (h : i ≤ m) : p.take m = p.take i ++ (p.drop i).take (m - i) := by
  rw [← List.take_add]
  congr 1
  omega
theorem drop_split (p : List Int) (i m : Nat) (h : i ≤ m) : p.drop i = (p.drop i).take (m - i) ++ p.drop m := by
  conv => lhs; rw [← List.take_append_drop (m - i) (p.drop i)]
  rw [List.drop_drop, show i + (m - i) = m by omega]
theorem drop_cons' (p : List Int) (i : Nat) (h : i < p.length) : p.drop i = rd p (i : Int) :: p.drop (i + 1) := by
  rw [List.drop_eq_getElem_cons h, rd_nat, List.getD_eq_getElem?_getD, List.getElem?_eq_getElem h, Option.getD_some]
/-- Slips from the end to the front: no more is between the two rows than the slips that change something. -/
theorem err_sd (p : List Int) (l : List S95) : ∀ (m : Nat) (rest : List Int) (c : Nat), m ≤ p.length → sd (p.drop m) rest ≤ c → (∀ y ∈ l, 1 ≤ y.f0 ∧ y.f0 ≤ 3 ∧ 0 ≤ y.f1) → l.Pairwise (fun a b => b.f1 < a.f1) →
    (∀ y, l.head? = some y → y.f1 < (m : Int) ∨ (y.f0 = 3 ∧ y.f1 ≤ (m : Int))) → sd p (l.foldl errStep (p.take m ++ rest)) ≤ c + realN p l := by
  induction l with
  | nil =>
    intro m rest c hm hs _ _ _
    simp only [List.foldl_nil, realN, List.map_nil, List.sum_nil, Nat.add_zero]
    have := sd_app (p.take m) (p.drop m) rest
    rw [List.take_append_drop] at this
    omega
  | cons x t ih =>
    intro m rest c hm hs hk hp hh
    obtain ⟨k1, k2, k3⟩ := hk x (by simp)
    have hx := hh x rfl
    have hi : x.f1.toNat ≤ m := by omega
    have tl : (p.take x.f1.toNat).length = x.f1.toNat := by rw [List.length_take]; omega
    have ts := take_split p x.f1.toNat m hi
    have ds := drop_split p x.f1.toNat m hi
    have next : ∀ (rest' : List Int), errStep (p.take m ++ rest) x = p.take x.f1.toNat ++ rest' → sd (p.drop x.f1.toNat) rest' ≤ c + realB p x → sd p ((x :: t).foldl errStep (p.take m ++ rest)) ≤ c + realN p (x :: t) := by
      intro rest' e hs'
      have r := ih x.f1.toNat rest' (c + realB p x) (by omega) hs' (fun y hy => hk y (by simp [hy])) (List.pairwise_cons.1 hp).2 (fun y hy => by
        have := (List.pairwise_cons.1 hp).1 y (List.mem_of_mem_head? hy)
        left; omega)
      rw [List.foldl_cons, e]
      unfold realN at r ⊢
      simp only [List.map_cons, List.sum_cons]
      omega
    have mid : ∀ (q : List Int), sd (q ++ p.drop m) (q ++ rest) ≤ c := fun q => by have := sd_app q (p.drop m) rest; omega
    by_cases c3 : x.f0 = 3
    · refine next (x.f2 :: ((p.drop x.f1.toNat).take (m - x.f1.toNat) ++ rest)) ?_ ?_
      · unfold errStep
        rw [if_neg (by omega), if_neg (by omega), ts, List.append_assoc (p.take x.f1.toNat), List.take_left' tl, List.drop_left' tl]
        simp
      · have a := sd_ins x.f2 (p.drop x.f1.toNat) ((p.drop x.f1.toNat).take (m - x.f1.toNat) ++ rest)
        have b := mid ((p.drop x.f1.toNat).take (m - x.f1.toNat))
        rw [← ds] at b
        have : realB p x = 1 := by unfold realB; rw [if_neg (by omega)]
        omega
    · have hlt : x.f1.toNat < m := by omega
      have hpl : x.f1.toNat < p.length := by omega
      have dc := drop_cons' p x.f1.toNat hpl
      have dt : (p.drop x.f1.toNat).take (m - x.f1.toNat) = rd p x.f1 :: (p.drop (x.f1.toNat + 1)).take (m - (x.f1.toNat + 1)) := by
        rw [dc, show m - x.f1.toNat = (m - (x.f1.toNat + 1)) + 1 by omega, List.take_succ_cons]
        rw [show ((x.f1.toNat : Nat) : Int) = x.f1 by omega]
      have ds1 := drop_split p (x.f1.toNat + 1) m (by omega)
      have b := mid ((p.drop (x.f1.toNat + 1)).take (m - (x.f1.toNat + 1)))
      rw [← ds1] at b
      rw [show ((x.f1.toNat : Nat) : Int) = x.f1 by omega] at dc
      by_cases c1 : x.f0 = 1
      · refine next (x.f2 :: ((p.drop (x.f1.toNat + 1)).take (m - (x.f1.toNat + 1)) ++ rest)) ?_ ?_
        · unfold errStep
          rw [if_pos c1, ts, dt, List.append_assoc (p.take x.f1.toNat), List.set_append_right _ _ (by omega), tl, Nat.sub_self, List.cons_append, List.set_cons_zero]
        · rw [dc]
          have a := sd_sub (rd p x.f1) x.f2 (p.drop (x.f1.toNat + 1)) ((p.drop (x.f1.toNat + 1)).take (m - (x.f1.toNat + 1)) ++ rest)
          have hb : realB p x = if rd p x.f1 = x.f2 then 0 else 1 := by
            unfold realB
            by_cases e : rd p x.f1 = x.f2
            · rw [if_pos ⟨c1, e⟩, if_pos e]
            · rw [if_neg (fun z => e z.2), if_neg e]
          omega
      · refine next ((p.drop (x.f1.toNat + 1)).take (m - (x.f1.toNat + 1)) ++ rest) ?_ ?_
        · unfold errStep
          rw [if_neg c1, if_pos (by omega), ts, dt, List.append_assoc (p.take x.f1.toNat), List.take_left' tl]
          rw [show x.f1.toNat + 1 = (p.take x.f1.toNat).length + 1 by omega, List.drop_append]
          simp [tl]
        · rw [dc]
          have a := sd_del (rd p x.f1) (p.drop (x.f1.toNat + 1)) ((p.drop (x.f1.toNat + 1)).take (m - (x.f1.toNat + 1)) ++ rest)
          have : realB p x = 1 := by unfold realB; rw [if_neg (by omega)]
          omega
theorem errM_cost (p : List Int) (l : List S95) (h : (errM p l).2 = true) : alignM p (errM p l).1 ≤ countM p l := by
  by_cases hs : slipsM l (p.length : Int) = true
  · have he : (errM p l).1 = l.foldl errStep p := by unfold errM; rw [if_pos hs]
    have hc : countM p l = ((realN p l : Nat) : Int) := by unfold countM; rw [if_pos hs]
    rw [he, hc]
    unfold alignM
    by_cases hf : p.length ≤ 40 ∧ (l.foldl errStep p).length ≤ 40
    · rw [if_pos hf]
      obtain ⟨h1, h2, h3⟩ := slips_head hs
      have r := err_sd p l p.length [] 0 (Nat.le_refl _) (by rw [List.drop_length, sd_nil]; simp) h1 h2 (fun y hy => (h3 y hy).2)
      rw [List.take_length, List.append_nil, Nat.zero_add] at r
      have := ed_le_sd p (l.foldl errStep p)
      omega
    · rw [if_neg hf]; omega
  · unfold errM at h
    rw [if_neg hs] at h
    simp at h

theorem sbGo_keep (e : Int) (l : List Int) : ∀ (i : Int) (s : Int × Int), 0 ≤ s.1 → s.2 ≤ i → (sbGo e l i s).1 = s.1 ∧ s.2 ≤ (sbGo e l i s).2 := by
  induction l with
  | nil => intro i s h1 h2; exact ⟨rfl, Int.le_refl _⟩
  | cons c t ih =>
    intro i s h1 h2
    simp only [sbGo]
    by_cases hc : c ≤ e
    · rw [if_pos hc]
      have r := ih (i + 1) (if s.1 < 0 then i else s.1, i) (by dsimp only; rw [if_neg (by omega)]; exact h1) (by dsimp only; omega)
      dsimp only at r
      rw [if_neg (show ¬ s.1 < 0 by omega)] at r ⊢
      exact ⟨r.1, by omega⟩
    · rw [if_neg hc]
      exact ih (i + 1) s h1 (by omega)
theorem sbGo_at (e y : Int) (hy : y ≤ e) (suf : List Int) (pre : List Int) : ∀ (i : Int) (s : Int × Int), 0 ≤ i → (s.1 = -1 ∨ (0 ≤ s.1 ∧ s.1 ≤ i)) → s.2 ≤ i →
    0 ≤ (sbGo e (pre ++ y :: suf) i s).1 ∧ (sbGo e (pre ++ y :: suf) i s).1 ≤ i + (pre.length : Int) ∧ i + (pre.length : Int) ≤ (sbGo e (pre ++ y :: suf) i s).2 := by
  induction pre with
  | nil =>
    intro i s hi h1 h2
    simp only [List.nil_append, sbGo, List.length_nil]
    rw [if_pos hy]
    have r := sbGo_keep e suf (i + 1) (if s.1 < 0 then i else s.1, i) (by dsimp only; split <;> omega) (by dsimp only; omega)
    dsimp only at r
    rw [r.1]
    refine ⟨?_, ?_, by omega⟩ <;> split <;> omega
  | cons c t ih =>
    intro i s hi h1 h2
    simp only [List.cons_append, sbGo, List.length_cons]
    by_cases hc : c ≤ e
    · rw [if_pos hc]
      have r := ih (i + 1) (if s.1 < 0 then i else s.1, i) (by omega) (by dsimp only; right; split <;> omega) (by dsimp only; omega)
      omega
    · rw [if_neg hc]
      have r := ih (i + 1) s (by omega) (by omega) (by omega)
      omega
theorem surely_at {l : List Int} {e : Int} {n : Nat} (hn : n < l.length) (h : rd l (n : Int) ≤ e) : 0 ≤ (surelyM l e).1 ∧ (surelyM l e).1 ≤ (n : Int) ∧ (n : Int) ≤ (surelyM l e).2 := by
  have hs : l = l.take n ++ rd l (n : Int) :: l.drop (n + 1) := by
    conv => lhs; rw [← List.take_append_drop n l]
    rw [rd_drop l n hn]
  unfold surelyM
  rw [hs]
  have r := sbGo_at e (rd l (n : Int)) h (l.drop (n + 1)) (l.take n) 0 (-1, -1) (by omega) (.inl rfl) (by omega)
  have ht : (l.take n).length = n := by rw [List.length_take]; omega
  rw [ht, Int.zero_add] at r
  rw [← hs] at r ⊢
  exact r

theorem drawAlign_ok (b : List Int) (hb : b.length ≤ 1048576) : ∃ p q, Ev (fun k => spec_DrawAlignCost.f k b) (p, q) ∧ p.length ≤ 60 ∧ q.length ≤ 60 := by
  obtain ⟨s0, e0⟩ := new_ok b hb
  obtain ⟨p, q, i1, s1, e1, hp, hq, h1⟩ := l16Pair_ok (Rd.zero hb) s0
  refine ⟨p, q, ?_, hp, hq⟩
  simp only [spec_DrawAlignCost.f]
  exact Ev.bind e0 (Ev.bind e1 (Ev.now _))
theorem fo_j3 (p : List Int) (l : List S95) (hp : p.length ≤ 14) (hl : l.length ≤ 1000) (c : Bool) (hc : c = true → (errM p l).2 = true) :
    Ev (fun k => laws_FnFollowed.j3 k p l (errM p l).1 (p ++ [60, 61, 62]) c (startM (p ++ [60, 61, 62])).1 (startM (p ++ [60, 61, 62])).2.1) true := by
  have hx : (p ++ [60, 61, 62]).length = p.length + 3 := by simp
  have hq := errM_length p l
  refine ev_tail ?_
  simp only [laws_FnFollowed.j3]
  refine ev_ite (fun h => ?_) (fun _ => Ev.now _)
  have he := hc h
  obtain ⟨hh, ho⟩ := hear_all (p ++ [60, 61, 62]) (errM p l).1 (by omega) (by omega)
  have hs := startM_length (p ++ [60, 61, 62])
  refine Ev.bind (implHearAll_ev _ _ _ _ (by omega) (by omega) (by omega)) ?_
  rw [hh]
  dsimp only
  have hr := rowEd_length (p ++ [60, 61, 62]) (errM p l).1 (errM p l).1.length
  refine Ev.bind (implCountReal_ev p l (by omega)) (Ev.bind (implSurely_ev _ _ _ (by omega)) ?_)
  have hcost : rd (rowEd (p ++ [60, 61, 62]) (errM p l).1 (errM p l).1.length) ((p.length : Nat) : Int) ≤ countM p l := by
    rw [rowEd_at _ _ _ _ (by omega)]
    have h1 := errM_cost p l he
    unfold alignM at h1
    rw [if_pos ⟨by omega, by omega⟩] at h1
    rw [ed_take (p ++ [60, 61, 62]) (errM p l).1 p (errM p l).1 p.length (errM p l).1.length (fun t ht => by rw [List.getD_eq_getElem?_getD, List.getD_eq_getElem?_getD, List.getElem?_append_left ht]) (fun t _ => rfl)]
    exact h1
  obtain ⟨g1, g2, g3⟩ := surely_at (n := p.length) (by omega) hcost
  exact ev_neg (by omega) (ev_neg (by omega) (ev_neg (by omega) (Ev.now _)))
theorem fo_j2 (b : List Int) (hb : b.length ≤ 1048576) : Ev (fun k => laws_FnFollowed.j2 k b) true := by
  obtain ⟨p, l, e, hp, hl⟩ := drawErr_ok b hb
  refine ev_tail ?_
  simp only [laws_FnFollowed.j2, Option.bind_some, List.nil_append]
  refine Ev.bind e (Ev.bind (implErrBy_ev p l (by omega) (by omega)) ?_)
  refine ev_pos (by simp; omega) (ev_pos (by simp; omega) (Ev.bind (implStartFollower_ev (p ++ [60, 61, 62])) (ev_ite (fun h => ?_) (fun _ => ?_))))
  · exact fo_j3 p l hp hl _ (fun _ => h)
  · exact fo_j3 p l hp hl _ (fun z => by cases z)
theorem fo_j1 (b : List Int) (hb : b.length ≤ 1048576) (p q : List Int) (hp : p.length ≤ 60) (hq : q.length ≤ 60) (c : Bool) (hc : c = true → p.length ≤ 40 ∧ q.length ≤ 40) :
    Ev (fun k => laws_FnFollowed.j1 k b p q c (startM p).1 (startM p).2.1) true := by
  refine ev_tail ?_
  simp only [laws_FnFollowed.j1]
  refine ev_ite (fun h => ?_) (fun _ => fo_j2 b hb)
  obtain ⟨h1, h2⟩ := hc h
  obtain ⟨hh, ho⟩ := hear_all p q h1 (by omega)
  have hs := startM_length p
  have hr := rowEd_length p q q.length
  refine Ev.bind (implHearAll_ev _ _ _ _ (by omega) (by omega) (by omega)) ?_
  rw [hh]
  dsimp only
  have hne : rowEd p q q.length ≠ [] := by intro z; rw [z] at hr; simp at hr
  have hpos := posM_bound (l := rowEd p q q.length) (by omega) hne
  have ha : alignM p q = ((ed p q p.length q.length : Nat) : Int) := by unfold alignM; rw [if_pos ⟨h1, h2⟩]
  have z0 := rowEd_at p q q.length 0 (by omega)
  rw [ed_zero] at z0
  refine Ev.bind (implIsFollower_ev _ _ _ (by omega) (by omega)) (ev_pos (rowOK_fol ho (by omega)) (ev_pos (by omega) (ev_pos (by omega) (Ev.bind (implAlignCost_ev p q) (ev_pos ?_ (ev_pos (by omega) (ev_pos z0 (Ev.bind (implBestCost_ev _ _ (by omega)) (Ev.bind (implPositionOf_ev _ _ (by omega)) (ev_pos hpos.1 (ev_pos hpos.2 (ev_pos (best_at _ hne) (fo_j2 b hb)))))))))))))
  rw [ha]
  exact rowEd_at p q q.length p.length (Nat.le_refl _)
theorem fo_j0 (b : List Int) (hb : b.length ≤ 1048576) (c : Bool) (hc : c = false) : Ev (fun k => laws_FnFollowed.j0 k b c) true := by
  subst hc
  obtain ⟨p, q, e, hp, hq⟩ := drawAlign_ok b hb
  refine ev_tail ?_
  simp only [laws_FnFollowed.j0]
  refine ev_neg (by simp) (Ev.bind e (Ev.bind (implStartFollower_ev p) (ev_ite (fun h => ?_) (fun _ => ?_))))
  · refine fo_j1 b hb p q hp hq _ (fun z => ?_)
    have h1 : p.length ≤ 40 := by
      refine Classical.byContradiction fun n => ?_
      unfold startM at h
      rw [if_neg n] at h
      simp at h
    simp only [decide_eq_true_eq] at z
    omega
  · exact fo_j1 b hb p q hp hq _ (fun z => by cases z)
theorem FnFollowed : ∀ (l0 : List (Int)), (l0.length ≤ maxLen) → (∀ x ∈ l0, (Lit.int .u8 x).wf = true) → ∃ k, laws_FnFollowed.f k l0 = some true := by
  intro b _ _
  refine Ev.rounds ?_
  simp only [laws_FnFollowed.f, big_ev, Option.bind_some]
  refine ev_ite (fun _ => Ev.now _) (fun h => ?_)
  simp only [decide_eq_true_eq] at h
  have hb : b.length ≤ 1048576 := by omega
  obtain ⟨t, l, x, p, e, ht, hl⟩ := drawStep_ok b hb
  have f1 := implIsFollower_ev t l x (by omega) (by omega)
  refine Ev.bind e (Ev.bind (implStepFollower_ev t l x p (by omega) (by omega)) (Ev.bind f1 (Ev.bind (specIsFollower_ev t l x (by omega) (by omega)) (ev_neg (by simp) (Ev.bind f1 (ev_ite (fun hf => ev_ite (fun hx => ?_) (fun _ => fo_j0 b hb _ rfl)) (fun _ => fo_j0 b hb _ rfl)))))))
  replace hx : x ≤ 500 := hx
  obtain ⟨_, _, x0, x1, _⟩ := folM_facts hf
  have hl2 := stepM_length t l x p
  have h2 : (stepM t l x p).2 = x + 1 := by
    unfold stepM
    rw [if_pos ⟨hf, hx⟩]
    unfold stepRow
    split <;> rfl
  refine ev_pos ?_ (fo_j0 b hb _ ?_)
  · show (stepM t l x p).2 = wrap64 (x + 1)
    rw [h2, wrap_id (by omega) (by omega)]
  · rw [hl2]; simp
end Go.Proofs.Ytcgkmcnfhobkiaa.Pure
