/-
AlignCost of the program and of the reference: the same answer.
Conditions: none.
-/
import Derived.Test.YtoigficcabmoeaaPFnExactAlignCostx3
import Derived.Test.YtoigficcabmoeaaEd
namespace Go.Proofs.Ytoigficcabmoeaa.Pure
open Go.RowKit Go.Proofs.Ytoigficcabmoeaa.PFnExactAlignCost Go.Proofs.YtoigficcabmoeaaW.PrintWords Go.Proofs.YtoigficcabmoeaaW.PrintLast Go.Proofs.YtoigficcabmoeaaW.PrintMore Go.Proofs.Ytoigficcabmoeaa.Base Go.Proofs.Ytoigficcabmoeaa.Ed
set_option linter.unusedVariables false
set_option linter.unusedSimpArgs false

theorem toIntS_l0 (suf : List Int) : ∀ pre : List Int, (pre ++ suf).length ≤ 35184372088832 → Ev (fun k => laws_toIntS.l0 k (pre ++ suf) (pre ++ List.replicate suf.length 0) (pre.length : Int)) (pre ++ suf) := by
  induction suf with
  | nil =>
    intro pre h
    refine ev_tail ?_
    simp only [laws_toIntS.l0]
    refine ev_neg (by simp) ?_
    simpa using Ev.now pre
  | cons x t ih =>
    intro pre h
    have e := ih (pre ++ [x]) (by simpa using h)
    simp only [List.length_append, List.length_cons] at h
    refine ev_tail ?_
    simp only [laws_toIntS.l0]
    refine ev_pos (by simp; omega) (ev_pos (by omega) (ev_pos (by simp; omega) ?_))
    rw [rd_mid, List.length_cons, List.replicate_succ, set_mid, wrap_succ (by omega), snoc_cons pre x t, snoc_cons pre x (List.replicate t.length 0), ← length_snoc pre x]
    exact e
theorem toIntS_ev (l : List Int) (h : l.length ≤ 35184372088832) : Ev (fun k => laws_toIntS.f k l) l := by
  simp only [laws_toIntS.f]
  refine ev_pos (by omega) (ev_pos (by omega) ?_)
  exact toIntS_l0 l [] (by simpa using h)

theorem eqIntS_l0 (suf : List Int) : ∀ pre : List Int, (pre ++ suf).length ≤ 35184372088832 → Ev (fun k => laws_eqIntS.l0 k (pre ++ suf) (pre ++ suf) (pre.length : Int)) true := by
  induction suf with
  | nil =>
    intro pre h
    refine ev_tail ?_
    simp only [laws_eqIntS.l0]
    exact ev_neg (by simp) (Ev.now true)
  | cons x t ih =>
    intro pre h
    have e := ih (pre ++ [x]) (by simpa using h)
    simp only [List.length_append, List.length_cons] at h
    refine ev_tail ?_
    simp only [laws_eqIntS.l0]
    refine ev_pos (by simp; omega) (ev_pos (by omega) (ev_pos (by simp; omega) (ev_pos (by trivial) ?_)))
    rw [wrap_succ (by omega), snoc_cons pre x t, ← length_snoc pre x]
    exact e
theorem eqIntS_ev (l : List Int) (h : l.length ≤ 35184372088832) : Ev (fun k => laws_eqIntS.f k l l) true := by
  simp only [laws_eqIntS.f]
  refine ev_pos (by trivial) ?_
  exact eqIntS_l0 l [] (by simpa using h)

theorem fits_eq (a b : List Int) : spec_l16Fits.f a b = some (decide (a.length ≤ 40 ∧ b.length ≤ 40)) := by
  unfold spec_l16Fits.f
  by_cases h1 : (a.length : Int) ≤ 40
  · rw [if_pos h1]
    have : a.length ≤ 40 := by omega
    simp [this]
    omega
  · rw [if_neg h1]
    have : ¬ a.length ≤ 40 := by omega
    simp [this]
theorem specMin_eq (a b : Int) : spec_Min.f a b = some (min a b) := by
  unfold spec_Min.f
  split <;> (congr 1; omega)
theorem unlike_eq (a b : List Int) (i j : Nat) : impl_unlike.f (rd a (i : Int)) (rd b (j : Int)) = some ((unl a b i j : Nat) : Int) := by
  unfold impl_unlike.f unl
  rw [rd_nat, rd_nat]
  split <;> simp
/-- The flat table, up to row i's place k. -/
def tabE (a b : List Int) (n : Nat) : List Int := flat (ed a b) (b.length + 1) n
theorem specTab_l1 (a b : List Int) (ha : a.length ≤ 40) (hb : b.length ≤ 40) (i : Nat) (hi : i ≤ a.length) {r : List Int} (e : Ev (fun k => spec_l16Table.l0 k a b ((b.length + 1 : Nat) : Int) (tabE a b ((i + 1) * (b.length + 1))) ((i + 1 : Nat) : Int)) r) (d : Nat) : ∀ j, j + d = b.length + 1 →
    Ev (fun k => spec_l16Table.l1 k a b ((b.length + 1 : Nat) : Int) (tabE a b (i * (b.length + 1) + j)) (i : Int) (j : Int)) r := by
  induction d with
  | zero =>
    intro j hj
    refine ev_tail ?_
    simp only [spec_l16Table.l1]
    refine ev_neg (by omega) ?_
    rw [wrap_succ (by omega)]
    rw [show i * (b.length + 1) + j = (i + 1) * (b.length + 1) by rw [Nat.add_mul]; omega]
    exact e
  | succ d ih =>
    intro j hj
    have hm := mul_small (i := i) (w := b.length + 1) (by omega) (by omega)
    have e1 := ih (j + 1) (by omega)
    have hlen : (tabE a b (i * (b.length + 1) + j)).length = i * (b.length + 1) + j := flat_length _ _ _
    have wj : Aside0 (wrap64 ((j : Int) + 1) = ((j + 1 : Nat) : Int)) := ⟨wrap_succ (by omega)⟩
    have put : ∀ v : Int, v = ((ed a b i j : Nat) : Int) → tabE a b (i * (b.length + 1) + j) ++ [v] = tabE a b (i * (b.length + 1) + (j + 1)) := fun v hv => flat_snoc (ed a b) (b.length + 1) i j (by omega) v hv
    refine ev_tail ?_
    simp only [spec_l16Table.l1, hlen, wj.out]
    refine ev_pos (by omega) ?_
    by_cases hi0 : i = 0
    · subst hi0
      refine ev_pos (by omega) (ev_pos (by omega) ?_)
      rw [put _ (by rw [ed_zero])]
      exact e1
    · refine ev_neg (by omega) ?_
      by_cases hj0 : j = 0
      · subst hj0
        refine ev_pos (by omega) (ev_pos (by omega) ?_)
        rw [put _ (by rw [ed_left])]
        exact e1
      · refine ev_neg (by omega) ?_
        obtain ⟨i', rfl⟩ : ∃ m, i = m + 1 := ⟨i - 1, by omega⟩
        obtain ⟨j', rfl⟩ : ∃ m, j = m + 1 := ⟨j - 1, by omega⟩
        have hmi : (i' + 1) * (b.length + 1) = i' * (b.length + 1) + (b.length + 1) := by rw [Nat.add_mul]; omega
        have wi : Aside0 (wrap64 (((i' + 1 : Nat) : Int) - 1) = (i' : Int)) := ⟨by rw [wrap_pred (by omega) (by omega)]; omega⟩
        have wj1 : Aside0 (wrap64 (((j' + 1 : Nat) : Int) - 1) = (j' : Int)) := ⟨by rw [wrap_pred (by omega) (by omega)]; omega⟩
        have x1 := Aside0.mk (flat_idx (i := i') (w := b.length + 1) (k := j' + 1) (by omega) (by omega) (by omega))
        have x2 := Aside0.mk (flat_idx (i := i' + 1) (w := b.length + 1) (k := j' + 1) (by omega) (by omega) (by omega))
        have x3 : Aside0 (wrap64 (((i' * (b.length + 1) + (j' + 1) : Nat) : Int) - 1) = ((i' * (b.length + 1) + j' : Nat) : Int)) := ⟨by rw [wrap_pred (by omega) (by omega)]; omega⟩
        have x4 : Aside0 (wrap64 ((((i' + 1) * (b.length + 1) + (j' + 1) : Nat) : Int) - 1) = (((i' + 1) * (b.length + 1) + j' : Nat) : Int)) := ⟨by rw [wrap_pred (by omega) (by omega)]; omega⟩
        have r1 : Aside0 (rd (tabE a b ((i' + 1) * (b.length + 1) + (j' + 1))) ((i' * (b.length + 1) + (j' + 1) : Nat) : Int) = ((ed a b i' (j' + 1) : Nat) : Int)) := ⟨rd_flat _ _ _ _ _ (by omega) (by omega)⟩
        have r2 : Aside0 (rd (tabE a b ((i' + 1) * (b.length + 1) + (j' + 1))) (((i' + 1) * (b.length + 1) + j' : Nat) : Int) = ((ed a b (i' + 1) j' : Nat) : Int)) := ⟨rd_flat _ _ _ _ _ (by omega) (by omega)⟩
        have r3 : Aside0 (rd (tabE a b ((i' + 1) * (b.length + 1) + (j' + 1))) ((i' * (b.length + 1) + j' : Nat) : Int) = ((ed a b i' j' : Nat) : Int)) := ⟨rd_flat _ _ _ _ _ (by omega) (by omega)⟩
        have b1 := ed_le a b i' (j' + 1)
        have b2 := ed_le a b (i' + 1) j'
        have b3 := ed_le a b i' j'
        simp only [wi.out, wj1.out, x1.out, x2.out, x3.out, x4.out, r1.out, r2.out, r3.out, specMin_eq, Option.bind_some]
        refine ev_pos (by omega) (ev_pos (by omega) (ev_pos (by omega) (ev_pos (by omega) (ev_pos (by omega) (ev_pos (by omega) (ev_pos (by omega) (ev_pos (by omega) (ev_pos (by omega) (ev_pos (by omega) ?_)))))))))
        simp only [rd_nat]
        by_cases heq : a.getD i' 0 = b.getD j' 0
        · refine ev_pos heq (ev_pos (by omega) ?_)
          rw [put _ (by rw [ed_succ, wrap_id (by omega) (by omega)]; unfold unl; rw [if_pos heq]; omega)]
          exact e1
        · refine ev_neg heq (ev_pos (by omega) ?_)
          rw [put _ (by rw [ed_succ, wrap_id (by omega) (by omega), wrap_id (by omega) (by omega)]; unfold unl; rw [if_neg heq]; omega)]
          exact e1
theorem specTab_l0 (a b : List Int) (ha : a.length ≤ 40) (hb : b.length ≤ 40) (d : Nat) : ∀ i, i + d = a.length + 1 →
    Ev (fun k => spec_l16Table.l0 k a b ((b.length + 1 : Nat) : Int) (tabE a b (i * (b.length + 1))) (i : Int)) (tabE a b ((a.length + 1) * (b.length + 1))) := by
  induction d with
  | zero =>
    intro i hi
    obtain rfl : i = a.length + 1 := by omega
    refine ev_tail ?_
    simp only [spec_l16Table.l0]
    exact ev_neg (by omega) (Ev.now _)
  | succ d ih =>
    intro i hi
    refine ev_tail ?_
    simp only [spec_l16Table.l0]
    refine ev_pos (by omega) ?_
    exact specTab_l1 a b ha hb i (by omega) (ih (i + 1) (by omega)) (b.length + 1) 0 (by omega)
theorem specTable_ev (a b : List Int) (ha : a.length ≤ 40) (hb : b.length ≤ 40) : Ev (fun k => spec_l16Table.f k a b) (tabE a b ((a.length + 1) * (b.length + 1))) := by
  simp only [spec_l16Table.f]
  rw [wrap_succ (by omega)]
  have := specTab_l0 a b ha hb (a.length + 1) 0 (by omega)
  simpa [tabE, flat] using this
def alignM (a b : List Int) : Int := if a.length ≤ 40 ∧ b.length ≤ 40 then ((ed a b a.length b.length : Nat) : Int) else -1
theorem specAlignCost_ev (a b : List Int) : Ev (fun k => spec_AlignCost.f k a b) (alignM a b) := by
  simp only [spec_AlignCost.f, fits_eq, Option.bind_some, alignM]
  by_cases h : a.length ≤ 40 ∧ b.length ≤ 40
  · rw [if_pos h]
    obtain ⟨ha, hb⟩ := h
    have hm := mul_small (i := a.length + 1) (w := b.length + 1) (by omega) (by omega)
    have hmi : (a.length + 1) * (b.length + 1) = a.length * (b.length + 1) + (b.length + 1) := by rw [Nat.add_mul]; omega
    have hlen : (tabE a b ((a.length + 1) * (b.length + 1))).length = (a.length + 1) * (b.length + 1) := flat_length _ _ _
    refine ev_pos (by simp [ha, hb]) (Ev.bind (specTable_ev a b ha hb) ?_)
    have w1 : Aside0 (wrap64 ((((a.length + 1) * (b.length + 1) : Nat) : Int) - 1) = ((a.length * (b.length + 1) + b.length : Nat) : Int)) := ⟨by rw [wrap_pred (by omega) (by omega)]; omega⟩
    simp only [hlen, w1.out]
    refine ev_pos (by omega) (ev_pos (by omega) ?_)
    rw [show rd (tabE a b ((a.length + 1) * (b.length + 1))) ((a.length * (b.length + 1) + b.length : Nat) : Int) = ((ed a b a.length b.length : Nat) : Int) from rd_flat _ _ _ _ _ (by omega) (by omega)]
    exact Ev.now _
  · rw [if_neg h]
    exact ev_neg (by simpa using h) (Ev.now _)
/-- A row of the costs; the table. -/
def rowE (a b : List Int) (i n : Nat) : List Int := (List.range n).map fun j => ((ed a b i j : Nat) : Int)
def rowsE (a b : List Int) (n : Nat) : List (List Int) := (List.range n).map fun i => rowE a b i (b.length + 1)
theorem rowsE_length (a b : List Int) (n : Nat) : (rowsE a b n).length = n := by simp [rowsE]
theorem rowE_length (a b : List Int) (i n : Nat) : (rowE a b i n).length = n := by simp [rowE]
theorem rowsE_at (a b : List Int) (n i : Nat) (h : i < n) : rd_L1 (rowsE a b n) (i : Int) = rowE a b i (b.length + 1) := by
  simp [rd_L1, rowsE, List.getD, h]
theorem implCosts_l1 (a b : List Int) (ha : a.length ≤ 40) (hb : b.length ≤ 40) (i : Nat) (hi : i ≤ a.length) {r : List (List Int)} (e : Ev (fun k => impl_costs.l0 k a b (rowsE a b (i + 1)) ((a.length + 1 : Nat) : Int) ((i + 1 : Nat) : Int)) r) (d : Nat) : ∀ j, j + d = b.length + 1 →
    Ev (fun k => impl_costs.l1 k a b (rowsE a b i) (i : Int) (rowE a b i j ++ List.replicate d 0) ((a.length + 1 : Nat) : Int) (i : Int) ((b.length + 1 : Nat) : Int) (j : Int)) r := by
  induction d with
  | zero =>
    intro j hj
    refine ev_tail ?_
    simp only [impl_costs.l1]
    refine ev_neg (by omega) (ev_pos (by rw [rowsE_length]; omega) ?_)
    rw [wrap_succ (by omega)]
    have : rowsE a b i ++ [rowE a b i j ++ List.replicate 0 0] = rowsE a b (i + 1) := by
      obtain rfl : j = b.length + 1 := by omega
      simp [rowsE, List.range_succ]
    rw [this]
    exact e
  | succ d ih =>
    intro j hj
    have e1 := ih (j + 1) (by omega)
    have wj : Aside0 (wrap64 ((j : Int) + 1) = ((j + 1 : Nat) : Int)) := ⟨wrap_succ (by omega)⟩
    have hlen : (rowE a b i j ++ List.replicate (d + 1) (0 : Int)).length = b.length + 1 := by simp [rowE]; omega
    have put : ∀ v : Int, v = ((ed a b i j : Nat) : Int) → (rowE a b i j ++ List.replicate (d + 1) 0).set ((j : Nat) : Int).toNat v = rowE a b i (j + 1) ++ List.replicate d 0 := fun v hv => row_set (fun j => ((ed a b i j : Nat) : Int)) j d v hv
    refine ev_tail ?_
    simp only [impl_costs.l1, hlen, wj.out]
    refine ev_pos (by omega) ?_
    by_cases hi0 : i = 0
    · subst hi0
      refine ev_pos (by omega) (ev_pos (by omega) (ev_pos (by omega) ?_))
      rw [put _ (by rw [ed_zero])]
      exact e1
    · refine ev_neg (by omega) ?_
      by_cases hj0 : j = 0
      · subst hj0
        refine ev_pos (by omega) (ev_pos (by omega) (ev_pos (by omega) ?_))
        rw [put _ (by rw [ed_left])]
        exact e1
      · refine ev_neg (by omega) ?_
        obtain ⟨i', rfl⟩ : ∃ m, i = m + 1 := ⟨i - 1, by omega⟩
        obtain ⟨j', rfl⟩ : ∃ m, j = m + 1 := ⟨j - 1, by omega⟩
        have wi : Aside0 (wrap64 (((i' + 1 : Nat) : Int) - 1) = (i' : Int)) := ⟨by rw [wrap_pred (by omega) (by omega)]; omega⟩
        have wj1 : Aside0 (wrap64 (((j' + 1 : Nat) : Int) - 1) = (j' : Int)) := ⟨by rw [wrap_pred (by omega) (by omega)]; omega⟩
        have hrow : Aside0 (rd_L1 (rowsE a b (i' + 1)) (i' : Int) = rowE a b i' (b.length + 1)) := ⟨rowsE_at a b (i' + 1) i' (by omega)⟩
        have r1 : Aside0 (rd (rowE a b i' (b.length + 1)) ((j' + 1 : Nat) : Int) = ((ed a b i' (j' + 1) : Nat) : Int)) := ⟨rd_map_range (fun j => ((ed a b i' j : Nat) : Int)) _ _ (by omega)⟩
        have r2 : Aside0 (rd (rowE a b (i' + 1) (j' + 1) ++ List.replicate (d + 1) 0) (j' : Int) = ((ed a b (i' + 1) j' : Nat) : Int)) := ⟨rd_row (fun j => ((ed a b (i' + 1) j : Nat) : Int)) _ _ _ (by omega)⟩
        have r3 : Aside0 (rd (rowE a b i' (b.length + 1)) (j' : Int) = ((ed a b i' j' : Nat) : Int)) := ⟨rd_map_range (fun j => ((ed a b i' j : Nat) : Int)) _ _ (by omega)⟩
        have b1 := ed_le a b i' (j' + 1)
        have b2 := ed_le a b (i' + 1) j'
        have b3 := ed_le a b i' j'
        have b4 := unl_le a b i' j'
        simp only [wi.out, wj1.out, hrow.out, r1.out, r2.out, r3.out, unlike_eq, Option.bind_some, rowE_length, rowsE_length]
        refine ev_pos (by omega) (ev_pos (by omega) (ev_pos (by omega) (ev_pos (by omega) (ev_pos (by omega) (ev_pos (by omega) (ev_pos (by omega) (ev_pos (by omega) (ev_pos (by omega) (ev_pos (by omega) ?_)))))))))
        rw [put _ (by rw [ed_succ, mn_eq, mn_eq, wrap_id (by omega) (by omega), wrap_id (by omega) (by omega), wrap_id (by omega) (by omega)]; omega)]
        exact e1
theorem implCosts_l0 (a b : List Int) (ha : a.length ≤ 40) (hb : b.length ≤ 40) (d : Nat) : ∀ i, i + d = a.length + 1 →
    Ev (fun k => impl_costs.l0 k a b (rowsE a b i) ((a.length + 1 : Nat) : Int) (i : Int)) (rowsE a b (a.length + 1)) := by
  induction d with
  | zero =>
    intro i hi
    obtain rfl : i = a.length + 1 := by omega
    refine ev_tail ?_
    simp only [impl_costs.l0]
    exact ev_neg (by omega) (Ev.now _)
  | succ d ih =>
    intro i hi
    refine ev_tail ?_
    have wb : Aside0 (wrap64 ((b.length : Int) + 1) = ((b.length + 1 : Nat) : Int)) := ⟨wrap_succ (by omega)⟩
    simp only [impl_costs.l0, wb.out, Option.bind_some, Int.toNat_natCast, List.length_replicate]
    refine ev_pos (by omega) (ev_pos (by omega) (ev_pos (by omega) ?_))
    exact implCosts_l1 a b ha hb i (by omega) (ih (i + 1) (by omega)) (b.length + 1) 0 (by omega)
theorem implCosts_ev (a b : List Int) (ha : a.length ≤ 40) (hb : b.length ≤ 40) : Ev (fun k => impl_costs.f k a b) (rowsE a b (a.length + 1)) := by
  simp only [impl_costs.f]
  rw [wrap_succ (by omega)]
  exact implCosts_l0 a b ha hb (a.length + 1) 0 (by omega)

theorem implAlignCost_ev (a b : List Int) : Ev (fun k => impl_AlignCost.f k a b) (alignM a b) := by
  simp only [impl_AlignCost.f, alignM]
  by_cases ha : a.length ≤ 40
  · refine ev_neg (by omega) ?_
    by_cases hb : b.length ≤ 40
    · rw [if_pos ⟨ha, hb⟩]
      refine ev_neg (by omega) (Ev.bind (implCosts_ev a b ha hb) ?_)
      have hrow : Aside0 (rd_L1 (rowsE a b (a.length + 1)) (a.length : Int) = rowE a b a.length (b.length + 1)) := ⟨rowsE_at a b (a.length + 1) a.length (by omega)⟩
      have r1 : Aside0 (rd (rowE a b a.length (b.length + 1)) ((b.length : Nat) : Int) = ((ed a b a.length b.length : Nat) : Int)) := ⟨rd_map_range (fun j => ((ed a b a.length j : Nat) : Int)) _ _ (by omega)⟩
      simp only [hrow.out, r1.out, rowsE_length, rowE_length]
      exact ev_pos (by omega) (ev_pos (by omega) (ev_pos (by omega) (ev_pos (by omega) (Ev.now _))))
    · rw [if_neg (by omega)]
      exact ev_pos (by omega) (Ev.now _)
  · rw [if_neg (by omega)]
    exact ev_pos (by omega) (Ev.now _)

theorem FnExactAlignCost : ∀ (l0 : List (Int)) (l1 : List (Int)), (l0.length ≤ maxLen) → (∀ x ∈ l0, (Lit.int .i64 x).wf = true) → (l1.length ≤ maxLen) → (∀ x ∈ l1, (Lit.int .i64 x).wf = true) → ∃ k, laws_FnExactAlignCost.f k l0 l1 = some true := by
  intro a b _ _ _ _
  refine Ev.rounds ?_
  simp only [laws_FnExactAlignCost.f]
  refine ev_ite (fun _ => Ev.now _) (fun h1 => ev_ite (fun _ => Ev.now _) (fun h2 => ?_))
  have ha : a.length ≤ 35184372088832 := by omega
  have hb : b.length ≤ 35184372088832 := by omega
  refine Ev.bind (toIntS_ev a ha) (Ev.bind (toIntS_ev b hb) (Ev.bind (specAlignCost_ev a b) ?_))
  refine Ev.bind (toIntS_ev a ha) (Ev.bind (toIntS_ev b hb) (Ev.bind (implAlignCost_ev a b) (ev_pos (by trivial) ?_)))
  refine Ev.bind (toIntS_ev a ha) (Ev.bind (eqIntS_ev a ha) (ev_pos (by trivial) ?_))
  exact Ev.bind (toIntS_ev b hb) (Ev.bind (eqIntS_ev b hb) (ev_pos (by trivial) (Ev.now _)))
end Go.Proofs.Ytoigficcabmoeaa.Pure
