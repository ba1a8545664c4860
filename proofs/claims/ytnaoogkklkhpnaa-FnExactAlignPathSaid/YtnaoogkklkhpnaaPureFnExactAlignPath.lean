/-
AlignPath of the program and of the reference: the same answer.
Conditions: none.
-/
import Derived.Test.YtnaoogkklkhpnaaPFnExactAlignPathx7
import Derived.Test.YtnaoogkklkhpnaaEd
namespace Go.Proofs.Ytnaoogkklkhpnaa.Pure
open Go.RowKit Go.Proofs.Ytnaoogkklkhpnaa.PFnExactAlignPath Go.Proofs.YtnaoogkklkhpnaaW.PrintWords Go.Proofs.YtnaoogkklkhpnaaW.PrintLast Go.Proofs.YtnaoogkklkhpnaaW.PrintMore Go.Proofs.Ytnaoogkklkhpnaa.Base Go.Proofs.Ytnaoogkklkhpnaa.Ed
set_option linter.unusedVariables false
set_option linter.unusedSimpArgs false

theorem toIntS_l0 (suf : List Int) : ∀ pre : List Int, (pre ++ suf).length ≤ 35184372088832 → Ev (fun k => laws_toIntS.l0 k (pre ++ suf) (pre ++ List.replicate suf.length 0) (pre.length : Int)) (pre ++ suf) := by
  induction suf with
  | nil =>
    intro pre h
    refine ev_tail ?_
    simp only [laws_toIntS.l0]
    refine ev_neg (by simp) ?_
    simpa using Ev.now pre
  | cons x t ih =>
    intro pre h
    have e := ih (pre ++ [x]) (by simpa using h)
    simp only [List.length_append, List.length_cons] at h
    refine ev_tail ?_
    simp only [laws_toIntS.l0]
    refine ev_pos (by simp; omega) (ev_pos (by omega) (ev_pos (by simp; omega) ?_))
    rw [rd_mid, List.length_cons, List.replicate_succ, set_mid, wrap_succ (by omega), snoc_cons pre x t, snoc_cons pre x (List.replicate t.length 0), ← length_snoc pre x]
    exact e
theorem toIntS_ev (l : List Int) (h : l.length ≤ 35184372088832) : Ev (fun k => laws_toIntS.f k l) l := by
  simp only [laws_toIntS.f]
  refine ev_pos (by omega) (ev_pos (by omega) ?_)
  exact toIntS_l0 l [] (by simpa using h)

theorem eqIntS_l0 (suf : List Int) : ∀ pre : List Int, (pre ++ suf).length ≤ 35184372088832 → Ev (fun k => laws_eqIntS.l0 k (pre ++ suf) (pre ++ suf) (pre.length : Int)) true := by
  induction suf with
  | nil =>
    intro pre h
    refine ev_tail ?_
    simp only [laws_eqIntS.l0]
    exact ev_neg (by simp) (Ev.now true)
  | cons x t ih =>
    intro pre h
    have e := ih (pre ++ [x]) (by simpa using h)
    simp only [List.length_append, List.length_cons] at h
    refine ev_tail ?_
    simp only [laws_eqIntS.l0]
    refine ev_pos (by simp; omega) (ev_pos (by omega) (ev_pos (by simp; omega) (ev_pos (by trivial) ?_)))
    rw [wrap_succ (by omega), snoc_cons pre x t, ← length_snoc pre x]
    exact e
theorem eqIntS_ev (l : List Int) (h : l.length ≤ 35184372088832) : Ev (fun k => laws_eqIntS.f k l l) true := by
  simp only [laws_eqIntS.f]
  refine ev_pos (by trivial) ?_
  exact eqIntS_l0 l [] (by simpa using h)

theorem markIntS_l0 (suf : List Int) : ∀ (pre : List Int) (m : Int), (pre ++ suf).length ≤ 35184372088832 → 0 ≤ m → m + suf.length ≤ 9223372036854775807 → Ev (fun k => laws_markIntS.l0 k (pre ++ suf) m (pre.length : Int)) (m + suf.length, pre ++ marks suf.length m) := by
  induction suf with
  | nil =>
    intro pre m h h0 h1
    refine ev_tail ?_
    simp only [laws_markIntS.l0]
    refine ev_neg (by simp) ?_
    simpa [marks] using Ev.now _
  | cons y t ih =>
    intro pre m h h0 h1
    simp only [List.length_cons] at h1
    have e := ih (pre ++ [m]) (m + 1) (by simpa using h) (by omega) (by omega)
    simp only [List.length_append, List.length_cons] at h
    refine ev_tail ?_
    simp only [laws_markIntS.l0]
    refine ev_pos (by simp; omega) (ev_pos (by omega) ?_)
    rw [set_mid, wrap_succ (by omega), wrap_id (n := m + 1) (by omega) (by omega), snoc_cons pre m t, ← length_snoc pre m]
    refine ev_eq e ?_
    simp only [marks, List.length_cons, List.append_assoc, List.singleton_append]
    congr 1
    omega
theorem markIntS_ev (l : List Int) (m : Int) (h : l.length ≤ 35184372088832) (h0 : 0 ≤ m) (h1 : m + l.length ≤ 9223372036854775807) : Ev (fun k => laws_markIntS.f k l m) (m + l.length, marks l.length m) := by
  simp only [laws_markIntS.f]
  exact markIntS_l0 l [] m (by simpa using h) h0 h1

theorem fits_eq (a b : List Int) : spec_l16Fits.f a b = some (decide (a.length ≤ 40 ∧ b.length ≤ 40)) := by
  unfold spec_l16Fits.f
  by_cases h1 : (a.length : Int) ≤ 40
  · rw [if_pos h1]
    have : a.length ≤ 40 := by omega
    simp [this]
    omega
  · rw [if_neg h1]
    have : ¬ a.length ≤ 40 := by omega
    simp [this]
theorem specMin_eq (a b : Int) : spec_Min.f a b = some (min a b) := by
  unfold spec_Min.f
  split <;> (congr 1; omega)
theorem unlike_eq (a b : List Int) (i j : Nat) : impl_unlike.f (rd a (i : Int)) (rd b (j : Int)) = some ((unl a b i j : Nat) : Int) := by
  unfold impl_unlike.f unl
  rw [rd_nat, rd_nat]
  split <;> simp
/-- The flat table, up to row i's place k. -/
def tabE (a b : List Int) (n : Nat) : List Int := flat (ed a b) (b.length + 1) n
theorem specTab_l1 (a b : List Int) (ha : a.length ≤ 40) (hb : b.length ≤ 40) (i : Nat) (hi : i ≤ a.length) {r : List Int} (e : Ev (fun k => spec_l16Table.l0 k a b ((b.length + 1 : Nat) : Int) (tabE a b ((i + 1) * (b.length + 1))) ((i + 1 : Nat) : Int)) r) (d : Nat) : ∀ j, j + d = b.length + 1 →
    Ev (fun k => spec_l16Table.l1 k a b ((b.length + 1 : Nat) : Int) (tabE a b (i * (b.length + 1) + j)) (i : Int) (j : Int)) r := by
  induction d with
  | zero =>
    intro j hj
    refine ev_tail ?_
    simp only [spec_l16Table.l1]
    refine ev_neg (by omega) ?_
    rw [wrap_succ (by omega)]
    rw [show i * (b.length + 1) + j = (i + 1) * (b.length + 1) by rw [Nat.add_mul]; omega]
    exact e
  | succ d ih =>
    intro j hj
    have hm := mul_small (i := i) (w := b.length + 1) (by omega) (by omega)
    have e1 := ih (j + 1) (by omega)
    have hlen : (tabE a b (i * (b.length + 1) + j)).length = i * (b.length + 1) + j := flat_length _ _ _
    have wj : Aside0 (wrap64 ((j : Int) + 1) = ((j + 1 : Nat) : Int)) := ⟨wrap_succ (by omega)⟩
    have put : ∀ v : Int, v = ((ed a b i j : Nat) : Int) → tabE a b (i * (b.length + 1) + j) ++ [v] = tabE a b (i * (b.length + 1) + (j + 1)) := fun v hv => flat_snoc (ed a b) (b.length + 1) i j (by omega) v hv
    refine ev_tail ?_
    simp only [spec_l16Table.l1, hlen, wj.out]
    refine ev_pos (by omega) ?_
    by_cases hi0 : i = 0
    · subst hi0
      refine ev_pos (by omega) (ev_pos (by omega) ?_)
      rw [put _ (by rw [ed_zero])]
      exact e1
    · refine ev_neg (by omega) ?_
      by_cases hj0 : j = 0
      · subst hj0
        refine ev_pos (by omega) (ev_pos (by omega) ?_)
        rw [put _ (by rw [ed_left])]
        exact e1
      · refine ev_neg (by omega) ?_
        obtain ⟨i', rfl⟩ : ∃ m, i = m + 1 := ⟨i - 1, by omega⟩
        obtain ⟨j', rfl⟩ : ∃ m, j = m + 1 := ⟨j - 1, by omega⟩
        have hmi : (i' + 1) * (b.length + 1) = i' * (b.length + 1) + (b.length + 1) := by rw [Nat.add_mul]; omega
        have wi : Aside0 (wrap64 (((i' + 1 : Nat) : Int) - 1) = (i' : Int)) := ⟨by rw [wrap_pred (by omega) (by omega)]; omega⟩
        have wj1 : Aside0 (wrap64 (((j' + 1 : Nat) : Int) - 1) = (j' : Int)) := ⟨by rw [wrap_pred (by omega) (by omega)]; omega⟩
        have x1 := Aside0.mk (flat_idx (i := i') (w := b.length + 1) (k := j' + 1) (by omega) (by omega) (by omega))
        have x2 := Aside0.mk (flat_idx (i := i' + 1) (w := b.length + 1) (k := j' + 1) (by omega) (by omega) (by omega))
        have x3 : Aside0 (wrap64 (((i' * (b.length + 1) + (j' + 1) : Nat) : Int) - 1) = ((i' * (b.length + 1) + j' : Nat) : Int)) := ⟨by rw [wrap_pred (by omega) (by omega)]; omega⟩
        have x4 : Aside0 (wrap64 ((((i' + 1) * (b.length + 1) + (j' + 1) : Nat) : Int) - 1) = (((i' + 1) * (b.length + 1) + j' : Nat) : Int)) := ⟨by rw [wrap_pred (by omega) (by omega)]; omega⟩
        have r1 : Aside0 (rd (tabE a b ((i' + 1) * (b.length + 1) + (j' + 1))) ((i' * (b.length + 1) + (j' + 1) : Nat) : Int) = ((ed a b i' (j' + 1) : Nat) : Int)) := ⟨rd_flat _ _ _ _ _ (by omega) (by omega)⟩
        have r2 : Aside0 (rd (tabE a b ((i' + 1) * (b.length + 1) + (j' + 1))) (((i' + 1) * (b.length + 1) + j' : Nat) : Int) = ((ed a b (i' + 1) j' : Nat) : Int)) := ⟨rd_flat _ _ _ _ _ (by omega) (by omega)⟩
        have r3 : Aside0 (rd (tabE a b ((i' + 1) * (b.length + 1) + (j' + 1))) ((i' * (b.length + 1) + j' : Nat) : Int) = ((ed a b i' j' : Nat) : Int)) := ⟨rd_flat _ _ _ _ _ (by omega) (by omega)⟩
        have b1 := ed_le a b i' (j' + 1)
        have b2 := ed_le a b (i' + 1) j'
        have b3 := ed_le a b i' j'
        simp only [wi.out, wj1.out, x1.out, x2.out, x3.out, x4.out, r1.out, r2.out, r3.out, specMin_eq, Option.bind_some]
        refine ev_pos (by omega) (ev_pos (by omega) (ev_pos (by omega) (ev_pos (by omega) (ev_pos (by omega) (ev_pos (by omega) (ev_pos (by omega) (ev_pos (by omega) (ev_pos (by omega) (ev_pos (by omega) ?_)))))))))
        simp only [rd_nat]
        by_cases heq : a.getD i' 0 = b.getD j' 0
        · refine ev_pos heq (ev_pos (by omega) ?_)
          rw [put _ (by rw [ed_succ, wrap_id (by omega) (by omega)]; unfold unl; rw [if_pos heq]; omega)]
          exact e1
        · refine ev_neg heq (ev_pos (by omega) ?_)
          rw [put _ (by rw [ed_succ, wrap_id (by omega) (by omega), wrap_id (by omega) (by omega)]; unfold unl; rw [if_neg heq]; omega)]
          exact e1
theorem specTab_l0 (a b : List Int) (ha : a.length ≤ 40) (hb : b.length ≤ 40) (d : Nat) : ∀ i, i + d = a.length + 1 →
    Ev (fun k => spec_l16Table.l0 k a b ((b.length + 1 : Nat) : Int) (tabE a b (i * (b.length + 1))) (i : Int)) (tabE a b ((a.length + 1) * (b.length + 1))) := by
  induction d with
  | zero =>
    intro i hi
    obtain rfl : i = a.length + 1 := by omega
    refine ev_tail ?_
    simp only [spec_l16Table.l0]
    exact ev_neg (by omega) (Ev.now _)
  | succ d ih =>
    intro i hi
    refine ev_tail ?_
    simp only [spec_l16Table.l0]
    refine ev_pos (by omega) ?_
    exact specTab_l1 a b ha hb i (by omega) (ih (i + 1) (by omega)) (b.length + 1) 0 (by omega)
theorem specTable_ev (a b : List Int) (ha : a.length ≤ 40) (hb : b.length ≤ 40) : Ev (fun k => spec_l16Table.f k a b) (tabE a b ((a.length + 1) * (b.length + 1))) := by
  simp only [spec_l16Table.f]
  rw [wrap_succ (by omega)]
  have := specTab_l0 a b ha hb (a.length + 1) 0 (by omega)
  simpa [tabE, flat] using this
/-- A row of the costs; the table. -/
def rowE (a b : List Int) (i n : Nat) : List Int := (List.range n).map fun j => ((ed a b i j : Nat) : Int)
def rowsE (a b : List Int) (n : Nat) : List (List Int) := (List.range n).map fun i => rowE a b i (b.length + 1)
theorem rowsE_length (a b : List Int) (n : Nat) : (rowsE a b n).length = n := by simp [rowsE]
theorem rowE_length (a b : List Int) (i n : Nat) : (rowE a b i n).length = n := by simp [rowE]
theorem rowsE_at (a b : List Int) (n i : Nat) (h : i < n) : rd_L2 (rowsE a b n) (i : Int) = rowE a b i (b.length + 1) := by
  simp [rd_L2, rowsE, List.getD, h]
theorem implCosts_l1 (a b : List Int) (ha : a.length ≤ 40) (hb : b.length ≤ 40) (i : Nat) (hi : i ≤ a.length) {r : List (List Int)} (e : Ev (fun k => impl_costs.l0 k a b (rowsE a b (i + 1)) ((a.length + 1 : Nat) : Int) ((i + 1 : Nat) : Int)) r) (d : Nat) : ∀ j, j + d = b.length + 1 →
    Ev (fun k => impl_costs.l1 k a b (rowsE a b i) (i : Int) (rowE a b i j ++ List.replicate d 0) ((a.length + 1 : Nat) : Int) (i : Int) ((b.length + 1 : Nat) : Int) (j : Int)) r := by
  induction d with
  | zero =>
    intro j hj
    refine ev_tail ?_
    simp only [impl_costs.l1]
    refine ev_neg (by omega) (ev_pos (by rw [rowsE_length]; omega) ?_)
    rw [wrap_succ (by omega)]
    have : rowsE a b i ++ [rowE a b i j ++ List.replicate 0 0] = rowsE a b (i + 1) := by
      obtain rfl : j = b.length + 1 := by omega
      simp [rowsE, List.range_succ]
    rw [this]
    exact e
  | succ d ih =>
    intro j hj
    have e1 := ih (j + 1) (by omega)
    have wj : Aside0 (wrap64 ((j : Int) + 1) = ((j + 1 : Nat) : Int)) := ⟨wrap_succ (by omega)⟩
    have hlen : (rowE a b i j ++ List.replicate (d + 1) (0 : Int)).length = b.length + 1 := by simp [rowE]; omega
    have put : ∀ v : Int, v = ((ed a b i j : Nat) : Int) → (rowE a b i j ++ List.replicate (d + 1) 0).set ((j : Nat) : Int).toNat v = rowE a b i (j + 1) ++ List.replicate d 0 := fun v hv => row_set (fun j => ((ed a b i j : Nat) : Int)) j d v hv
    refine ev_tail ?_
    simp only [impl_costs.l1, hlen, wj.out]
    refine ev_pos (by omega) ?_
    by_cases hi0 : i = 0
    · subst hi0
      refine ev_pos (by omega) (ev_pos (by omega) (ev_pos (by omega) ?_))
      rw [put _ (by rw [ed_zero])]
      exact e1
    · refine ev_neg (by omega) ?_
      by_cases hj0 : j = 0
      · subst hj0
        refine ev_pos (by omega) (ev_pos (by omega) (ev_pos (by omega) ?_))
        rw [put _ (by rw [ed_left])]
        exact e1
      · refine ev_neg (by omega) ?_
        obtain ⟨i', rfl⟩ : ∃ m, i = m + 1 := ⟨i - 1, by omega⟩
        obtain ⟨j', rfl⟩ : ∃ m, j = m + 1 := ⟨j - 1, by omega⟩
        have wi : Aside0 (wrap64 (((i' + 1 : Nat) : Int) - 1) = (i' : Int)) := ⟨by rw [wrap_pred (by omega) (by omega)]; omega⟩
        have wj1 : Aside0 (wrap64 (((j' + 1 : Nat) : Int) - 1) = (j' : Int)) := ⟨by rw [wrap_pred (by omega) (by omega)]; omega⟩
        have hrow : Aside0 (rd_L2 (rowsE a b (i' + 1)) (i' : Int) = rowE a b i' (b.length + 1)) := ⟨rowsE_at a b (i' + 1) i' (by omega)⟩
        have r1 : Aside0 (rd (rowE a b i' (b.length + 1)) ((j' + 1 : Nat) : Int) = ((ed a b i' (j' + 1) : Nat) : Int)) := ⟨rd_map_range (fun j => ((ed a b i' j : Nat) : Int)) _ _ (by omega)⟩
        have r2 : Aside0 (rd (rowE a b (i' + 1) (j' + 1) ++ List.replicate (d + 1) 0) (j' : Int) = ((ed a b (i' + 1) j' : Nat) : Int)) := ⟨rd_row (fun j => ((ed a b (i' + 1) j : Nat) : Int)) _ _ _ (by omega)⟩
        have r3 : Aside0 (rd (rowE a b i' (b.length + 1)) (j' : Int) = ((ed a b i' j' : Nat) : Int)) := ⟨rd_map_range (fun j => ((ed a b i' j : Nat) : Int)) _ _ (by omega)⟩
        have b1 := ed_le a b i' (j' + 1)
        have b2 := ed_le a b (i' + 1) j'
        have b3 := ed_le a b i' j'
        have b4 := unl_le a b i' j'
        simp only [wi.out, wj1.out, hrow.out, r1.out, r2.out, r3.out, unlike_eq, Option.bind_some, rowE_length, rowsE_length]
        refine ev_pos (by omega) (ev_pos (by omega) (ev_pos (by omega) (ev_pos (by omega) (ev_pos (by omega) (ev_pos (by omega) (ev_pos (by omega) (ev_pos (by omega) (ev_pos (by omega) (ev_pos (by omega) ?_)))))))))
        rw [put _ (by rw [ed_succ, mn_eq, mn_eq, wrap_id (by omega) (by omega), wrap_id (by omega) (by omega), wrap_id (by omega) (by omega)]; omega)]
        exact e1
theorem implCosts_l0 (a b : List Int) (ha : a.length ≤ 40) (hb : b.length ≤ 40) (d : Nat) : ∀ i, i + d = a.length + 1 →
    Ev (fun k => impl_costs.l0 k a b (rowsE a b i) ((a.length + 1 : Nat) : Int) (i : Int)) (rowsE a b (a.length + 1)) := by
  induction d with
  | zero =>
    intro i hi
    obtain rfl : i = a.length + 1 := by omega
    refine ev_tail ?_
    simp only [impl_costs.l0]
    exact ev_neg (by omega) (Ev.now _)
  | succ d ih =>
    intro i hi
    refine ev_tail ?_
    have wb : Aside0 (wrap64 ((b.length : Int) + 1) = ((b.length + 1 : Nat) : Int)) := ⟨wrap_succ (by omega)⟩
    simp only [impl_costs.l0, wb.out, Option.bind_some, Int.toNat_natCast, List.length_replicate]
    refine ev_pos (by omega) (ev_pos (by omega) (ev_pos (by omega) ?_))
    exact implCosts_l1 a b ha hb i (by omega) (ih (i + 1) (by omega)) (b.length + 1) 0 (by omega)
theorem implCosts_ev (a b : List Int) (ha : a.length ≤ 40) (hb : b.length ≤ 40) : Ev (fun k => impl_costs.f k a b) (rowsE a b (a.length + 1)) := by
  simp only [impl_costs.f]
  rw [wrap_succ (by omega)]
  exact implCosts_l0 a b ha hb (a.length + 1) 0 (by omega)


theorem rdIPair (pre : List S114) (x : S114) (t : List S114) : rd_T114 (pre ++ x :: t) ((pre.length : Nat) : Int) = x := getD_mid pre x t z114
theorem eqPairS_l0 (suf : List S114) : ∀ pre : List S114, (pre ++ suf).length ≤ 1048576 → Ev (fun k => laws_eqPairS.l0 k (pre ++ suf) (pre ++ suf) (pre.length : Int)) true := by
  induction suf with
  | nil =>
    intro pre h
    refine ev_tail ?_
    simp only [laws_eqPairS.l0]
    exact ev_neg (by simp) (Ev.now true)
  | cons x t ih =>
    intro pre h
    have e := ih (pre ++ [x]) (by simpa using h)
    simp only [List.length_append, List.length_cons] at h
    refine ev_tail ?_
    simp only [laws_eqPairS.l0, laws_eqPair.f, if_true, Option.bind_some]
    refine ev_pos (by simp; omega) (ev_pos (by omega) (ev_pos (by simp; omega) ?_))
    rw [wrap_succ (by omega), snoc_cons pre x t, ← length_snoc pre x]
    exact e
theorem eqPairS_ev (l : List S114) (h : l.length ≤ 1048576) : Ev (fun k => laws_eqPairS.f k l l) true := by
  simp only [laws_eqPairS.f]
  refine ev_pos (by trivial) ?_
  exact eqPairS_l0 l [] (by simpa using h)

def marksPair : Nat → Int → List S114
  | 0, _ => []
  | n + 1, m => ⟨m, m + 1⟩ :: marksPair n (m + 1 + 1)
theorem marksPair_length (n : Nat) : ∀ m, (marksPair n m).length = n := by
  induction n with
  | zero => intro m; rfl
  | succ n ih => intro m; simp [marksPair, ih]
theorem markPairS_l0 (suf : List S114) : ∀ (pre : List S114) (m : Int), (pre ++ suf).length ≤ 8388608 → 0 ≤ m → m ≤ 1099511627776 - 2 * suf.length → Ev (fun k => laws_markPairS.l0 k (pre ++ suf) m (pre.length : Int)) (m + 2 * suf.length, pre ++ marksPair suf.length m) := by
  induction suf with
  | nil =>
    intro pre m h h0 h1
    refine ev_tail ?_
    simp only [laws_markPairS.l0]
    refine ev_neg (by simp) (ev_eq (Ev.now _) (by simp [marksPair]))
  | cons y t ih =>
    intro pre m h h0 h1
    simp only [List.length_cons] at h1
    have e := ih (pre ++ [⟨m, m + 1⟩]) (m + 1 + 1) (by simpa using h) (by omega) (by omega)
    simp only [List.length_append, List.length_cons] at h
    refine ev_tail ?_
    simp only [laws_markPairS.l0, Option.bind_some, set_mid, rdIPair]
    refine ev_pos (by simp; omega) (ev_pos (by omega) ?_)
    rw [wrap_id (n := m + 1) (by omega) (by omega), wrap_id (n := m + 1 + 1) (by omega) (by omega), wrap_succ (by omega), snoc_cons pre _ t, ← length_snoc pre (⟨m, m + 1⟩ : S114)]
    refine ev_eq e ?_
    simp only [marksPair, List.length_cons, List.append_assoc, List.singleton_append]
    congr 1
    omega
theorem markPairS_ev (l : List S114) (m : Int) (h : l.length ≤ 8388608) (h0 : 0 ≤ m) (h1 : m ≤ 1099511627776 - 2 * l.length) : Ev (fun k => laws_markPairS.f k l m) (m + 2 * l.length, marksPair l.length m) := by
  simp only [laws_markPairS.f]
  exact markPairS_l0 l [] m (by simpa using h) h0 h1

theorem heldPairS_l0 (n : Nat) : ∀ (pre : List S114) (m : Int), pre.length + n ≤ 8388608 → 0 ≤ m → m ≤ 1099511627776 - 2 * n → Ev (fun k => laws_heldPairS.l0 k (pre ++ marksPair n m) m (pre.length : Int)) (m + 2 * n) := by
  induction n with
  | zero =>
    intro pre m h h0 h1
    refine ev_tail ?_
    simp only [laws_heldPairS.l0]
    refine ev_neg (by simp [marksPair]) (ev_eq (Ev.now _) (by omega))
  | succ n ih =>
    intro pre m h h0 h1
    have e := ih (pre ++ [⟨m, m + 1⟩]) (m + 1 + 1) (by simp; omega) (by omega) (by omega)
    refine ev_tail ?_
    have hm : marksPair (n + 1) m = ⟨m, m + 1⟩ :: marksPair n (m + 1 + 1) := rfl
    rw [hm]
    simp only [laws_heldPairS.l0, rdIPair]
    refine ev_pos (by simp [marksPair_length]; omega) (ev_pos (by omega) ?_)
    rw [wrap_id (n := m + 1) (by omega) (by omega), wrap_id (n := m + 1 + 1) (by omega) (by omega), wrap_succ (by omega), snoc_cons pre _ (marksPair n (m + 1 + 1)), ← length_snoc pre (⟨m, m + 1⟩ : S114)]
    simp only [if_true]
    exact ev_eq e (by omega)
theorem heldPairS_ev (n : Nat) (m : Int) (h : n ≤ 8388608) (h0 : 0 ≤ m) (h1 : m ≤ 1099511627776 - 2 * n) : Ev (fun k => laws_heldPairS.f k (marksPair n m) m) (m + 2 * n) := by
  simp only [laws_heldPairS.f]
  exact heldPairS_l0 n [] m (by simpa using h) h0 h1

/-- The way back through the distances, from the places i and j on. -/
def back (a b : List Int) : Nat → Nat → Nat → List S114 → List S114
  | 0, _, _, acc => acc
  | n + 1, i, j, acc =>
    if i = 0 ∧ j = 0 then acc
    else if 0 < i ∧ 0 < j ∧ ed a b i j = ed a b (i - 1) (j - 1) + unl a b (i - 1) (j - 1) then back a b n (i - 1) (j - 1) (⟨((i - 1 : Nat) : Int), ((j - 1 : Nat) : Int)⟩ :: acc)
    else if 0 < i ∧ ed a b i j = ed a b (i - 1) j + 1 then back a b n (i - 1) j (⟨((i - 1 : Nat) : Int), -1⟩ :: acc)
    else back a b n i (j - 1) (⟨-1, ((j - 1 : Nat) : Int)⟩ :: acc)
theorem back_zero (a b : List Int) (n : Nat) (acc : List S114) : back a b n 0 0 acc = acc := by
  cases n <;> simp [back]
theorem back_length (a b : List Int) (n : Nat) : ∀ (i j : Nat) (acc : List S114), (back a b n i j acc).length ≤ acc.length + n := by
  induction n with
  | zero => intro i j acc; simp [back]
  | succ n ih =>
    intro i j acc
    simp only [back]
    split
    · omega
    · split
      · have := ih (i - 1) (j - 1) (⟨((i - 1 : Nat) : Int), ((j - 1 : Nat) : Int)⟩ :: acc)
        simp only [List.length_cons] at this
        omega
      · split
        · have := ih (i - 1) j (⟨((i - 1 : Nat) : Int), -1⟩ :: acc)
          simp only [List.length_cons] at this
          omega
        · have := ih i (j - 1) (⟨-1, ((j - 1 : Nat) : Int)⟩ :: acc)
          simp only [List.length_cons] at this
          omega
theorem mul_lt_flat {i j n w : Nat} (hi : i < n) (hj : j < w) : i * w + j < n * w := by
  have := Nat.mul_le_mul_right w (show i + 1 ≤ n by omega)
  rw [Nat.add_mul] at this
  omega
theorem specBack_l0 (a b : List Int) (ha : a.length ≤ 40) (hb : b.length ≤ 40) (n : Nat) : ∀ (i j : Nat) (acc : List S114), i ≤ a.length → j ≤ b.length → i + j ≤ n → acc.length + n ≤ 1000 →
    Ev (fun k => spec_AlignPath.l0 k a b acc (tabE a b ((a.length + 1) * (b.length + 1))) ((b.length + 1 : Nat) : Int) (i : Int) (j : Int)) (back a b n i j acc) := by
  induction n with
  | zero =>
    intro i j acc hi hj hn hac
    obtain rfl : i = 0 := by omega
    obtain rfl : j = 0 := by omega
    refine ev_tail ?_
    simp only [spec_AlignPath.l0]
    refine ev_neg (by omega) (ev_tail ?_)
    simp only [spec_AlignPath.j1]
    exact ev_neg (by simp) (Ev.now _)
  | succ n ih =>
    intro i j acc hi hj hn hac
    by_cases h0 : i = 0 ∧ j = 0
    · obtain ⟨rfl, rfl⟩ := h0
      rw [back_zero]
      refine ev_tail ?_
      simp only [spec_AlignPath.l0]
      refine ev_neg (by omega) (ev_tail ?_)
      simp only [spec_AlignPath.j1]
      exact ev_neg (by simp) (Ev.now _)
    · have start : ∀ r, Ev (fun k => spec_AlignPath.j1 k a b acc (tabE a b ((a.length + 1) * (b.length + 1))) ((b.length + 1 : Nat) : Int) (i : Int) (j : Int) true) r → Ev (fun k => spec_AlignPath.l0 k a b acc (tabE a b ((a.length + 1) * (b.length + 1))) ((b.length + 1 : Nat) : Int) (i : Int) (j : Int)) r := by
        intro r e
        refine ev_tail ?_
        simp only [spec_AlignPath.l0]
        by_cases h1 : 0 < i
        · exact ev_pos (by omega) e
        · refine ev_neg (by omega) ?_
          rw [show decide ((j : Int) > 0) = true by simp; omega]
          exact e
      have hm := mul_small (i := a.length + 1) (w := b.length + 1) (by omega) (by omega)
      have hlen : (tabE a b ((a.length + 1) * (b.length + 1))).length = (a.length + 1) * (b.length + 1) := flat_length _ _ _
      have f1 : i * (b.length + 1) + j < (a.length + 1) * (b.length + 1) := mul_lt_flat (by omega) (by omega)
      have x1 := Aside0.mk (flat_idx (i := i) (w := b.length + 1) (k := j) (by omega) (by omega) (by omega))
      have r1 : Aside0 (rd (tabE a b ((a.length + 1) * (b.length + 1))) ((i * (b.length + 1) + j : Nat) : Int) = ((ed a b i j : Nat) : Int)) := ⟨rd_flat _ _ _ _ _ (by omega) f1⟩
      have b0 := ed_le a b i j
      refine start _ (ev_tail ?_)
      simp only [spec_AlignPath.j1, x1.out, r1.out, hlen]
      refine ev_pos (by trivial) (ev_pos (by omega) (ev_pos (by omega) ?_))
      -- the answers of the later steps
      have p4 : ∀ (p q : Int) (i' j' : Nat), i' ≤ a.length → j' ≤ b.length → i' + j' ≤ n → (p ≥ 0 → wrap64 ((i : Int) - 1) = (i' : Int)) → (¬ p ≥ 0 → i' = i) → (q ≥ 0 → wrap64 ((j : Int) - 1) = (j' : Int)) → (¬ q ≥ 0 → j' = j) →
          Ev (fun k => spec_AlignPath.j4 k a b acc (tabE a b ((a.length + 1) * (b.length + 1))) ((b.length + 1 : Nat) : Int) (i : Int) (j : Int) p q) (back a b n i' j' (⟨p, q⟩ :: acc)) := by
        intro p q i' j' hi' hj' hn' k1 k2 k3 k4
        have e := ih i' j' (⟨p, q⟩ :: acc) hi' hj' hn' (by rw [List.length_cons]; omega)
        refine ev_tail ?_
        simp only [spec_AlignPath.j4, Option.bind_some, List.singleton_append, List.length_cons, List.length_nil]
        refine ev_ite (fun c1 => ev_ite (fun c2 => ev_pos (by omega) ?_) (fun c2 => ev_pos (by omega) ?_)) (fun c1 => ev_ite (fun c2 => ev_pos (by omega) ?_) (fun c2 => ev_pos (by omega) ?_))
        · rw [k1 c1, k3 c2]; exact e
        · rw [k1 c1, ← k4 c2]; exact e
        · rw [← k2 c1, k3 c2]; exact e
        · rw [← k2 c1, ← k4 c2]; exact e
      have p3 : ∀ (v : Int) (hv : v = ((ed a b i j : Nat) : Int) ↔ (0 < i ∧ 0 < j ∧ ed a b i j = ed a b (i - 1) (j - 1) + unl a b (i - 1) (j - 1))),
          Ev (fun k => spec_AlignPath.j3 k a b acc (tabE a b ((a.length + 1) * (b.length + 1))) ((b.length + 1 : Nat) : Int) (i : Int) (j : Int) ((ed a b i j : Nat) : Int) v (-1) (wrap64 ((j : Int) - 1))) (back a b (n + 1) i j acc) := by
        intro v hv
        refine ev_tail ?_
        simp only [spec_AlignPath.j3, back, if_neg h0]
        by_cases hA : 0 < i ∧ 0 < j ∧ ed a b i j = ed a b (i - 1) (j - 1) + unl a b (i - 1) (j - 1)
        · rw [if_pos hA]
          refine ev_pos (hv.2 hA) ?_
          have wi : Aside0 (wrap64 ((i : Int) - 1) = ((i - 1 : Nat) : Int)) := ⟨wrap_pred (by omega) (by omega)⟩
          have wj : Aside0 (wrap64 ((j : Int) - 1) = ((j - 1 : Nat) : Int)) := ⟨wrap_pred (by omega) (by omega)⟩
          rw [wi.out, wj.out]
          exact p4 _ _ _ _ (by omega) (by omega) (by omega) (fun _ => wi.out) (fun h => absurd (by omega) h) (fun _ => wj.out) (fun h => absurd (by omega) h)
        · rw [if_neg hA]
          refine ev_neg (fun h => hA (hv.1 h)) ?_
          have third : ¬ (0 < i ∧ ed a b i j = ed a b (i - 1) j + 1) → 0 < j := by
            intro h
            rcases Nat.eq_zero_or_pos j with hj0 | hj0
            · subst hj0
              refine absurd ⟨by omega, ?_⟩ h
              rw [ed_left, ed_left]
              omega
            · exact hj0
          by_cases hi0 : 0 < i
          · refine ev_pos (by omega) ?_
            have wi : Aside0 (wrap64 ((i : Int) - 1) = ((i - 1 : Nat) : Int)) := ⟨wrap_pred (by omega) (by omega)⟩
            have x2 := Aside0.mk (flat_idx (i := i - 1) (w := b.length + 1) (k := j) (by omega) (by omega) (by omega))
            have f2 : (i - 1) * (b.length + 1) + j < (a.length + 1) * (b.length + 1) := mul_lt_flat (by omega) (by omega)
            have r2 : Aside0 (rd (tabE a b ((a.length + 1) * (b.length + 1))) (((i - 1) * (b.length + 1) + j : Nat) : Int) = ((ed a b (i - 1) j : Nat) : Int)) := ⟨rd_flat _ _ _ _ _ (by omega) f2⟩
            have b2 := ed_le a b (i - 1) j
            have w2 : Aside0 (wrap64 (((ed a b (i - 1) j : Nat) : Int) + 1) = ((ed a b (i - 1) j + 1 : Nat) : Int)) := ⟨wrap_succ (by omega)⟩
            simp only [wi.out, x2.out, r2.out, w2.out]
            refine ev_pos (by omega) (ev_pos (by omega) ?_)
            by_cases hB : ed a b i j = ed a b (i - 1) j + 1
            · rw [if_pos ⟨hi0, hB⟩]
              refine ev_pos (by omega) ?_
              exact p4 _ _ _ _ (by omega) (by omega) (by omega) (fun _ => wi.out) (fun h => absurd (by omega) h) (fun h => absurd h (by omega)) (fun _ => rfl)
            · rw [if_neg (by omega)]
              have hj0 := third (by omega)
              have wj : Aside0 (wrap64 ((j : Int) - 1) = ((j - 1 : Nat) : Int)) := ⟨wrap_pred (by omega) (by omega)⟩
              refine ev_neg (by omega) ?_
              rw [wj.out]
              exact p4 _ _ _ _ (by omega) (by omega) (by omega) (fun h => absurd h (by omega)) (fun _ => rfl) (fun _ => wj.out) (fun h => absurd (by omega) h)
          · rw [if_neg (by omega)]
            have hj0 := third (by omega)
            have wj : Aside0 (wrap64 ((j : Int) - 1) = ((j - 1 : Nat) : Int)) := ⟨wrap_pred (by omega) (by omega)⟩
            refine ev_neg (by omega) ?_
            rw [wj.out]
            exact p4 _ _ _ _ (by omega) (by omega) (by omega) (fun h => absurd h (by omega)) (fun _ => rfl) (fun _ => wj.out) (fun h => absurd (by omega) h)
      have no : ∀ r, Ev (fun k => spec_AlignPath.j3 k a b acc (tabE a b ((a.length + 1) * (b.length + 1))) ((b.length + 1 : Nat) : Int) (i : Int) (j : Int) ((ed a b i j : Nat) : Int) (-1) (-1) (wrap64 ((j : Int) - 1))) r → Ev (fun k => spec_AlignPath.j2 k a b acc (tabE a b ((a.length + 1) * (b.length + 1))) ((b.length + 1 : Nat) : Int) (i : Int) (j : Int) ((ed a b i j : Nat) : Int) (-1) false (-1) (wrap64 ((j : Int) - 1))) r := by
        intro r e
        refine ev_tail ?_
        simp only [spec_AlignPath.j2]
        exact ev_neg (by simp) e
      by_cases hi0 : 0 < i
      · refine ev_pos (by omega) ?_
        by_cases hj0 : 0 < j
        · rw [show decide ((j : Int) > 0) = true by simp; omega]
          have wi : Aside0 (wrap64 ((i : Int) - 1) = ((i - 1 : Nat) : Int)) := ⟨wrap_pred (by omega) (by omega)⟩
          have wj : Aside0 (wrap64 ((j : Int) - 1) = ((j - 1 : Nat) : Int)) := ⟨wrap_pred (by omega) (by omega)⟩
          have x2 := Aside0.mk (flat_idx (i := i - 1) (w := b.length + 1) (k := j) (by omega) (by omega) (by omega))
          have f2 : (i - 1) * (b.length + 1) + j < (a.length + 1) * (b.length + 1) := mul_lt_flat (by omega) (by omega)
          have x3 : Aside0 (wrap64 ((((i - 1) * (b.length + 1) + j : Nat) : Int) - 1) = (((i - 1) * (b.length + 1) + (j - 1) : Nat) : Int)) := ⟨by rw [wrap_pred (by omega) (by omega)]; omega⟩
          have r3 : Aside0 (rd (tabE a b ((a.length + 1) * (b.length + 1))) (((i - 1) * (b.length + 1) + (j - 1) : Nat) : Int) = ((ed a b (i - 1) (j - 1) : Nat) : Int)) := ⟨rd_flat _ _ _ _ _ (by omega) (by omega)⟩
          have b3 := ed_le a b (i - 1) (j - 1)
          have w3 : Aside0 (wrap64 (((ed a b (i - 1) (j - 1) : Nat) : Int) + 1) = ((ed a b (i - 1) (j - 1) + 1 : Nat) : Int)) := ⟨wrap_succ (by omega)⟩
          have p3' := fun v hv => p3 v hv
          rw [wj.out] at p3' ⊢
          refine ev_tail ?_
          simp only [spec_AlignPath.j2, wi.out, wj.out, x2.out, x3.out, r3.out, w3.out, hlen, rd_nat]
          refine ev_pos (by trivial) (ev_pos (by omega) (ev_pos (by omega) (ev_pos (by omega) (ev_pos (by omega) (ev_pos (by omega) (ev_pos (by omega) ?_))))))
          by_cases heq : a.getD (i - 1) 0 = b.getD (j - 1) 0
          · refine ev_pos heq (p3' _ ?_)
            have : unl a b (i - 1) (j - 1) = 0 := by unfold unl; rw [if_pos heq]
            omega
          · refine ev_neg heq (p3' _ ?_)
            have : unl a b (i - 1) (j - 1) = 1 := by unfold unl; rw [if_neg heq]
            omega
        · rw [show decide ((j : Int) > 0) = false by simp; omega]
          exact no _ (p3 _ (by omega))
      · refine ev_neg (by omega) ?_
        exact no _ (p3 _ (by omega))
def pathOf (a b : List Int) : List S114 := if a.length ≤ 40 ∧ b.length ≤ 40 then back a b (a.length + b.length) a.length b.length [] else []
theorem pathOf_length (a b : List Int) : (pathOf a b).length ≤ 80 := by
  unfold pathOf
  split
  · have := back_length a b (a.length + b.length) a.length b.length []
    simp only [List.length_nil] at this
    omega
  · simp
theorem specAlignPath_ev (a b : List Int) : Ev (fun k => spec_AlignPath.f k a b) (pathOf a b) := by
  simp only [spec_AlignPath.f, fits_eq, Option.bind_some, pathOf]
  by_cases h : a.length ≤ 40 ∧ b.length ≤ 40
  · rw [if_pos h]
    obtain ⟨ha, hb⟩ := h
    refine ev_pos (by simp [ha, hb]) (Ev.bind (specTable_ev a b ha hb) ?_)
    rw [wrap_succ (by omega)]
    exact specBack_l0 a b ha hb _ _ _ [] (by omega) (by omega) (by omega) (by simp; omega)
  · rw [if_neg h]
    exact ev_neg (by simpa using h) (Ev.now _)
theorem revPair_l0 (n : Nat) : ∀ (A m B : List S114), m.length ≤ n → A.length = B.length → (A ++ m ++ B).length ≤ 1000000 → Ev (fun k => impl_Pair.l0 k (A ++ m ++ B) (A.length : Int) ((A.length : Int) + (m.length : Int) - 1)) (A ++ m.reverse ++ B) := by
  induction n using Nat.strongRecOn with
  | _ n ih =>
    intro A m B hm hAB hl
    simp only [List.length_append] at hl
    by_cases h1 : m.length ≤ 1
    · refine ev_tail ?_
      simp only [impl_Pair.l0]
      refine ev_neg (by omega) (ev_eq (Ev.now _) ?_)
      match m, h1 with
      | [], _ => rfl
      | [x], _ => rfl
    · obtain ⟨x, m1, rfl⟩ : ∃ x t, m = x :: t := by
        cases m with
        | nil => simp at h1
        | cons x t => exact ⟨x, t, rfl⟩
      obtain ⟨m2, y, rfl⟩ : ∃ t y, m1 = t ++ [y] := by
        rcases List.eq_nil_or_concat m1 with h | ⟨t, y, h⟩
        · subst h; simp at h1
        · exact ⟨t, y, by simpa using h⟩
      simp only [List.length_cons, List.length_append, List.length_nil] at hm hl h1
      have e := ih m2.length (by omega) (A ++ [y]) m2 (x :: B) (Nat.le_refl _) (by simp; omega) (by simp; omega)
      have l1 : A ++ (x :: (m2 ++ [y])) ++ B = A ++ x :: (m2 ++ y :: B) := by simp
      have ix : ((A.length : Int) + (((x :: (m2 ++ [y])).length : Nat) : Int) - 1) = ((((A ++ [y]) ++ m2).length : Nat) : Int) := by simp; omega
      have hx : ∀ z, rd_T114 (A ++ z :: (m2 ++ y :: B)) ((((A ++ [y]) ++ m2).length : Nat) : Int) = y := by
        intro z
        have := getD_mid (A ++ [z] ++ m2) y B z114
        rw [show (A ++ [z] ++ m2) ++ y :: B = A ++ z :: (m2 ++ y :: B) by simp, show (A ++ [z] ++ m2).length = ((A ++ [y]) ++ m2).length by simp] at this
        exact this
      have hy : rd_T114 (A ++ x :: (m2 ++ y :: B)) ((A.length : Nat) : Int) = x := getD_mid A x _ _
      have s1 : (A ++ x :: (m2 ++ y :: B)).set ((A.length : Nat) : Int).toNat y = (A ++ [y] ++ m2) ++ y :: B := by rw [set_mid]; simp
      have s2 : ((A ++ [y] ++ m2) ++ y :: B).set ((((A ++ [y]) ++ m2).length : Nat) : Int).toNat x = (A ++ [y]) ++ m2 ++ (x :: B) := by rw [set_mid]
      have L : (A ++ x :: (m2 ++ y :: B)).length = A.length + m2.length + B.length + 2 := by simp; omega
      have L2 : ((A ++ [y]) ++ m2).length = A.length + m2.length + 1 := by simp; omega
      have w1 : Aside0 (wrap64 ((A.length : Int) + 1) = (((A ++ [y]).length : Nat) : Int)) := ⟨by rw [wrap_succ (by omega)]; simp⟩
      have w2 : Aside0 (wrap64 (((((A ++ [y]) ++ m2).length : Nat) : Int) - 1) = (((A ++ [y]).length : Nat) : Int) + (m2.length : Int) - 1) := ⟨by rw [wrap_id (by omega) (by omega)]; simp; omega⟩
      rw [l1, ix]
      refine ev_tail ?_
      simp only [impl_Pair.l0, hx x, hy, s1, s2, w1.out, w2.out, L]
      refine ev_pos (by omega) (ev_pos (by omega) (ev_pos (by omega) (ev_pos (by omega) (ev_pos (by omega) ?_))))
      refine ev_eq e ?_
      simp
theorem revPair_ev (m : List S114) (h : m.length ≤ 1000000) : Ev (fun k => impl_Pair.f k m) m.reverse := by
  simp only [impl_Pair.f]
  have e := revPair_l0 m.length [] m [] (Nat.le_refl _) rfl (by simpa using h)
  rw [wrap_id (by omega) (by omega)]
  simpa using e
theorem rowsE_at' (a b : List Int) (n i j : Nat) (h : i < n) (hj : j < b.length + 1) : rd (rd_L2 (rowsE a b n) (i : Int)) (j : Int) = ((ed a b i j : Nat) : Int) := by
  rw [rowsE_at a b n i h]
  exact rd_map_range (fun j => ((ed a b i j : Nat) : Int)) _ _ hj
theorem implBack_l0 (a b : List Int) (ha : a.length ≤ 40) (hb : b.length ≤ 40) (n : Nat) : ∀ (i j : Nat) (out : List S114), i ≤ a.length → j ≤ b.length → i + j ≤ n → out.length + n ≤ 1000 →
    Ev (fun k => impl_AlignPath.l0 k a b out (rowsE a b (a.length + 1)) (i : Int) (j : Int)) (back a b n i j out.reverse) := by
  have fin : ∀ out : List S114, out.length ≤ 1000 → Ev (fun k => impl_AlignPath.l0 k a b out (rowsE a b (a.length + 1)) ((0 : Nat) : Int) ((0 : Nat) : Int)) out.reverse := by
    intro out ho
    refine ev_tail ?_
    simp only [impl_AlignPath.l0]
    refine ev_neg (by omega) (ev_tail ?_)
    simp only [impl_AlignPath.j2]
    exact ev_neg (by simp) (Ev.bind (revPair_ev out (by omega)) (Ev.now _))
  induction n with
  | zero =>
    intro i j out hi hj hn hac
    obtain rfl : i = 0 := by omega
    obtain rfl : j = 0 := by omega
    exact fin out (by omega)
  | succ n ih =>
    intro i j out hi hj hn hac
    by_cases h0 : i = 0 ∧ j = 0
    · obtain ⟨rfl, rfl⟩ := h0
      rw [back_zero]
      exact fin out (by omega)
    · have next : ∀ (p : S114) (i' j' : Nat), i' ≤ a.length → j' ≤ b.length → i' + j' ≤ n → Ev (fun k => impl_AlignPath.l0 k a b (out ++ [p]) (rowsE a b (a.length + 1)) (i' : Int) (j' : Int)) (back a b n i' j' (p :: out.reverse)) := by
        intro p i' j' hi' hj' hn'
        have e := ih i' j' (out ++ [p]) hi' hj' hn' (by rw [length_snoc]; omega)
        simpa using e
      have start : ∀ r, Ev (fun k => impl_AlignPath.j2 k a b out (rowsE a b (a.length + 1)) (i : Int) (j : Int) true) r → Ev (fun k => impl_AlignPath.l0 k a b out (rowsE a b (a.length + 1)) (i : Int) (j : Int)) r := by
        intro r e
        refine ev_tail ?_
        simp only [impl_AlignPath.l0]
        by_cases h1 : 0 < i
        · exact ev_pos (by omega) e
        · refine ev_neg (by omega) ?_
          rw [show decide ((j : Int) > 0) = true by simp; omega]
          exact e
      have rl : (rowsE a b (a.length + 1)).length = a.length + 1 := rowsE_length _ _ _
      have rowl : ∀ m : Nat, m ≤ a.length → (rd_L2 (rowsE a b (a.length + 1)) (m : Int)).length = b.length + 1 := by
        intro m hm
        rw [rowsE_at a b (a.length + 1) m (by omega), rowE_length]
      have third : ¬ (0 < i ∧ ed a b i j = ed a b (i - 1) j + 1) → 0 < j := by
        intro h
        rcases Nat.eq_zero_or_pos j with hj0 | hj0
        · subst hj0
          refine absurd ⟨by omega, ?_⟩ h
          rw [ed_left, ed_left]
          omega
        · exact hj0
      have last : ¬ (0 < i ∧ ed a b i j = ed a b (i - 1) j + 1) → Ev (fun k => impl_AlignPath.l0 k a b (out ++ [(⟨(-1), wrap64 ((j : Int) - 1)⟩ : S114)]) (rowsE a b (a.length + 1)) (i : Int) (wrap64 ((j : Int) - 1))) (back a b n i (j - 1) (⟨-1, ((j - 1 : Nat) : Int)⟩ :: out.reverse)) := by
        intro h
        have hj0 := third h
        rw [wrap_pred (by omega) (by omega)]
        exact next _ i (j - 1) (by omega) (by omega) (by omega)
      have second : ¬ (0 < i ∧ 0 < j ∧ ed a b i j = ed a b (i - 1) (j - 1) + unl a b (i - 1) (j - 1)) → Ev (fun k => impl_AlignPath.j3 k a b out (rowsE a b (a.length + 1)) (i : Int) (j : Int) false) (back a b (n + 1) i j out.reverse) := by
        intro hA
        simp only [back, if_neg h0, if_neg hA]
        refine ev_tail ?_
        simp only [impl_AlignPath.j3]
        refine ev_neg (by simp) ?_
        by_cases hi0 : 0 < i
        · refine ev_pos (by omega) ?_
          have wi : Aside0 (wrap64 ((i : Int) - 1) = ((i - 1 : Nat) : Int)) := ⟨wrap_pred (by omega) (by omega)⟩
          have b2 := ed_le a b (i - 1) j
          have w2 : Aside0 (wrap64 (((ed a b (i - 1) j : Nat) : Int) + 1) = ((ed a b (i - 1) j + 1 : Nat) : Int)) := ⟨wrap_succ (by omega)⟩
          have l1 := rowl i hi
          have l2 := rowl (i - 1) (by omega)
          have v1 := Aside0.mk (rowsE_at' a b (a.length + 1) i j (by omega) (by omega))
          have v2 := Aside0.mk (rowsE_at' a b (a.length + 1) (i - 1) j (by omega) (by omega))
          simp only [wi.out, v1.out, v2.out, w2.out, rl, l1, l2]
          refine ev_pos (by omega) (ev_pos (by omega) (ev_pos (by omega) (ev_pos (by omega) (ev_pos (by omega) (ev_pos (by omega) (ev_pos (by omega) ?_))))))
          by_cases hB : ed a b i j = ed a b (i - 1) j + 1
          · rw [if_pos ⟨hi0, hB⟩]
            refine ev_pos (by omega) (ev_pos (by omega) ?_)
            exact next _ (i - 1) j (by omega) (by omega) (by omega)
          · rw [if_neg (by omega)]
            refine ev_neg (by omega) (ev_pos (by omega) ?_)
            exact last (by omega)
        · rw [if_neg (by omega)]
          refine ev_neg (by omega) (ev_pos (by omega) ?_)
          exact last (by omega)
      refine start _ (ev_tail ?_)
      simp only [impl_AlignPath.j2]
      refine ev_pos (by trivial) ?_
      by_cases hi0 : 0 < i
      · refine ev_pos (by omega) ?_
        by_cases hj0 : 0 < j
        · refine ev_pos (by omega) ?_
          have wi : Aside0 (wrap64 ((i : Int) - 1) = ((i - 1 : Nat) : Int)) := ⟨wrap_pred (by omega) (by omega)⟩
          have wj : Aside0 (wrap64 ((j : Int) - 1) = ((j - 1 : Nat) : Int)) := ⟨wrap_pred (by omega) (by omega)⟩
          have b3 := ed_le a b (i - 1) (j - 1)
          have b4 := unl_le a b (i - 1) (j - 1)
          have l1 := rowl i hi
          have l2 := rowl (i - 1) (by omega)
          have v1 := Aside0.mk (rowsE_at' a b (a.length + 1) i j (by omega) (by omega))
          have v2 := Aside0.mk (rowsE_at' a b (a.length + 1) (i - 1) (j - 1) (by omega) (by omega))
          have w2 : Aside0 (wrap64 (((ed a b (i - 1) (j - 1) : Nat) : Int) + ((unl a b (i - 1) (j - 1) : Nat) : Int)) = ((ed a b (i - 1) (j - 1) + unl a b (i - 1) (j - 1) : Nat) : Int)) := ⟨by rw [wrap_id (by omega) (by omega)]; omega⟩
          simp only [wi.out, wj.out, rl, l1, l2]
          refine ev_pos (by omega) (ev_pos (by omega) (ev_pos (by omega) (ev_pos (by omega) (ev_pos (by omega) (ev_pos (by omega) (ev_pos (by omega) (ev_pos (by omega) (ev_pos (by omega) (ev_pos (by omega) ?_)))))))))
          rw [unlike_eq]
          simp only [Option.bind_some, v1.out, v2.out, w2.out]
          by_cases hA : ed a b i j = ed a b (i - 1) (j - 1) + unl a b (i - 1) (j - 1)
          · rw [show (((ed a b i j : Nat) : Int) == ((ed a b (i - 1) (j - 1) + unl a b (i - 1) (j - 1) : Nat) : Int)) = true by rw [hA]; simp]
            simp only [back, if_neg h0, if_pos (show 0 < i ∧ 0 < j ∧ ed a b i j = ed a b (i - 1) (j - 1) + unl a b (i - 1) (j - 1) from ⟨hi0, hj0, hA⟩)]
            refine ev_tail ?_
            simp only [impl_AlignPath.j3, wi.out, wj.out]
            refine ev_pos (by trivial) (ev_pos (by omega) ?_)
            exact next _ (i - 1) (j - 1) (by omega) (by omega) (by omega)
          · rw [show (((ed a b i j : Nat) : Int) == ((ed a b (i - 1) (j - 1) + unl a b (i - 1) (j - 1) : Nat) : Int)) = false by rw [beq_eq_false_iff_ne]; omega]
            exact second (by omega)
        · exact ev_neg (by omega) (second (by omega))
      · exact ev_neg (by omega) (second (by omega))
theorem implAlignPath_ev (a b : List Int) : Ev (fun k => impl_AlignPath.f k a b) (pathOf a b) := by
  simp only [impl_AlignPath.f, Option.bind_some, pathOf]
  by_cases ha : a.length ≤ 40
  · refine ev_neg (by omega) ?_
    by_cases hb : b.length ≤ 40
    · rw [if_pos ⟨ha, hb⟩, show decide ((b.length : Int) > 40) = false by simp; omega]
      refine ev_tail ?_
      simp only [impl_AlignPath.j0]
      refine ev_neg (by simp) (Ev.bind (implCosts_ev a b ha hb) ?_)
      exact implBack_l0 a b ha hb _ _ _ [] (by omega) (by omega) (by omega) (by simp; omega)
    · rw [if_neg (by omega), show decide ((b.length : Int) > 40) = true by simp; omega]
      refine ev_tail ?_
      simp only [impl_AlignPath.j0]
      exact ev_pos (by trivial) (Ev.now _)
  · rw [if_neg (by omega)]
    refine ev_pos (by omega) (ev_tail ?_)
    simp only [impl_AlignPath.j0]
    exact ev_pos (by trivial) (Ev.now _)

theorem FnExactAlignPath : ∀ (l0 : List (Int)) (l1 : List (Int)), (l0.length ≤ maxLen) → (∀ x ∈ l0, (Lit.int .i64 x).wf = true) → (l1.length ≤ maxLen) → (∀ x ∈ l1, (Lit.int .i64 x).wf = true) → ∃ k, laws_FnExactAlignPath.f k l0 l1 = some true := by
  intro a b _ _ _ _
  refine Ev.rounds ?_
  simp only [laws_FnExactAlignPath.f]
  refine ev_ite (fun _ => Ev.now _) (fun h1 => ev_ite (fun _ => Ev.now _) (fun h2 => ?_))
  have ha : a.length ≤ 35184372088832 := by omega
  have hb : b.length ≤ 35184372088832 := by omega
  have hp := pathOf_length a b
  have ta := toIntS_ev a ha
  have tb := toIntS_ev b hb
  have ep := eqPairS_ev (pathOf a b) (by omega)
  have hd := heldPairS_ev (pathOf a b).length 1 (by omega) (by omega) (by omega)
  refine Ev.bind ta (Ev.bind tb (Ev.bind (specAlignPath_ev a b) ?_))
  refine Ev.bind ta (Ev.bind tb (Ev.bind (implAlignPath_ev a b) (Ev.bind ep (ev_pos (by trivial) ?_))))
  refine Ev.bind ta (Ev.bind (eqIntS_ev a ha) (ev_pos (by trivial) ?_))
  refine Ev.bind tb (Ev.bind (eqIntS_ev b hb) (ev_pos (by trivial) ?_))
  refine Ev.bind (markIntS_ev a 1 (by omega) (by omega) (by omega)) (Ev.bind (markIntS_ev b _ (by omega) (by omega) (by omega)) (ev_neg (by simp; omega) (Ev.bind ep (ev_tail ?_))))
  simp only [laws_FnExactAlignPath.j0]
  refine ev_neg (by simp) (Ev.bind (markPairS_ev _ 1 (by omega) (by omega) (by omega)) (Ev.bind hd (ev_neg (by omega) (ev_pos (by trivial) ?_))))
  exact Ev.bind ta (Ev.bind tb (Ev.bind (implAlignPath_ev a b) (Ev.bind ep (ev_pos (by trivial) (Ev.bind hd (ev_neg (by omega) (ev_pos (by trivial) (Ev.now _))))))))
end Go.Proofs.Ytnaoogkklkhpnaa.Pure
