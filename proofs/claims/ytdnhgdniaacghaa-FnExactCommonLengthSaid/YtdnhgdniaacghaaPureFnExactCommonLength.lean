/-
CommonLength of the program and of the reference: the same answer.
Conditions: none.
-/
import Derived.Test.YtdnhgdniaacghaaPFnExactCommonLengthx3
import Derived.Test.YtdnhgdniaacghaaEd
namespace Go.Proofs.Ytdnhgdniaacghaa.Pure
open Go.RowKit Go.Proofs.Ytdnhgdniaacghaa.PFnExactCommonLength Go.Proofs.YtdnhgdniaacghaaW.PrintWords Go.Proofs.YtdnhgdniaacghaaW.PrintLast Go.Proofs.YtdnhgdniaacghaaW.PrintMore Go.Proofs.Ytdnhgdniaacghaa.Base Go.Proofs.Ytdnhgdniaacghaa.Ed
set_option linter.unusedVariables false
set_option linter.unusedSimpArgs false

theorem toIntS_l0 (suf : List Int) : ∀ pre : List Int, (pre ++ suf).length ≤ 35184372088832 → Ev (fun k => laws_toIntS.l0 k (pre ++ suf) (pre ++ List.replicate suf.length 0) (pre.length : Int)) (pre ++ suf) := by
  induction suf with
  | nil =>
    intro pre h
    refine ev_tail ?_
    simp only [laws_toIntS.l0]
    refine ev_neg (by simp) ?_
    simpa using Ev.now pre
  | cons x t ih =>
    intro pre h
    have e := ih (pre ++ [x]) (by simpa using h)
    simp only [List.length_append, List.length_cons] at h
    refine ev_tail ?_
    simp only [laws_toIntS.l0]
    refine ev_pos (by simp; omega) (ev_pos (by omega) (ev_pos (by simp; omega) ?_))
    rw [rd_mid, List.length_cons, List.replicate_succ, set_mid, wrap_succ (by omega), snoc_cons pre x t, snoc_cons pre x (List.replicate t.length 0), ← length_snoc pre x]
    exact e
theorem toIntS_ev (l : List Int) (h : l.length ≤ 35184372088832) : Ev (fun k => laws_toIntS.f k l) l := by
  simp only [laws_toIntS.f]
  refine ev_pos (by omega) (ev_pos (by omega) ?_)
  exact toIntS_l0 l [] (by simpa using h)

theorem eqIntS_l0 (suf : List Int) : ∀ pre : List Int, (pre ++ suf).length ≤ 35184372088832 → Ev (fun k => laws_eqIntS.l0 k (pre ++ suf) (pre ++ suf) (pre.length : Int)) true := by
  induction suf with
  | nil =>
    intro pre h
    refine ev_tail ?_
    simp only [laws_eqIntS.l0]
    exact ev_neg (by simp) (Ev.now true)
  | cons x t ih =>
    intro pre h
    have e := ih (pre ++ [x]) (by simpa using h)
    simp only [List.length_append, List.length_cons] at h
    refine ev_tail ?_
    simp only [laws_eqIntS.l0]
    refine ev_pos (by simp; omega) (ev_pos (by omega) (ev_pos (by simp; omega) (ev_pos (by trivial) ?_)))
    rw [wrap_succ (by omega), snoc_cons pre x t, ← length_snoc pre x]
    exact e
theorem eqIntS_ev (l : List Int) (h : l.length ≤ 35184372088832) : Ev (fun k => laws_eqIntS.f k l l) true := by
  simp only [laws_eqIntS.f]
  refine ev_pos (by trivial) ?_
  exact eqIntS_l0 l [] (by simpa using h)

theorem fits_eq (a b : List Int) : spec_l16Fits.f a b = some (decide (a.length ≤ 40 ∧ b.length ≤ 40)) := by
  unfold spec_l16Fits.f
  by_cases h1 : (a.length : Int) ≤ 40
  · rw [if_pos h1]
    have : a.length ≤ 40 := by omega
    simp [this]
    omega
  · rw [if_neg h1]
    have : ¬ a.length ≤ 40 := by omega
    simp [this]
theorem specMax_eq (a b : Int) : spec_Max.f a b = some (max a b) := by
  unfold spec_Max.f
  split <;> (congr 1; omega)
def tabL (a b : List Int) (n : Nat) : List Int := flat (lc a b) (b.length + 1) n
theorem specLen_l1 (a b : List Int) (ha : a.length ≤ 40) (hb : b.length ≤ 40) (i : Nat) (hi : i ≤ a.length) {r : Int} (e : Ev (fun k => spec_CommonLength.l0 k a b ((b.length + 1 : Nat) : Int) (tabL a b ((i + 1) * (b.length + 1))) ((i + 1 : Nat) : Int)) r) (d : Nat) : ∀ j, j + d = b.length + 1 →
    Ev (fun k => spec_CommonLength.l1 k a b ((b.length + 1 : Nat) : Int) (tabL a b (i * (b.length + 1) + j)) (i : Int) (j : Int)) r := by
  induction d with
  | zero =>
    intro j hj
    refine ev_tail ?_
    simp only [spec_CommonLength.l1]
    refine ev_neg (by omega) ?_
    rw [wrap_succ (by omega)]
    rw [show i * (b.length + 1) + j = (i + 1) * (b.length + 1) by rw [Nat.add_mul]; omega]
    exact e
  | succ d ih =>
    intro j hj
    have hm := mul_small (i := i) (w := b.length + 1) (by omega) (by omega)
    have e1 := ih (j + 1) (by omega)
    have hlen : (tabL a b (i * (b.length + 1) + j)).length = i * (b.length + 1) + j := flat_length _ _ _
    have wj : Aside0 (wrap64 ((j : Int) + 1) = ((j + 1 : Nat) : Int)) := ⟨wrap_succ (by omega)⟩
    have put : ∀ v : Int, v = ((lc a b i j : Nat) : Int) → tabL a b (i * (b.length + 1) + j) ++ [v] = tabL a b (i * (b.length + 1) + (j + 1)) := fun v hv => flat_snoc (lc a b) (b.length + 1) i j (by omega) v hv
    refine ev_tail ?_
    simp only [spec_CommonLength.l1]
    refine ev_pos (by omega) ?_
    by_cases hi0 : i = 0
    · subst hi0
      refine ev_neg (by omega) (ev_tail ?_)
      simp only [spec_CommonLength.j2, hlen, wj.out]
      refine ev_neg (by simp) (ev_pos (by omega) ?_)
      rw [put _ (by rw [lc_zero]; rfl)]
      exact e1
    · refine ev_pos (by omega) (ev_tail ?_)
      simp only [spec_CommonLength.j2, hlen, wj.out]
      by_cases hj0 : j = 0
      · subst hj0
        refine ev_neg (by simp) (ev_pos (by omega) ?_)
        rw [put _ (by rw [lc_left]; rfl)]
        exact e1
      · refine ev_pos (by simp; omega) ?_
        obtain ⟨i', rfl⟩ : ∃ m, i = m + 1 := ⟨i - 1, by omega⟩
        obtain ⟨j', rfl⟩ : ∃ m, j = m + 1 := ⟨j - 1, by omega⟩
        have hmi : (i' + 1) * (b.length + 1) = i' * (b.length + 1) + (b.length + 1) := by rw [Nat.add_mul]; omega
        have wi : Aside0 (wrap64 (((i' + 1 : Nat) : Int) - 1) = (i' : Int)) := ⟨by rw [wrap_pred (by omega) (by omega)]; omega⟩
        have wj1 : Aside0 (wrap64 (((j' + 1 : Nat) : Int) - 1) = (j' : Int)) := ⟨by rw [wrap_pred (by omega) (by omega)]; omega⟩
        have x1 := Aside0.mk (flat_idx (i := i') (w := b.length + 1) (k := j' + 1) (by omega) (by omega) (by omega))
        have x2 := Aside0.mk (flat_idx (i := i' + 1) (w := b.length + 1) (k := j' + 1) (by omega) (by omega) (by omega))
        have x3 : Aside0 (wrap64 (((i' * (b.length + 1) + (j' + 1) : Nat) : Int) - 1) = ((i' * (b.length + 1) + j' : Nat) : Int)) := ⟨by rw [wrap_pred (by omega) (by omega)]; omega⟩
        have x4 : Aside0 (wrap64 ((((i' + 1) * (b.length + 1) + (j' + 1) : Nat) : Int) - 1) = (((i' + 1) * (b.length + 1) + j' : Nat) : Int)) := ⟨by rw [wrap_pred (by omega) (by omega)]; omega⟩
        have r1 : Aside0 (rd (tabL a b ((i' + 1) * (b.length + 1) + (j' + 1))) ((i' * (b.length + 1) + (j' + 1) : Nat) : Int) = ((lc a b i' (j' + 1) : Nat) : Int)) := ⟨rd_flat _ _ _ _ _ (by omega) (by omega)⟩
        have r2 : Aside0 (rd (tabL a b ((i' + 1) * (b.length + 1) + (j' + 1))) (((i' + 1) * (b.length + 1) + j' : Nat) : Int) = ((lc a b (i' + 1) j' : Nat) : Int)) := ⟨rd_flat _ _ _ _ _ (by omega) (by omega)⟩
        have r3 : Aside0 (rd (tabL a b ((i' + 1) * (b.length + 1) + (j' + 1))) ((i' * (b.length + 1) + j' : Nat) : Int) = ((lc a b i' j' : Nat) : Int)) := ⟨rd_flat _ _ _ _ _ (by omega) (by omega)⟩
        have b1 := lc_le a b i' (j' + 1)
        have b2 := lc_le a b (i' + 1) j'
        have b3 := lc_le a b i' j'
        simp only [wi.out, wj1.out, x1.out, x2.out, x3.out, x4.out, r1.out, r2.out, r3.out, specMax_eq, Option.bind_some]
        refine ev_pos (by omega) (ev_pos (by omega) (ev_pos (by omega) (ev_pos (by omega) (ev_pos (by omega) (ev_pos (by omega) (ev_pos (by omega) (ev_pos (by omega) ?_)))))))
        simp only [rd_nat]
        by_cases heq : a.getD i' 0 = b.getD j' 0
        · refine ev_pos heq (ev_pos (by omega) (ev_pos (by omega) (ev_pos (by omega) ?_)))
          rw [put _ (by rw [lc_max, if_pos heq, wrap_id (by omega) (by omega)]; omega)]
          exact e1
        · refine ev_neg heq (ev_pos (by omega) ?_)
          rw [put _ (by rw [lc_max, if_neg heq]; omega)]
          exact e1
theorem specLen_l0 (a b : List Int) (ha : a.length ≤ 40) (hb : b.length ≤ 40) (d : Nat) : ∀ i, i + d = a.length + 1 →
    Ev (fun k => spec_CommonLength.l0 k a b ((b.length + 1 : Nat) : Int) (tabL a b (i * (b.length + 1))) (i : Int)) ((lc a b a.length b.length : Nat) : Int) := by
  have hm := mul_small (i := a.length + 1) (w := b.length + 1) (by omega) (by omega)
  have hmi : (a.length + 1) * (b.length + 1) = a.length * (b.length + 1) + (b.length + 1) := by rw [Nat.add_mul]; omega
  induction d with
  | zero =>
    intro i hi
    obtain rfl : i = a.length + 1 := by omega
    have hlen : (tabL a b ((a.length + 1) * (b.length + 1))).length = (a.length + 1) * (b.length + 1) := flat_length _ _ _
    have w1 : Aside0 (wrap64 ((((a.length + 1) * (b.length + 1) : Nat) : Int) - 1) = ((a.length * (b.length + 1) + b.length : Nat) : Int)) := ⟨by rw [wrap_pred (by omega) (by omega)]; omega⟩
    refine ev_tail ?_
    simp only [spec_CommonLength.l0, hlen, w1.out]
    refine ev_neg (by omega) (ev_pos (by omega) (ev_pos (by omega) ?_))
    rw [show rd (tabL a b ((a.length + 1) * (b.length + 1))) ((a.length * (b.length + 1) + b.length : Nat) : Int) = ((lc a b a.length b.length : Nat) : Int) from rd_flat _ _ _ _ _ (by omega) (by omega)]
    exact Ev.now _
  | succ d ih =>
    intro i hi
    refine ev_tail ?_
    simp only [spec_CommonLength.l0]
    refine ev_pos (by omega) ?_
    exact specLen_l1 a b ha hb i (by omega) (ih (i + 1) (by omega)) (b.length + 1) 0 (by omega)
def commonM (a b : List Int) : Int := if a.length ≤ 40 ∧ b.length ≤ 40 then ((lc a b a.length b.length : Nat) : Int) else -1
theorem specCommonLength_ev (a b : List Int) : Ev (fun k => spec_CommonLength.f k a b) (commonM a b) := by
  simp only [spec_CommonLength.f, fits_eq, Option.bind_some, commonM]
  by_cases h : a.length ≤ 40 ∧ b.length ≤ 40
  · rw [if_pos h]
    refine ev_pos (by simpa using h) ?_
    rw [wrap_succ (by omega)]
    have := specLen_l0 a b h.1 h.2 (a.length + 1) 0 (by omega)
    simpa [tabL, flat] using this
  · rw [if_neg h]
    exact ev_neg (by simpa using h) (Ev.now _)
def rowL (a b : List Int) (i n : Nat) : List Int := (List.range n).map fun j => ((lc a b i j : Nat) : Int)
theorem rowL_length (a b : List Int) (i n : Nat) : (rowL a b i n).length = n := by simp [rowL]
theorem rowL_zero (a b : List Int) (n : Nat) : rowL a b 0 n = List.replicate n 0 := by
  apply List.ext_getElem
  · simp [rowL]
  · intro i h1 h2
    simp [rowL, lc_zero]
theorem rowL_one (a b : List Int) (i n : Nat) : rowL a b i 1 ++ List.replicate n 0 = List.replicate (n + 1) 0 := by
  simp [rowL, lc_left, List.replicate_succ]
theorem implLen_l1 (a b : List Int) (ha : a.length ≤ 40) (hb : b.length ≤ 40) (i : Nat) (hi : i < a.length) {r : Int} (e : Ev (fun k => impl_CommonLength.l0 k b (rowL a b (i + 1) (b.length + 1)) a (a.length : Int) ((i + 1 : Nat) : Int)) r) (d : Nat) : ∀ j, j + d = b.length →
    Ev (fun k => impl_CommonLength.l1 k b (rowL a b i (b.length + 1)) (a.getD i 0) (rowL a b (i + 1) (j + 1) ++ List.replicate d 0) a (a.length : Int) (i : Int) b (b.length : Int) (j : Int)) r := by
  induction d with
  | zero =>
    intro j hj
    obtain rfl : j = b.length := by omega
    refine ev_tail ?_
    simp only [impl_CommonLength.l1]
    refine ev_neg (by omega) ?_
    rw [wrap_succ (by omega)]
    simpa using e
  | succ d ih =>
    intro j hj
    have e1 := ih (j + 1) (by omega)
    have wj : Aside0 (wrap64 ((j : Int) + 1) = ((j + 1 : Nat) : Int)) := ⟨wrap_succ (by omega)⟩
    have hlen : (rowL a b (i + 1) (j + 1) ++ List.replicate (d + 1) (0 : Int)).length = b.length + 1 := by simp [rowL]; omega
    have put : ∀ v : Int, v = ((lc a b (i + 1) (j + 1) : Nat) : Int) → (rowL a b (i + 1) (j + 1) ++ List.replicate (d + 1) 0).set ((j + 1 : Nat) : Int).toNat v = rowL a b (i + 1) (j + 1 + 1) ++ List.replicate d 0 := fun v hv => row_set (fun j => ((lc a b (i + 1) j : Nat) : Int)) (j + 1) d v hv
    have r1 : Aside0 (rd (rowL a b (i + 1) (j + 1) ++ List.replicate (d + 1) 0) (j : Int) = ((lc a b (i + 1) j : Nat) : Int)) := ⟨rd_row (fun j => ((lc a b (i + 1) j : Nat) : Int)) _ _ _ (by omega)⟩
    have r2 : Aside0 (rd (rowL a b i (b.length + 1)) ((j + 1 : Nat) : Int) = ((lc a b i (j + 1) : Nat) : Int)) := ⟨rd_map_range (fun j => ((lc a b i j : Nat) : Int)) _ _ (by omega)⟩
    have r3 : Aside0 (rd (rowL a b i (b.length + 1)) (j : Int) = ((lc a b i j : Nat) : Int)) := ⟨rd_map_range (fun j => ((lc a b i j : Nat) : Int)) _ _ (by omega)⟩
    have b3 := lc_le a b i j
    refine ev_tail ?_
    simp only [impl_CommonLength.l1, hlen, wj.out, r1.out, r2.out, r3.out, rowL_length, Option.bind_some, rd_nat b j]
    refine ev_pos (by omega) (ev_pos (by omega) (ev_pos (by omega) (ev_pos (by omega) (ev_pos (by omega) (ev_pos (by omega) (ev_pos (by omega) ?_))))))
    by_cases heq : a.getD i 0 = b.getD j 0
    · refine ev_pos heq (ev_pos (by omega) ?_)
      rw [List.set_set, put _ (by rw [lc_succ, if_pos heq, wrap_id (by omega) (by omega)]; omega)]
      exact e1
    · refine ev_neg heq ?_
      rw [put _ (by rw [lc_succ, if_neg heq, mx_eq]; omega)]
      exact e1
theorem implLen_l0 (a b : List Int) (ha : a.length ≤ 40) (hb : b.length ≤ 40) (d : Nat) : ∀ i, i + d = a.length →
    Ev (fun k => impl_CommonLength.l0 k b (rowL a b i (b.length + 1)) a (a.length : Int) (i : Int)) ((lc a b a.length b.length : Nat) : Int) := by
  induction d with
  | zero =>
    intro i hi
    obtain rfl : i = a.length := by omega
    have r1 : Aside0 (rd (rowL a b a.length (b.length + 1)) (b.length : Int) = ((lc a b a.length b.length : Nat) : Int)) := ⟨rd_map_range (fun j => ((lc a b a.length j : Nat) : Int)) _ _ (by omega)⟩
    refine ev_tail ?_
    simp only [impl_CommonLength.l0, r1.out, rowL_length]
    exact ev_neg (by omega) (ev_pos (by omega) (ev_pos (by omega) (Ev.now _)))
  | succ d ih =>
    intro i hi
    have wb : Aside0 (wrap64 ((b.length : Int) + 1) = ((b.length + 1 : Nat) : Int)) := ⟨wrap_succ (by omega)⟩
    refine ev_tail ?_
    simp only [impl_CommonLength.l0, wb.out, Int.toNat_natCast, rd_nat a i]
    refine ev_pos (by omega) (ev_pos (by omega) (ev_pos (by omega) (ev_pos (by omega) (ev_pos (by omega) ?_))))
    rw [← rowL_one a b (i + 1) b.length]
    exact implLen_l1 a b ha hb i (by omega) (ih (i + 1) (by omega)) b.length 0 (by omega)
theorem implLen_j0 (a b : List Int) (x : Bool) : x = true → Ev (fun k => impl_CommonLength.j0 k a b x) (-1) := by
  rintro rfl
  refine ev_tail ?_
  simp only [impl_CommonLength.j0]
  exact ev_pos (by trivial) (Ev.now _)
theorem implCommonLength_ev (a b : List Int) : Ev (fun k => impl_CommonLength.f k a b) (commonM a b) := by
  simp only [impl_CommonLength.f, commonM]
  by_cases ha : a.length ≤ 40
  · refine ev_neg (by omega) ?_
    by_cases hb : b.length ≤ 40
    · rw [if_pos ⟨ha, hb⟩]
      have wb : Aside0 (wrap64 ((b.length : Int) + 1) = ((b.length + 1 : Nat) : Int)) := ⟨wrap_succ (by omega)⟩
      refine ev_tail ?_
      simp only [impl_CommonLength.j0, wb.out, Int.toNat_natCast]
      refine ev_neg (by simp; omega) (ev_pos (by omega) (ev_pos (by omega) ?_))
      rw [← rowL_zero a b]
      exact implLen_l0 a b ha hb a.length 0 (by omega)
    · rw [if_neg (by omega)]
      exact implLen_j0 a b _ (by simp; omega)
  · rw [if_neg (by omega)]
    exact ev_pos (by omega) (implLen_j0 a b _ rfl)


theorem FnExactCommonLength : ∀ (l0 : List (Int)) (l1 : List (Int)), (l0.length ≤ maxLen) → (∀ x ∈ l0, (Lit.int .i64 x).wf = true) → (l1.length ≤ maxLen) → (∀ x ∈ l1, (Lit.int .i64 x).wf = true) → ∃ k, laws_FnExactCommonLength.f k l0 l1 = some true := by
  intro a b _ _ _ _
  refine Ev.rounds ?_
  simp only [laws_FnExactCommonLength.f]
  refine ev_ite (fun _ => Ev.now _) (fun h1 => ev_ite (fun _ => Ev.now _) (fun h2 => ?_))
  have ha : a.length ≤ 35184372088832 := by omega
  have hb : b.length ≤ 35184372088832 := by omega
  refine Ev.bind (toIntS_ev a ha) (Ev.bind (toIntS_ev b hb) (Ev.bind (specCommonLength_ev a b) ?_))
  refine Ev.bind (toIntS_ev a ha) (Ev.bind (toIntS_ev b hb) (Ev.bind (implCommonLength_ev a b) (ev_pos (by trivial) ?_)))
  refine Ev.bind (toIntS_ev a ha) (Ev.bind (eqIntS_ev a ha) (ev_pos (by trivial) ?_))
  exact Ev.bind (toIntS_ev b hb) (Ev.bind (eqIntS_ev b hb) (ev_pos (by trivial) (Ev.now _)))
end Go.Proofs.Ytdnhgdniaacghaa.Pure
