/-
Faults are told where they are, and what has none has none: the law answers true for whatever bytes it draws from.
Conditions: none.
-/
import Derived.Test.YtlkfhddckgjlnaaPFnVoicesx13
import Derived.Test.YtlkfhddckgjlnaaBase
namespace Go.Proofs.Ytlkfhddckgjlnaa.Pure
open Go.RowKit Go.Proofs.Ytlkfhddckgjlnaa.PFnVoices Go.Proofs.YtlkfhddckgjlnaaW.PrintWords Go.Proofs.YtlkfhddckgjlnaaW.PrintLast Go.Proofs.YtlkfhddckgjlnaaW.PrintMore Go.Proofs.Ytlkfhddckgjlnaa.Base
set_option linter.unusedVariables false
set_option linter.unusedSimpArgs false

theorem l1In_eq (a b c : Int) : spec_l1In.f a b c = some (decide (b ≤ a ∧ a ≤ c)) := by
  unfold spec_l1In.f
  by_cases h1 : b ≤ a <;> by_cases h2 : a ≤ c <;> simp [h1, h2]
theorem InRange_eq (a b c : Int) : impl_InRange.f a b c = some (decide (b ≤ a ∧ a ≤ c)) := by
  unfold impl_InRange.f
  by_cases h1 : b ≤ a <;> by_cases h2 : a ≤ c <;> simp [h1, h2]

def evOK (e : S85) : Bool := decide (0 ≤ e.f0 ∧ e.f0 ≤ 2000 ∧ 1 ≤ e.f1 ∧ e.f1 ≤ 96 ∧ 21 ≤ e.f2 ∧ e.f2 ≤ 108 ∧ 1 ≤ e.f3 ∧ e.f3 ≤ 4)
/-- In order: by At, then by Voice, then by Pitch. -/
def evLt (a b : S85) : Bool := decide (a.f0 < b.f0 ∨ (a.f0 = b.f0 ∧ (a.f3 < b.f3 ∨ (a.f3 = b.f3 ∧ a.f2 < b.f2))))
def scC (l : List S85) (i : Int) : Bool := evOK (rd_T85 l i) && (decide (i ≤ 0) || evLt (rd_T85 l (i - 1)) (rd_T85 l i))
def scoreM (l : List S85) : Bool := allF (scC l) (decide ((l.length : Int) ≤ 40)) l.length 0
theorem l8Ok_eq (e : S85) : spec_l8Ok.f e.f0 e.f1 e.f2 e.f3 = some (evOK e) := by
  simp only [spec_l8Ok.f, l1In_eq, Option.bind_some, evOK]
  by_cases h1 : 0 ≤ e.f0 ∧ e.f0 ≤ 2000 <;> by_cases h2 : 1 ≤ e.f1 ∧ e.f1 ≤ 96 <;> by_cases h3 : 21 ≤ e.f2 ∧ e.f2 ≤ 108 <;> simp [h1, h2, h3, and_assoc] <;> omega
theorem l8Before_eq (a b : S85) : spec_l8Before.f a.f0 a.f1 a.f2 a.f3 b.f0 b.f1 b.f2 b.f3 = some (evLt a b) := by
  simp only [spec_l8Before.f, evLt]
  by_cases h1 : a.f0 = b.f0
  · rw [if_pos h1]
    by_cases h2 : a.f3 = b.f3
    · rw [if_pos h2]; congr 1; exact decide_eq_decide.mpr (by omega)
    · rw [if_neg h2]; congr 1; exact decide_eq_decide.mpr (by omega)
  · rw [if_neg h1]; congr 1; exact decide_eq_decide.mpr (by omega)
theorem specIsScore_ev (l : List S85) (h : l.length ≤ 1048576) : Ev (fun k => spec_IsScore.f k l) (scoreM l) := by
  simp only [spec_IsScore.f]
  refine ev_all (L := fun k i => spec_IsScore.l0 k l i) (n := l.length) (fun i hi => ?_) ?_ l.length 0 (by omega)
  · have w1 : Aside0 (wrap64 ((i : Int) + 1) = (i : Int) + 1) := ⟨wrap_id (by omega) (by omega)⟩
    have w2 : Aside0 (wrap64 ((i : Int) - 1) = (i : Int) - 1) := ⟨wrap_id (by omega) (by omega)⟩
    constructor
    · intro hc r e
      simp only [scC, Bool.and_eq_true] at hc
      obtain ⟨h1, h2⟩ := hc
      refine ev_tail ?_
      simp only [spec_IsScore.l0, l8Ok_eq, l8Before_eq, Option.bind_some, w1.out, w2.out]
      refine ev_pos (by omega) (ev_pos (by omega) (ev_pos h1 (ev_ite (fun h0 => ?_) (fun _ => e))))
      rw [decide_eq_false (by omega), Bool.false_or] at h2
      exact ev_pos (by omega) (ev_pos (by omega) (ev_pos h2 e))
    · intro hc
      simp only [scC, Bool.and_eq_false_iff] at hc
      refine ev_tail ?_
      simp only [spec_IsScore.l0, l8Ok_eq, l8Before_eq, Option.bind_some, w1.out, w2.out]
      refine ev_pos (by omega) (ev_pos (by omega) (ev_ite (fun h1 => ?_) (fun _ => Ev.now _)))
      rcases hc with hc | hc
      · rw [hc] at h1; exact absurd h1 (by simp)
      · simp only [Bool.or_eq_false_iff, decide_eq_false_iff_not] at hc
        exact ev_pos (by omega) (ev_pos (by omega) (ev_pos (by omega) (ev_neg (by rw [hc.2]; simp) (Ev.now _))))
  · refine ev_tail ?_
    simp only [spec_IsScore.l0]
    exact ev_neg (by omega) (Ev.now _)
theorem cmp_eq (a b : Int) : cmp_Compare_int.f a b = some (if a < b then -1 else if a > b then 1 else 0) := by
  simp only [cmp_Compare_int.f, cmp_isNaN_int.f, Option.bind_some, bne_self_eq_false, Bool.false_eq_true, if_false]
  by_cases h1 : a < b
  · rw [if_pos h1, if_pos h1]
  · rw [if_neg h1, if_neg h1]
    by_cases h2 : a > b
    · rw [if_pos h2, if_pos h2]
    · rw [if_neg h2, if_neg h2]
theorem or_ev (a b c : Int) : Ev (fun k => cmp_Or_int.f k [a, b, c]) (if a = 0 then (if b = 0 then (if c = 0 then 0 else c) else b) else a) := by
  simp only [cmp_Or_int.f]
  have r0 : rd [a, b, c] 0 = a := rfl
  have r1 : rd [a, b, c] 1 = b := rfl
  have r2 : rd [a, b, c] 2 = c := rfl
  have w0 : wrap64 ((0 : Int) + 1) = 1 := by unfold wrap64; omega
  have w1 : wrap64 ((1 : Int) + 1) = 2 := by unfold wrap64; omega
  have w2 : wrap64 ((2 : Int) + 1) = 3 := by unfold wrap64; omega
  refine ev_tail ?_
  simp only [cmp_Or_int.l0, r0, w0]
  refine ev_pos (by simp) (ev_pos (by omega) (ev_pos (by simp) (ev_ite (fun h0 => ?_) (fun h0 => ?_))))
  · rw [if_pos h0]
    refine ev_tail ?_
    simp only [cmp_Or_int.l0, r1, w1]
    refine ev_pos (by simp) (ev_pos (by omega) (ev_pos (by simp) (ev_ite (fun h1 => ?_) (fun h1 => ?_))))
    · rw [if_pos h1]
      refine ev_tail ?_
      simp only [cmp_Or_int.l0, r2, w2]
      refine ev_pos (by simp) (ev_pos (by omega) (ev_pos (by simp) (ev_ite (fun h2 => ?_) (fun h2 => ?_))))
      · rw [if_pos h2]
        refine ev_tail ?_
        simp only [cmp_Or_int.l0]
        exact ev_neg (by simp) (Ev.now _)
      · rw [if_neg h2]; exact Ev.now _
    · rw [if_neg h1]; exact Ev.now _
  · rw [if_neg h0]; exact Ev.now _
theorem eventOrder_ev (a b : S85) : ∃ r, Ev (fun k => impl_eventOrder.f k a.f0 a.f1 a.f2 a.f3 b.f0 b.f1 b.f2 b.f3) r ∧ (evLt a b = true ↔ r < 0) := by
  simp only [impl_eventOrder.f, cmp_eq, Option.bind_some]
  refine ⟨_, Ev.bind (or_ev _ _ _) (Ev.now _), ?_⟩
  simp only [evLt, decide_eq_true_eq]
  repeat' split
  all_goals omega
theorem implIsScore_ev (l : List S85) (h : l.length ≤ 1048576) : Ev (fun k => impl_IsScore.f k l) (scoreM l) := by
  simp only [impl_IsScore.f]
  refine ev_all (L := fun k i => impl_IsScore.l0 k l l (l.length : Int) i) (n := l.length) (fun i hi => ?_) ?_ l.length 0 (by omega)
  · have w1 : Aside0 (wrap64 ((i : Int) + 1) = (i : Int) + 1) := ⟨wrap_id (by omega) (by omega)⟩
    have w2 : Aside0 (wrap64 ((i : Int) - 1) = (i : Int) - 1) := ⟨wrap_id (by omega) (by omega)⟩
    obtain ⟨q, hq, hl⟩ := eventOrder_ev (rd_T85 l ((i : Int) - 1)) (rd_T85 l (i : Int))
    constructor
    · intro hc r e
      simp only [scC, Bool.and_eq_true, evOK, decide_eq_true_eq] at hc
      obtain ⟨h1, h2⟩ := hc
      refine ev_tail ?_
      simp only [impl_IsScore.l0, InRange_eq, Option.bind_some, w1.out, w2.out]
      refine ev_pos (by omega) (ev_pos (by omega) (ev_pos (by omega) (ev_pos (by simp; omega) (ev_pos (by simp; omega) (ev_pos (by simp; omega) (ev_pos (by simp; omega) (ev_ite (fun h0 => ?_) (fun _ => e))))))))
      rw [decide_eq_false (by omega), Bool.false_or] at h2
      have := hl.mp h2
      exact ev_pos (by omega) (ev_pos (by omega) (Ev.bind hq (ev_neg (by omega) e)))
    · intro hc
      refine ev_tail ?_
      simp only [impl_IsScore.l0, InRange_eq, Option.bind_some, w1.out, w2.out]
      refine ev_pos (by omega) (ev_pos (by omega) (ev_pos (by omega) (ev_ite (fun h1 => ev_ite (fun h2 => ev_ite (fun h3 => ev_ite (fun h4 => ?_) (fun _ => Ev.now _)) (fun _ => Ev.now _)) (fun _ => Ev.now _)) (fun _ => Ev.now _))))
      simp only [decide_eq_true_eq] at h1 h2 h3 h4
      simp only [scC, Bool.and_eq_false_iff] at hc
      rcases hc with hc | hc
      · simp only [evOK, decide_eq_false_iff_not] at hc
        exact absurd ⟨h1.1, h1.2, h2.1, h2.2, h3.1, h3.2, h4.1, h4.2⟩ hc
      · simp only [Bool.or_eq_false_iff, decide_eq_false_iff_not] at hc
        have : ¬ q < 0 := fun hlt => by rw [hl.mpr hlt] at hc; exact absurd hc.2 (by simp)
        exact ev_pos (by omega) (ev_pos (by omega) (ev_pos (by omega) (Ev.bind hq (ev_pos (by omega) (Ev.now _)))))
  · refine ev_tail ?_
    simp only [impl_IsScore.l0]
    exact ev_neg (by omega) (Ev.now _)
/-- A number behind the last, if it is another. -/
def addN (out : List Int) (n : Int) : List Int := if out.getLast? = some n then out else out ++ [n]
def cp (xs : List Int) : List Int := xs.foldl addN []
theorem cp_snoc (xs : List Int) (n : Int) : cp (xs ++ [n]) = addN (cp xs) n := by simp [cp]
theorem addN_last (out : List Int) (n : Int) : (addN out n).getLast? = some n := by
  unfold addN
  split
  · assumption
  · simp
theorem cp_last (xs : List Int) : (cp xs).getLast? = xs.getLast? := by
  rcases List.eq_nil_or_concat xs with h | ⟨t, n, h⟩
  · subst h; rfl
  · rw [h, List.concat_eq_append, cp_snoc, addN_last]; simp
theorem addN_length (out : List Int) (n : Int) : (addN out n).length ≤ out.length + 1 := by
  unfold addN
  split
  · omega
  · simp
theorem compact_snoc (xs : List Int) (n : Int) : Go.Lib.compact (xs ++ [n]) = if xs.getLast? = some n then Go.Lib.compact xs else Go.Lib.compact xs ++ [n] := by
  have hk : ∀ j, j < xs.length → Go.Lib.keeps (xs ++ [n]).toArray j = Go.Lib.keeps xs.toArray j := by
    intro j hj
    unfold Go.Lib.keeps
    have e1 : (xs ++ [n]).toArray[j]! = xs.toArray[j]! := by
      rw [getElem!_pos (xs ++ [n]).toArray j (by simp; omega), getElem!_pos xs.toArray j (by simpa using hj)]
      simp [List.getElem_append_left hj]
    have e2 : (xs ++ [n]).toArray[j - 1]! = xs.toArray[j - 1]! := by
      rw [getElem!_pos (xs ++ [n]).toArray (j - 1) (by simp; omega), getElem!_pos xs.toArray (j - 1) (by simp; omega)]
      simp [List.getElem_append_left (show j - 1 < xs.length by omega)]
    rw [e1, e2]
  have hv : ∀ j, j < xs.length → (xs ++ [n]).toArray[j]! = xs.toArray[j]! := by
    intro j hj
    rw [getElem!_pos (xs ++ [n]).toArray j (by simp; omega), getElem!_pos xs.toArray j (by simpa using hj)]
    simp [List.getElem_append_left hj]
  have hlast : Go.Lib.keeps (xs ++ [n]).toArray xs.length = decide (¬ xs.getLast? = some n) := by
    unfold Go.Lib.keeps
    refine decide_eq_decide.mpr ?_
    rcases List.eq_nil_or_concat xs with h | ⟨t, m, h⟩
    · subst h; simp
    · rw [List.concat_eq_append] at h
      subst h
      have e1 : (t ++ [m] ++ [n]).toArray[(t ++ [m]).length]! = n := by
        rw [getElem!_pos (t ++ [m] ++ [n]).toArray (t ++ [m]).length (by simp)]
        simp
      have e2 : (t ++ [m] ++ [n]).toArray[(t ++ [m]).length - 1]! = m := by
        rw [getElem!_pos (t ++ [m] ++ [n]).toArray ((t ++ [m]).length - 1) (by simp)]
        simp
      rw [e1, e2]
      simp only [List.length_append, List.length_cons, List.length_nil, List.getLast?_append, List.getLast?_singleton, Option.some_or, Option.some.injEq]
      constructor
      · rintro (h | h)
        · omega
        · exact fun e => h e.symm
      · exact fun h => .inr fun e => h e.symm
  have hfil : (List.range xs.length).filter (Go.Lib.keeps (xs ++ [n]).toArray) = (List.range xs.length).filter (Go.Lib.keeps xs.toArray) :=
    List.filter_congr fun j hj => hk j (List.mem_range.1 hj)
  have hmap : ((List.range xs.length).filter (Go.Lib.keeps xs.toArray)).map ((xs ++ [n]).toArray[·]!) = ((List.range xs.length).filter (Go.Lib.keeps xs.toArray)).map (xs.toArray[·]!) :=
    List.map_congr_left fun j hj => hv j (List.mem_range.1 (List.mem_filter.1 hj).1)
  have hn : (xs ++ [n]).toArray[xs.length]! = n := by
    rw [getElem!_pos (xs ++ [n]).toArray xs.length (by simp)]
    simp
  unfold Go.Lib.compact Go.Lib.compactUpTo
  rw [show (xs ++ [n]).length = xs.length + 1 by simp, List.range_succ, List.filter_append, List.map_append, hfil, hmap]
  by_cases h : xs.getLast? = some n
  · rw [if_pos h]
    simp [hlast, h]
  · rw [if_neg h]
    simp [hlast, h, hn]
theorem compact_cp (xs : List Int) : Go.Lib.compact xs = cp xs := by
  suffices h : ∀ m (xs : List Int), xs.length = m → Go.Lib.compact xs = cp xs from h _ xs rfl
  intro m
  induction m with
  | zero =>
    intro xs h
    obtain rfl := List.length_eq_zero_iff.1 h
    rfl
  | succ m ih =>
    intro xs h
    rcases List.eq_nil_or_concat xs with h' | ⟨t, n, h'⟩
    · subst h'; simp at h
    · rw [List.concat_eq_append] at h'
      subst h'
      rw [compact_snoc, cp_snoc, ih t (by simpa using h), addN, cp_last]
theorem l8Num_l0 (n : Int) (suf : List Int) : ∀ pre : List Int, (pre ++ suf).length ≤ 1048576 → (pre ++ suf).Pairwise (· < ·) → (∀ x ∈ pre, x < n) → (∀ x ∈ suf, x ≤ n) → Ev (fun k => spec_l8Num.l0 k (pre ++ suf) n (pre.length : Int)) (addN (pre ++ suf) n) := by
  induction suf with
  | nil =>
    intro pre h hp h1 h2
    refine ev_tail ?_
    simp only [spec_l8Num.l0, Option.bind_some, List.append_nil, Int.toNat_natCast, List.nil_append, List.length_nil, List.length_append, List.length_cons, List.length_drop, List.length_take]
    simp only [List.append_nil] at h
    refine ev_neg (by omega) (ev_pos (by omega) (ev_pos (by omega) (ev_pos (by omega) (ev_pos (by omega) (ev_pos (by omega) ?_)))))
    refine ev_eq (Ev.now _) ?_
    unfold addN
    rw [if_neg]
    · simp
    · intro e
      have := h1 n (List.mem_of_getLast? e)
      omega
  | cons x t ih =>
    intro pre h hp h1 h2
    have hx := h2 x (by simp)
    have hlen : pre.length + (t.length + 1) ≤ 1048576 := by simpa using h
    refine ev_tail ?_
    simp only [spec_l8Num.l0, rd_mid, Option.bind_some, List.nil_append]
    refine ev_pos (by simp; omega) (ev_pos (by omega) ?_)
    by_cases hlt : x < n
    · refine ev_pos hlt ?_
      have e := ih (pre ++ [x]) (by simpa using h) (by simpa using hp) (fun y hy => by
        rcases List.mem_append.1 hy with hy | hy
        · exact h1 y hy
        · rw [List.mem_singleton.1 hy]; exact hlt) (fun y hy => h2 y (by simp [hy]))
      rw [wrap_succ (by omega), snoc_cons pre x t, ← length_snoc pre x]
      exact e
    · refine ev_neg hlt (ev_pos (by omega) (ev_pos (by simp; omega) ?_))
      refine ev_eq (Ev.now _) ?_
      have ht : t = [] := by
        cases t with
        | nil => rfl
        | cons y s =>
          have hy := h2 y (by simp)
          have := (List.pairwise_append.1 hp).2.1
          have := (List.pairwise_cons.1 this).1 y (by simp)
          omega
      subst ht
      unfold addN
      rw [if_pos]
      have : x = n := by omega
      simp [this]
theorem l8Num_ev (out : List Int) (n : Int) (h : out.length ≤ 1048576) (hp : out.Pairwise (· < ·)) (hn : ∀ x ∈ out, x ≤ n) : Ev (fun k => spec_l8Num.f k out n) (addN out n) := by
  simp only [spec_l8Num.f]
  exact l8Num_l0 n out [] (by simpa using h) hp (fun _ h => by cases h) hn
theorem addN_asc (out : List Int) (n : Int) (hp : out.Pairwise (· < ·)) (hn : ∀ x ∈ out, x ≤ n) : (addN out n).Pairwise (· < ·) := by
  unfold addN
  split
  · exact hp
  · rename_i h
    refine List.pairwise_append.2 ⟨hp, List.pairwise_singleton _ _, fun x hx y hy => ?_⟩
    rw [List.mem_singleton.1 hy]
    have h1 := hn x hx
    rcases Int.lt_or_eq_of_le h1 with h2 | h2
    · exact h2
    · exfalso
      subst h2
      rcases List.eq_nil_or_concat out with h3 | ⟨t, m, h3⟩
      · subst h3; cases hx
      · rw [List.concat_eq_append] at h3
        subst h3
        rcases List.mem_append.1 hx with hx | hx
        · have := (List.pairwise_append.1 hp).2.2 x hx m (by simp)
          have := hn m (by simp)
          omega
        · apply h
          simp [List.mem_singleton.1 hx]
theorem addN_mem (out : List Int) (n x : Int) (h : x ∈ addN out n) : x ∈ out ∨ x = n := by
  unfold addN at h
  split at h
  · exact .inl h
  · simpa using h
theorem score_ats {l : List S85} (h : scoreM l = true) : ∀ d i : Nat, i + d < l.length → (rd_T85 l (i : Int)).f0 ≤ (rd_T85 l ((i + d : Nat) : Int)).f0 := by
  have hs := ((allF_iff _ _ _ _).1 h).2
  intro d
  induction d with
  | zero => intro i _; exact Int.le_refl _
  | succ d ih =>
    intro i hi
    have h1 := ih i (by omega)
    have h2 := hs (i + (d + 1)) (by omega) (by omega)
    simp only [scC, Bool.and_eq_true, Bool.or_eq_true, decide_eq_true_eq] at h2
    have h3 := h2.2.resolve_left (by omega)
    rw [show ((i + (d + 1) : Nat) : Int) - 1 = ((i + d : Nat) : Int) by omega] at h3
    simp only [evLt, decide_eq_true_eq] at h3
    omega
def onSt (l : List S85) (a b : Int) (i : Int) (out : List Int) : List Int := if (rd_T85 l i).f3 = a ∨ (rd_T85 l i).f3 = b then addN out (rd_T85 l i).f0 else out
def onAll (l : List S85) (a b : Int) (i : Int) (out : List Int) : List Int := if (rd_T85 l i).f3 = a ∨ (rd_T85 l i).f3 = b then out ++ [(rd_T85 l i).f0] else out
def onsetsM (l : List S85) (a b : Int) : List Int := if scoreM l = true then foldM (onSt l a b) l.length 0 [] else []
theorem onAll_cp (l : List S85) (a b : Int) (d : Nat) : ∀ (i : Nat) (out : List Int), cp (foldM (onAll l a b) d i out) = foldM (onSt l a b) d i (cp out) := by
  induction d with
  | zero => intro i out; rfl
  | succ d ih =>
    intro i out
    simp only [foldM]
    rw [ih]
    congr 1
    unfold onAll onSt
    split
    · rw [cp_snoc]
    · rfl
def onI (l : List S85) (i : Nat) (out : List Int) : Prop := out.length ≤ i ∧ out.Pairwise (· < ·) ∧ ∀ x ∈ out, ∀ j, i ≤ j → j < l.length → x ≤ (rd_T85 l (j : Int)).f0
theorem onI_step {l : List S85} (hsc : scoreM l = true) (a b : Int) (i : Nat) (s : List Int) (hi : i < l.length) (h : onI l i s) : onI l (i + 1) (onSt l a b (i : Int) s) := by
  obtain ⟨h1, h2, h3⟩ := h
  unfold onSt
  split
  · have hl := addN_length s (rd_T85 l (i : Int)).f0
    refine ⟨by omega, addN_asc _ _ h2 (fun x hx => h3 x hx i (Nat.le_refl _) hi), fun x hx j hj hjl => ?_⟩
    rcases addN_mem _ _ _ hx with hx | rfl
    · exact h3 x hx j (by omega) hjl
    · have := score_ats hsc (j - i) i (by omega)
      rwa [show i + (j - i) = j by omega] at this
  · exact ⟨by omega, h2, fun x hx j hj hjl => h3 x hx j (by omega) hjl⟩
theorem onsetsM_facts (l : List S85) (a b : Int) : (onsetsM l a b).length ≤ l.length ∧ (onsetsM l a b).Pairwise (· < ·) := by
  unfold onsetsM
  split
  · rename_i hsc
    have : ∀ d i s, i + d = l.length → onI l i s → onI l l.length (foldM (onSt l a b) d i s) := by
      intro d
      induction d with
      | zero => intro i s h hI; obtain rfl : i = l.length := by omega
                exact hI
      | succ d ih => intro i s h hI; exact ih _ _ (by omega) (onI_step hsc a b i s (by omega) hI)
    have h := this l.length 0 [] (by omega) ⟨Nat.le_refl _, List.Pairwise.nil, fun x hx => by cases hx⟩
    exact ⟨h.1, h.2.1⟩
  · exact ⟨by simp, List.Pairwise.nil⟩
theorem specOnsets_ev (l : List S85) (a b : Int) (h : l.length ≤ 1048576) : Ev (fun k => spec_OnsetsOf.f k l a b) (onsetsM l a b) := by
  simp only [spec_OnsetsOf.f, onsetsM]
  have hs := specIsScore_ev l h
  by_cases hsc : scoreM l = true
  · rw [if_pos hsc]
    rw [hsc] at hs
    refine ev_fold (L := fun k out i => spec_OnsetsOf.l0 k l a b out i) (st := onSt l a b) (fin := id) (n := l.length) (s0 := 0) (onI l) (fun i s _ hi hI => onI_step hsc a b i s hi hI) (fun i s _ hi hI r e => ?_) (fun s _ => ?_) l.length 0 [] (by omega) (by omega) ⟨Nat.le_refl _, List.Pairwise.nil, fun x hx => by cases hx⟩
    · obtain ⟨h1, h2, h3⟩ := hI
      have w1 : Aside0 (wrap64 ((i : Int) + 1) = (i : Int) + 1) := ⟨wrap_id (by omega) (by omega)⟩
      have ea := l8Num_ev s (rd_T85 l (i : Int)).f0 (by omega) h2 (fun x hx => h3 x hx i (Nat.le_refl _) hi)
      refine ev_tail ?_
      simp only [spec_OnsetsOf.l0]
      refine ev_pos (by omega) (Ev.bind hs (ev_tail ?_))
      simp only [spec_OnsetsOf.j1, w1.out]
      refine ev_pos (by trivial) (ev_pos (by omega) (ev_pos (by omega) ?_))
      unfold onSt at e
      refine ev_ite (fun c1 => ?_) (fun c1 => ev_ite (fun c2 => ?_) (fun c2 => ?_))
      · rw [if_pos (.inl c1)] at e; exact Ev.bind ea e
      · rw [if_pos (.inr c2)] at e; exact Ev.bind ea e
      · rw [if_neg (fun z => z.elim c1 c2)] at e; exact e
    · refine ev_tail ?_
      simp only [spec_OnsetsOf.l0]
      refine ev_neg (by omega) (ev_tail ?_)
      simp only [spec_OnsetsOf.j1]
      exact ev_neg (by simp) (Ev.now _)
  · rw [if_neg hsc]
    rw [Bool.eq_false_iff.mpr hsc] at hs
    refine ev_tail ?_
    simp only [spec_OnsetsOf.l0]
    refine ev_ite (fun _ => Ev.bind hs (ev_tail ?_)) (fun _ => ev_tail ?_)
    · simp only [spec_OnsetsOf.j1]
      exact ev_neg (by simp) (Ev.now _)
    · simp only [spec_OnsetsOf.j1]
      exact ev_neg (by simp) (Ev.now _)
theorem implOnsets_ev (l : List S85) (a b : Int) (h : l.length ≤ 1048576) : Ev (fun k => impl_OnsetsOf.f k l a b) (onsetsM l a b) := by
  simp only [impl_OnsetsOf.f, Option.bind_some, onsetsM, slices_Compact_int_int.f]
  refine Ev.bind (implIsScore_ev l h) (ev_ite (fun hsc => ?_) (fun hsc => ?_))
  · rw [if_pos hsc]
    have e0 : foldM (onSt l a b) l.length 0 [] = Go.Lib.compact (foldM (onAll l a b) l.length 0 []) := by rw [compact_cp, onAll_cp]; rfl
    rw [e0]
    refine ev_fold (L := fun k out i => impl_OnsetsOf.l0 k a b out l (l.length : Int) i) (st := onAll l a b) (fin := Go.Lib.compact) (n := l.length) (s0 := 0) (fun i s => s.length ≤ i) (fun i s _ hi hI => ?_) (fun i s _ hi hI r e => ?_) (fun s _ => ?_) l.length 0 [] (by omega) (by omega) (Nat.le_refl _)
    · unfold onAll
      split
      · rw [length_snoc]; omega
      · omega
    · have w1 : Aside0 (wrap64 ((i : Int) + 1) = (i : Int) + 1) := ⟨wrap_id (by omega) (by omega)⟩
      refine ev_tail ?_
      simp only [impl_OnsetsOf.l0, w1.out]
      refine ev_pos (by omega) (ev_pos (by omega) (ev_pos (by omega) ?_))
      unfold onAll at e
      refine ev_ite (fun c1 => ev_pos (by omega) ?_) (fun c1 => ev_ite (fun c2 => ev_pos (by omega) ?_) (fun c2 => ?_))
      · rw [if_pos (.inl c1)] at e; exact e
      · rw [if_pos (.inr c2)] at e; exact e
      · rw [if_neg (fun z => z.elim c1 c2)] at e; exact e
    · refine ev_tail ?_
      simp only [impl_OnsetsOf.l0, slices_Compact_int_int.f, Option.bind_some]
      exact ev_neg (by omega) (Ev.now _)
  · rw [if_neg hsc]
    exact Ev.now _

/-- Does an event sound at a tick? -/
def sounds (e : S85) (t : Int) : Bool := decide (e.f0 ≤ t ∧ t < wrap64 (e.f0 + e.f1))
theorem sounds_eq (e : S85) (t : Int) : impl_Event_sounds.f e.f0 e.f1 e.f2 e.f3 t = some (sounds e t) := by
  simp only [impl_Event_sounds.f, sounds]
  by_cases h : e.f0 ≤ t
  · rw [if_pos h]; simp [h]
  · rw [if_neg h]; simp [h]
def pitSt (l : List S85) (v t : Int) (i p : Int) : Int := if (rd_T85 l i).f3 = v ∧ sounds (rd_T85 l i) t = true then (rd_T85 l i).f2 else p
def pitchM (l : List S85) (v t : Int) : Int := if scoreM l = true then foldM (pitSt l v t) l.length 0 0 else 0
theorem implPitchAt_ev (l : List S85) (v t : Int) (h : l.length ≤ 1048576) : Ev (fun k => impl_PitchAt.f k l v t) (pitchM l v t) := by
  simp only [impl_PitchAt.f, pitchM]
  refine Ev.bind (implIsScore_ev l h) (ev_ite (fun hsc => ?_) (fun hsc => ?_))
  · rw [if_pos hsc]
    refine ev_fold (L := fun k p i => impl_PitchAt.l0 k v t p l (l.length : Int) i) (st := pitSt l v t) (fin := id) (n := l.length) (s0 := 0) (fun _ _ => True) (fun _ _ _ _ _ => trivial) (fun i p _ hi _ r e => ?_) (fun p _ => ?_) l.length 0 0 (by omega) (by omega) trivial
    · have w1 : Aside0 (wrap64 ((i : Int) + 1) = (i : Int) + 1) := ⟨wrap_id (by omega) (by omega)⟩
      refine ev_tail ?_
      simp only [impl_PitchAt.l0, sounds_eq, Option.bind_some, w1.out]
      refine ev_pos (by omega) (ev_pos (by omega) (ev_pos (by omega) ?_))
      unfold pitSt at e
      refine ev_ite (fun c1 => ev_ite (fun c2 => ?_) (fun c2 => ?_)) (fun c1 => ?_)
      · rw [if_pos ⟨c1, c2⟩] at e; exact e
      · rw [if_neg (fun z => c2 z.2)] at e; exact e
      · rw [if_neg (fun z => c1 z.1)] at e; exact e
    · refine ev_tail ?_
      simp only [impl_PitchAt.l0]
      exact ev_neg (by omega) (Ev.now _)
  · rw [if_neg hsc]
    exact Ev.now _

theorem foldM_inv {σ : Type} (st : Int → σ → σ) (I : σ → Prop) (n : Nat) (h : ∀ (i : Nat) (s : σ), i < n → I s → I (st (i : Int) s)) : ∀ (d i : Nat) (s : σ), i + d = n → I s → I (foldM st d i s) := by
  intro d
  induction d with
  | zero => intro i s _ hs; exact hs
  | succ d ih => intro i s hi hs; exact ih (i + 1) _ (by omega) (h i s (by omega) hs)
theorem score_at {l : List S85} (h : scoreM l = true) (i : Nat) (hi : i < l.length) : evOK (rd_T85 l (i : Int)) = true := by
  unfold scoreM at h
  rw [allF_iff] at h
  have := h.2 i (by omega) (by omega)
  unfold scC at this
  rw [Bool.and_eq_true] at this
  exact this.1

theorem pitchM_bound (l : List S85) (v t : Int) : 0 ≤ pitchM l v t ∧ pitchM l v t ≤ 108 := by
  unfold pitchM
  split
  · rename_i h
    refine foldM_inv (pitSt l v t) (fun p => 0 ≤ p ∧ p ≤ 108) l.length (fun i s hi hs => ?_) l.length 0 0 (by omega) (by omega)
    have he := score_at h i hi
    simp only [evOK, decide_eq_true_eq] at he
    unfold pitSt
    split
    · show 0 ≤ _ ∧ _ ≤ 108
      omega
    · exact hs
  · omega

def dist (a b : Int) : Int := Int.tmod (((a - b).natAbs : Nat) : Int) 12
def parB (a b c d : Int) : Bool := decide (0 < a ∧ 0 < b ∧ 0 < c ∧ 0 < d ∧ ((a < c ∧ b < d) ∨ (c < a ∧ d < b)) ∧ dist a b = dist c d ∧ (dist a b = 0 ∨ dist a b = 7))
theorem mx_dist {a b : Int} (ha : 0 ≤ a ∧ a ≤ 108) (hb : 0 ≤ b ∧ b ≤ 108) : Int.tmod (mx (wrap64 (a - b)) (wrap64 (b - a))) 12 = dist a b := by
  unfold dist
  rw [wrap_id (by omega) (by omega), wrap_id (by omega) (by omega), mx_eq]
  congr 1
  omega
theorem isParallel_eq {a b c d : Int} (ha : 0 ≤ a ∧ a ≤ 108) (hb : 0 ≤ b ∧ b ≤ 108) (hc : 0 ≤ c ∧ c ≤ 108) (hd : 0 ≤ d ∧ d ≤ 108) : impl_isParallel.f a b c d = some (parB a b c d) := by
  unfold impl_isParallel.f
  rw [mx_dist ha hb, mx_dist hc hd]
  have no : ∀ {p : Prop} [Decidable p], ¬ p → some false = some (decide p) := fun h => by rw [decide_eq_false h]
  have end_ : (¬ ¬ dist a b = dist c d) → (0 < a ∧ 0 < b ∧ 0 < c ∧ 0 < d) → ((a < c ∧ b < d) ∨ (c < a ∧ d < b)) → (if dist a b = 0 then some true else some (dist a b == 7)) = some (parB a b c d) := by
    intro h1 h2 h3
    have h4 : dist a b = dist c d := Decidable.not_not.1 h1
    by_cases h5 : dist a b = 0
    · rw [if_pos h5]
      unfold parB
      rw [decide_eq_true ⟨h2.1, h2.2.1, h2.2.2.1, h2.2.2.2, h3, h4, .inl h5⟩]
    · rw [if_neg h5]
      unfold parB
      by_cases h6 : dist a b = 7
      · rw [decide_eq_true ⟨h2.1, h2.2.1, h2.2.2.1, h2.2.2.2, h3, h4, .inr h6⟩, h6]; rfl
      · rw [decide_eq_false (fun z => by rcases z.2.2.2.2.2.2 with y | y <;> omega)]
        congr 1
        simpa using h6
  by_cases p1 : a > 0
  · by_cases p2 : b > 0
    · by_cases p3 : c > 0
      · by_cases p4 : d > 0
        · rw [if_pos p1, if_pos p2, if_pos p3, if_pos p4]
          have up : (c > a ∧ d > b) → (if dist a b = dist c d then (if dist a b = 0 then some true else some (dist a b == 7)) else some false) = some (parB a b c d) := fun h => by
            by_cases e : dist a b = dist c d
            · rw [if_pos e]; exact end_ (fun z => z e) ⟨p1, p2, p3, p4⟩ (.inl ⟨h.1, h.2⟩)
            · rw [if_neg e]; exact no (fun z => e z.2.2.2.2.2.1)
          have dn : (c < a ∧ d < b) → (if dist a b = dist c d then (if dist a b = 0 then some true else some (dist a b == 7)) else some false) = some (parB a b c d) := fun h => by
            by_cases e : dist a b = dist c d
            · rw [if_pos e]; exact end_ (fun z => z e) ⟨p1, p2, p3, p4⟩ (.inr ⟨h.1, h.2⟩)
            · rw [if_neg e]; exact no (fun z => e z.2.2.2.2.2.1)
          have dn2 : (if c < a then (if d < b then (if dist a b = dist c d then (if dist a b = 0 then some true else some (dist a b == 7)) else some false) else some false) else some false) = some (decide (0 < a ∧ 0 < b ∧ 0 < c ∧ 0 < d ∧ ((c < a ∧ d < b)) ∧ dist a b = dist c d ∧ (dist a b = 0 ∨ dist a b = 7))) := by
            by_cases q1 : c < a
            · by_cases q2 : d < b
              · rw [if_pos q1, if_pos q2, dn ⟨q1, q2⟩]
                unfold parB
                refine congrArg some (decide_eq_decide.2 ?_)
                constructor
                · rintro ⟨z1, z2, z3, z4, z5, z6⟩; exact ⟨z1, z2, z3, z4, ⟨q1, q2⟩, z6⟩
                · rintro ⟨z1, z2, z3, z4, z5, z6⟩; exact ⟨z1, z2, z3, z4, .inr z5, z6⟩
              · rw [if_pos q1, if_neg q2]; exact no (fun z => q2 z.2.2.2.2.1.2)
            · rw [if_neg q1]; exact no (fun z => q1 z.2.2.2.2.1.1)
          have fin : ¬ (a < c ∧ b < d) → some (decide (0 < a ∧ 0 < b ∧ 0 < c ∧ 0 < d ∧ ((c < a ∧ d < b)) ∧ dist a b = dist c d ∧ (dist a b = 0 ∨ dist a b = 7))) = some (parB a b c d) := fun h => by
            unfold parB
            refine congrArg some (decide_eq_decide.2 ?_)
            constructor
            · rintro ⟨z1, z2, z3, z4, z5, z6⟩; exact ⟨z1, z2, z3, z4, .inr z5, z6⟩
            · rintro ⟨z1, z2, z3, z4, z5, z6⟩; exact ⟨z1, z2, z3, z4, z5.resolve_left h, z6⟩
          by_cases q1 : c > a
          · by_cases q2 : d > b
            · rw [if_pos q1, if_pos q2]; exact up ⟨q1, q2⟩
            · rw [if_pos q1, if_neg q2, dn2]; exact fin (fun z => q2 z.2)
          · rw [if_neg q1, dn2]; exact fin (fun z => q1 z.1)
        · rw [if_pos p1, if_pos p2, if_pos p3, if_neg p4]; exact no (fun z => p4 z.2.2.2.1)
      · rw [if_pos p1, if_pos p2, if_neg p3]; exact no (fun z => p3 z.2.2.1)
    · rw [if_pos p1, if_neg p2]; exact no (fun z => p2 z.2.1)
  · rw [if_neg p1]; exact no (fun z => p1 z.1)
/-- The times behind the first one at which two voices have gone on in parallel. -/
def parGo (l : List S85) (u v : Int) : Int → List Int → List Int
  | _, [] => []
  | x, y :: t => (if parB (pitchM l u x) (pitchM l v x) (pitchM l u y) (pitchM l v y) = true then [y] else []) ++ parGo l u v y t
def paraM (l : List S85) (u v : Int) : List Int := match onsetsM l u v with
  | [] => []
  | x :: t => parGo l u v x t
theorem parGo_length (l : List S85) (u v : Int) (t : List Int) : ∀ x, (parGo l u v x t).length ≤ t.length := by
  induction t with
  | nil => intro x; simp [parGo]
  | cons y t ih =>
    intro x
    have := ih y
    simp only [parGo, List.length_append, List.length_cons]
    split <;> simp <;> omega
theorem paraM_length (l : List S85) (u v : Int) : (paraM l u v).length ≤ l.length := by
  have h := (onsetsM_facts l u v).1
  unfold paraM
  split
  · simp
  · rename_i x t e
    rw [e] at h
    have := parGo_length l u v t x
    simp only [List.length_cons] at h
    omega
theorem rd_mid1 (pre : List Int) (x y : Int) (suf : List Int) : rd (pre ++ x :: y :: suf) ((pre.length + 1 : Nat) : Int) = y := by
  rw [snoc_cons, ← length_snoc pre x]; exact rd_mid (pre ++ [x]) y suf
theorem implPar_l0 (l : List S85) (u v : Int) (hl : l.length ≤ 1048576) (suf : List Int) : ∀ (pre out : List Int) (x : Int), (pre ++ x :: suf).length ≤ 1048576 → out.length ≤ pre.length → Ev (fun k => impl_ParallelsIn.l0 k l u v out (pre ++ x :: suf) ((pre.length + 1 : Nat) : Int)) (out ++ parGo l u v x suf) := by
  induction suf with
  | nil =>
    intro pre out x h ho
    refine ev_tail ?_
    simp only [impl_ParallelsIn.l0]
    exact ev_neg (by simp) (ev_eq (Ev.now _) (by simp [parGo]))
  | cons y t ih =>
    intro pre out x h ho
    have e0 := ih (pre ++ [x]) out y (by simpa using h) (by simp; omega)
    have e1 := ih (pre ++ [x]) (out ++ [y]) y (by simpa using h) (by simp; omega)
    simp only [List.length_append, List.length_cons] at h
    rw [List.append_assoc, List.singleton_append, length_snoc] at e0 e1
    have b1 := pitchM_bound l u x
    have b2 := pitchM_bound l v x
    have b3 := pitchM_bound l u y
    have b4 := pitchM_bound l v y
    have w1 : Aside0 (wrap64 (((pre.length + 1 : Nat) : Int) - 1) = (pre.length : Int)) := ⟨by rw [wrap_pred (by omega) (by omega)]; simp⟩
    have w2 : Aside0 (wrap64 (((pre.length + 1 : Nat) : Int) + 1) = ((pre.length + 1 + 1 : Nat) : Int)) := ⟨wrap_succ (by omega)⟩
    refine ev_tail ?_
    simp only [impl_ParallelsIn.l0]
    rw [w1.out, w2.out, rd_mid, rd_mid1]
    refine ev_pos (by simp; omega) (ev_pos (by omega) (ev_pos (by simp; omega) ?_))
    refine Ev.bind (implPitchAt_ev l u x hl) (Ev.bind (implPitchAt_ev l v x hl) (ev_pos (by omega) ?_))
    refine Ev.bind (implPitchAt_ev l u y hl) (Ev.bind (implPitchAt_ev l v y hl) (ev_val (isParallel_eq b1 b2 b3 b4) ?_))
    simp only [parGo]
    refine ev_ite (fun c => ?_) (fun c => ?_)
    · rw [if_pos c, ← List.append_assoc]
      exact ev_pos (by omega) e1
    · rw [if_neg c, List.nil_append]
      exact e0
theorem implParallels_ev (l : List S85) (u v : Int) (hl : l.length ≤ 1048576) : Ev (fun k => impl_ParallelsIn.f k l u v) (paraM l u v) := by
  simp only [impl_ParallelsIn.f]
  have h := (onsetsM_facts l u v).1
  refine Ev.bind (implOnsets_ev l u v hl) ?_
  unfold paraM
  split
  · rename_i e
    rw [e]
    refine ev_tail ?_
    simp only [impl_ParallelsIn.l0]
    exact ev_neg (by simp) (Ev.now _)
  · rename_i x t e
    rw [e] at h ⊢
    exact implPar_l0 l u v hl t [] [] x (by simp only [List.nil_append]; omega) (by simp)
def crossB (l : List S85) (u v t : Int) : Bool := decide (0 < pitchM l u t ∧ 0 < pitchM l v t ∧ pitchM l u t < pitchM l v t)
def crossM (l : List S85) (u v : Int) : List Int := (onsetsM l u v).filter (crossB l u v)
theorem crossM_length (l : List S85) (u v : Int) : (crossM l u v).length ≤ l.length := Nat.le_trans (List.length_filter_le _ _) (onsetsM_facts l u v).1
theorem implCross_l0 (l : List S85) (u v : Int) (hl : l.length ≤ 1048576) (suf : List Int) : ∀ (pre out : List Int), (pre ++ suf).length ≤ 1048576 → out.length ≤ pre.length → Ev (fun k => impl_CrossingsIn.l0 k l u v out (pre ++ suf) ((pre ++ suf).length : Int) (pre.length : Int)) (out ++ suf.filter (crossB l u v)) := by
  induction suf with
  | nil =>
    intro pre out h ho
    refine ev_tail ?_
    simp only [impl_CrossingsIn.l0]
    exact ev_neg (by simp) (ev_eq (Ev.now _) (by simp))
  | cons x t ih =>
    intro pre out h ho
    have e0 := ih (pre ++ [x]) out (by simpa using h) (by simp; omega)
    have e1 := ih (pre ++ [x]) (out ++ [x]) (by simpa using h) (by simp; omega)
    rw [List.append_assoc, List.singleton_append, length_snoc] at e0 e1
    have hn : ((pre ++ x :: t).length : Int) = (pre.length : Int) + t.length + 1 := by simp only [List.length_append, List.length_cons]; omega
    generalize hg : ((pre ++ x :: t).length : Int) = n at e0 e1 hn ⊢
    simp only [List.length_append, List.length_cons] at h
    refine ev_tail ?_
    simp only [impl_CrossingsIn.l0]
    refine ev_pos (by omega) (ev_pos (by omega) (ev_pos (by simp; omega) ?_))
    rw [rd_mid, wrap_succ (by omega)]
    refine Ev.bind (implPitchAt_ev l u x hl) (Ev.bind (implPitchAt_ev l v x hl) ?_)
    have skip : crossB l u v x = false → Ev (fun k => impl_CrossingsIn.l0 k l u v out (pre ++ x :: t) n ((pre.length + 1 : Nat) : Int)) (out ++ (x :: t).filter (crossB l u v)) := fun hb => by
      refine ev_eq e0 ?_
      rw [List.filter_cons, hb]; rfl
    have app : crossB l u v x = true → Ev (fun k => impl_CrossingsIn.l0 k l u v (out ++ [x]) (pre ++ x :: t) n ((pre.length + 1 : Nat) : Int)) (out ++ (x :: t).filter (crossB l u v)) := fun hb => by
      refine ev_eq e1 ?_
      rw [List.filter_cons, hb, if_pos rfl, List.append_assoc, List.singleton_append]
    refine ev_ite (fun c1 => ev_ite (fun c2 => ev_ite (fun c3 => ?_) (fun c3 => ?_)) (fun c2 => ?_)) (fun c1 => ?_)
    · exact ev_pos (by omega) (app (decide_eq_true ⟨c1, c2, c3⟩))
    · exact skip (decide_eq_false (fun z => c3 z.2.2))
    · exact skip (decide_eq_false (fun z => c2 z.2.1))
    · exact skip (decide_eq_false (fun z => c1 z.1))
theorem implCrossings_ev (l : List S85) (u v : Int) (hl : l.length ≤ 1048576) : Ev (fun k => impl_CrossingsIn.f k l u v) (crossM l u v) := by
  simp only [impl_CrossingsIn.f]
  have := (onsetsM_facts l u v).1
  refine Ev.bind (implOnsets_ev l u v hl) ?_
  exact implCross_l0 l u v hl (onsetsM l u v) [] [] (by rw [List.nil_append]; omega) (by simp)

/-- The events of one voice, in order. -/
def voiceM (l : List S85) (u : Int) : List S85 := l.filter fun e => !(e.f3 != u)
theorem voiceM_length (l : List S85) (u : Int) : (voiceM l u).length ≤ l.length := List.length_filter_le _ _
theorem implVoiceOf_eq (l : List S85) (u : Int) (h : l.length ≤ 1048576) : impl_VoiceOf.f l u = some (voiceM l u) := by
  unfold impl_VoiceOf.f
  rw [if_pos (by omega)]
  rfl
theorem score_mem {l : List S85} (h : scoreM l = true) {e : S85} (he : e ∈ l) : evOK e = true := by
  obtain ⟨i, hi, rfl⟩ := List.getElem_of_mem he
  have := score_at h i hi
  have hr : rd_T85 l (i : Int) = l[i] := by simp [rd_T85, List.getD, List.getElem?_eq_getElem hi]
  rwa [hr] at this
theorem voice_at {l : List S85} (h : scoreM l = true) (u : Int) (i : Int) (h0 : 0 ≤ i) (hi : i < ((voiceM l u).length : Int)) : evOK (rd_T85 (voiceM l u) i) = true := by
  have hi' : i.toNat < (voiceM l u).length := by omega
  have hr : rd_T85 (voiceM l u) i = (voiceM l u)[i.toNat] := by simp [rd_T85, List.getD, List.getElem?_eq_getElem hi']
  rw [hr]
  exact score_mem h (List.mem_filter.1 (List.getElem_mem hi')).1

def leapSt (v : List S85) (m : Int) (i : Int) (out : List Int) : List Int := if ((((rd_T85 v i).f2 - (rd_T85 v (i - 1)).f2).natAbs : Nat) : Int) > m then out ++ [(rd_T85 v i).f0] else out
def leapsM (l : List S85) (u m : Int) : List Int := if scoreM l = true then foldM (leapSt (voiceM l u) m) ((voiceM l u).length - 1) 1 [] else []
theorem leap_length (v : List S85) (m : Int) (d : Nat) : ∀ (i : Nat) (out : List Int), (foldM (leapSt v m) d i out).length ≤ out.length + d := by
  induction d with
  | zero => intro i out; exact Nat.le_refl _
  | succ d ih =>
    intro i out
    have h := ih (i + 1) (leapSt v m (i : Int) out)
    have h2 : (leapSt v m (i : Int) out).length ≤ out.length + 1 := by
      unfold leapSt
      split
      · simp
      · omega
    simp only [foldM]
    omega
theorem leapsM_length (l : List S85) (u m : Int) : (leapsM l u m).length ≤ l.length := by
  unfold leapsM
  split
  · have h1 := leap_length (voiceM l u) m ((voiceM l u).length - 1) 1 []
    have h2 := voiceM_length l u
    have h3 : ([] : List Int).length = 0 := rfl
    omega
  · simp
theorem leap_inv (v : List S85) (m : Int) (i : Nat) (out : List Int) (ho : out.length ≤ i) : (leapSt v m (i : Int) out).length ≤ i + 1 := by
  unfold leapSt
  split
  · simp; omega
  · omega
theorem mx_abs (a : Int) (h1 : -1000 ≤ a) (h2 : a ≤ 1000) : mx (wrap64 a) (wrap64 (-(wrap64 a))) = ((a.natAbs : Nat) : Int) := by
  rw [wrap_id (n := a) (by omega) (by omega), wrap_id (n := -a) (by omega) (by omega)]
  unfold mx
  split <;> omega
theorem implLeaps_ev (l : List S85) (u m : Int) (h : l.length ≤ 1048576) : Ev (fun k => impl_LeapsIn.f k l u m) (leapsM l u m) := by
  simp only [impl_LeapsIn.f, leapsM, Option.bind_some]
  have hs := implIsScore_ev l h
  have hvl := voiceM_length l u
  refine Ev.bind hs (ev_ite (fun hsc => ?_) (fun hsc => ?_))
  · rw [if_pos hsc]
    refine ev_val (implVoiceOf_eq l u h) ?_
    by_cases h0 : (voiceM l u).length = 0
    · rw [show (voiceM l u).length - 1 = 0 by omega]
      refine ev_tail ?_
      simp only [impl_LeapsIn.l0]
      exact ev_neg (by omega) (Ev.now _)
    · refine ev_fold (L := fun k out i => impl_LeapsIn.l0 k m out (voiceM l u) i) (st := leapSt (voiceM l u) m) (fin := id) (n := (voiceM l u).length) (s0 := 1) (fun i out => out.length ≤ i) (fun i out _ _ ho => leap_inv _ _ _ _ ho) (fun i out hi0 hi ho r e => ?_) (fun p _ => ?_) ((voiceM l u).length - 1) 1 [] (by omega) (by omega) (by simp)
      · have b1 := voice_at hsc u (i : Int) (by omega) (by omega)
        have b2 := voice_at hsc u ((i : Int) - 1) (by omega) (by omega)
        simp only [evOK, decide_eq_true_eq] at b1 b2
        have w1 : Aside0 (wrap64 ((i : Int) + 1) = (i : Int) + 1) := ⟨wrap_id (by omega) (by omega)⟩
        have w2 : Aside0 (wrap64 ((i : Int) - 1) = (i : Int) - 1) := ⟨wrap_id (by omega) (by omega)⟩
        refine ev_tail ?_
        simp only [impl_LeapsIn.l0, w1.out, w2.out]
        rw [mx_abs _ (by omega) (by omega)]
        refine ev_pos (by omega) (ev_pos (by omega) (ev_pos (by omega) (ev_pos (by omega) ?_)))
        unfold leapSt at e
        refine ev_ite (fun c => ev_pos (by omega) ?_) (fun c => ?_)
        · rw [if_pos c] at e; exact e
        · rw [if_neg c] at e; exact e
      · refine ev_tail ?_
        simp only [impl_LeapsIn.l0]
        exact ev_neg (by omega) (Ev.now _)
  · rw [if_neg hsc]; exact Ev.now _

def fk (m : Int) (t : Int) : S91 := ⟨m, t⟩
def faultsM (l : List S85) (u v : Int) : List S91 := ((paraM l u v).map (fk 1) ++ (crossM l u v).map (fk 2)) ++ (leapsM l u 12).map (fk 3)
theorem implFl_l1 (m i : Int) (g : List (List Int)) (n j : Int) (r : List S91) (hm : wrap64 (m + 1) = m + 1) (suf : List Int) : ∀ (pre : List Int) (out : List S91), (pre ++ suf).length ≤ 1048576 → out.length ≤ 4194304 + pre.length → Ev (fun k => impl_FaultsIn.l0 k (out ++ suf.map (fk (m + 1))) g n (wrap64 (j + 1))) r → Ev (fun k => impl_FaultsIn.l1 k out m g n j (pre ++ suf) ((pre ++ suf).length : Int) (pre.length : Int)) r := by
  induction suf with
  | nil =>
    intro pre out h ho e
    refine ev_tail ?_
    simp only [impl_FaultsIn.l1]
    exact ev_neg (by simp) (by simpa using e)
  | cons x t ih =>
    intro pre out h ho e
    have e := ih (pre ++ [x]) (out ++ [fk (m + 1) x]) (by simpa using h) (by simp; omega) (by simpa [List.append_assoc] using e)
    rw [List.append_assoc, List.singleton_append, length_snoc] at e
    have hn : ((pre ++ x :: t).length : Int) = (pre.length : Int) + t.length + 1 := by simp only [List.length_append, List.length_cons]; omega
    generalize hg : ((pre ++ x :: t).length : Int) = q at e hn ⊢
    simp only [List.length_append, List.length_cons] at h
    refine ev_tail ?_
    simp only [impl_FaultsIn.l1]
    refine ev_pos (by omega) (ev_pos (by omega) (ev_pos (by simp; omega) (ev_pos (by omega) ?_)))
    rw [rd_mid, wrap_succ (by omega), hm]
    exact e
theorem implFl_l0 (g : List (List Int)) (i : Int) (out : List S91) (xs : List Int) (r : List S91) (h0 : 0 ≤ i) (h1 : i < (g.length : Int)) (hb : i < 1000) (hr : rd_L3 g i = xs) (hx : xs.length ≤ 1048576) (ho : out.length ≤ 4194304) (e : Ev (fun k => impl_FaultsIn.l0 k (out ++ xs.map (fk (i + 1))) g (g.length : Int) (i + 1)) r) : Ev (fun k => impl_FaultsIn.l0 k out g (g.length : Int) i) r := by
  refine ev_tail ?_
  simp only [impl_FaultsIn.l0]
  refine ev_pos h1 (ev_pos h0 (ev_pos h1 ?_))
  rw [hr]
  exact implFl_l1 i i g (g.length : Int) i r (wrap_id (by omega) (by omega)) xs [] out (by simpa using hx) (by simpa using ho) (by rw [wrap_id (n := i + 1) (by omega) (by omega)]; exact e)
theorem implFaults_ev (l : List S85) (u v : Int) (hl : l.length ≤ 1048576) : Ev (fun k => impl_FaultsIn.f k l u v) (faultsM l u v) := by
  have h1 := paraM_length l u v
  have h2 := crossM_length l u v
  have h3 := leapsM_length l u 12
  simp only [impl_FaultsIn.f]
  refine Ev.bind (implParallels_ev l u v hl) (Ev.bind (implCrossings_ev l u v hl) (Ev.bind (implLeaps_ev l u 12 hl) (ev_val rfl ?_)))
  refine implFl_l0 _ 0 _ (paraM l u v) _ (by omega) (by simp) (by omega) rfl (by omega) (by simp) ?_
  refine implFl_l0 _ (0 + 1) _ (crossM l u v) _ (by omega) (by simp) (by omega) rfl (by omega) (by simp only [List.length_append, List.length_map, List.length_nil]; omega) ?_
  refine implFl_l0 _ (0 + 1 + 1) _ (leapsM l u 12) _ (by omega) (by simp) (by omega) rfl (by omega) (by simp only [List.length_append, List.length_map, List.length_nil]; omega) ?_
  refine ev_tail ?_
  simp only [impl_FaultsIn.l0]
  exact ev_neg (by simp) (ev_eq (Ev.now _) (by unfold faultsM; simp))

/-! ### draws -/
/-- Where a reader of draws stands: inside its bytes. -/
def Rd (b : List Int) (i : Int) : Prop := 0 ≤ i ∧ i ≤ (b.length : Int) ∧ b.length ≤ 1048576
theorem and255 (x : Int) : 0 ≤ Go.bits .and .i64 x 255 ∧ Go.bits .and .i64 x 255 ≤ 255 := by
  have h : (BitVec.ofInt IntKind.i64.bits x &&& BitVec.ofInt IntKind.i64.bits 255).toNat ≤ 255 := by
    rw [BitVec.toNat_and]; exact Nat.le_trans Nat.and_le_right (by decide)
  show 0 ≤ IntKind.i64.wrap ((BitVec.ofInt IntKind.i64.bits x &&& BitVec.ofInt IntKind.i64.bits 255).toNat : Int) ∧ IntKind.i64.wrap ((BitVec.ofInt IntKind.i64.bits x &&& BitVec.ofInt IntKind.i64.bits 255).toNat : Int) ≤ 255
  generalize (BitVec.ofInt IntKind.i64.bits x &&& BitVec.ofInt IntKind.i64.bits 255).toNat = n at h ⊢
  simp only [i64_w]
  rw [wrap_id (by omega) (by omega)]
  omega
theorem new_l0 (b : List Int) (hb : b.length ≤ 1048576) (d : Nat) : ∀ (i : Nat) (h : Int), i + d = b.length → ∃ h', Ev (fun k => spec_l1New.l0 k b h (i : Int)) (b, 0, h') := by
  induction d with
  | zero =>
    intro i h hi
    refine ⟨h, ev_tail ?_⟩
    simp only [spec_l1New.l0]
    exact ev_neg (by omega) (Ev.now _)
  | succ d ih =>
    intro i h hi
    by_cases h4 : (i : Int) < 4000
    · obtain ⟨h', e⟩ := ih (i + 1) (Go.bits .and .i64 (wrap64 ((wrap64 ((wrap64 (h * 137)) + (wrap64 (rd b (i : Int))))) + 11)) 1073741823) (by omega)
      refine ⟨h', ev_tail ?_⟩
      simp only [spec_l1New.l0]
      refine ev_pos (by omega) (ev_pos h4 (ev_pos (by omega) ?_))
      rw [wrap_succ (by omega)]
      exact e
    · refine ⟨h, ev_tail ?_⟩
      simp only [spec_l1New.l0]
      exact ev_pos (by omega) (ev_neg h4 (Ev.now _))
theorem new_ok (b : List Int) (hb : b.length ≤ 1048576) : ∃ h', Ev (fun k => spec_l1New.f k b) (b, 0, h') := by
  obtain ⟨h', e⟩ := new_l0 b hb b.length 0 (wrap64 (193017 + (b.length : Int))) (by omega)
  exact ⟨h', by simp only [spec_l1New.f]; exact e⟩
theorem Rd.zero {b : List Int} (hb : b.length ≤ 1048576) : Rd b 0 := ⟨by omega, by omega, hb⟩
theorem byte_ok {b : List Int} {i : Int} (h : Rd b i) (s : Int) : ∃ x i' s', spec_l1Byte.f b i s = some (x, i', s') ∧ (0 ≤ x ∧ x ≤ 255) ∧ Rd b i' := by
  obtain ⟨h1, h2, h3⟩ := h
  unfold spec_l1Byte.f
  by_cases c : i < (b.length : Int)
  · rw [if_pos c, if_pos h1]
    exact ⟨_, _, _, rfl, and255 _, by rw [wrap_id (by omega) (by omega)]; exact ⟨by omega, by omega, h3⟩⟩
  · rw [if_neg c]
    exact ⟨_, _, _, rfl, and255 _, h1, h2, h3⟩
theorem below_ok {b : List Int} {i : Int} (h : Rd b i) (s n : Int) : ∃ x i' s', spec_l1Below.f b i s n = some (x, i', s') ∧ (0 ≤ x ∧ (0 < n → x < n) ∧ (n ≤ 0 → x = 0)) ∧ Rd b i' := by
  unfold spec_l1Below.f
  by_cases c0 : n ≤ 0
  · rw [if_pos c0]
    exact ⟨_, _, _, rfl, ⟨by omega, fun z => by omega, fun _ => rfl⟩, h⟩
  · rw [if_neg c0]
    by_cases c1 : n ≤ 256
    · rw [if_pos c1]
      obtain ⟨x, i', s', e, hx, h'⟩ := byte_ok h s
      rw [e]
      simp only [Option.bind_some]
      rw [if_neg (by omega)]
      exact ⟨_, _, _, rfl, ⟨Int.tmod_nonneg _ hx.1, fun _ => Int.tmod_lt_of_pos _ (by omega), fun z => absurd z c0⟩, h'⟩
    · rw [if_neg c1]
      obtain ⟨x, i1, s1, e1, hx, h1⟩ := byte_ok h s
      obtain ⟨y, i2, s2, e2, hy, h2⟩ := byte_ok h1 s1
      obtain ⟨z, i3, s3, e3, hz, h3⟩ := byte_ok h2 s2
      rw [e1]
      simp only [Option.bind_some, e2, e3]
      rw [if_neg (by omega)]
      refine ⟨_, _, _, rfl, ⟨Int.tmod_nonneg _ ?_, fun _ => Int.tmod_lt_of_pos _ (by omega), fun z => absurd z c0⟩, h3⟩
      rw [wrap_id (n := x * 65536) (by omega) (by omega), wrap_id (n := y * 256) (by omega) (by omega), wrap_id (n := x * 65536 + y * 256) (by omega) (by omega), wrap_id (by omega) (by omega)]
      omega

theorem int_ok {b : List Int} {i : Int} (h : Rd b i) (s : Int) (l : List Int) (hl : 0 < l.length) : ∃ v i' s', spec_l1Int.f b i s l = some (v, i', s') ∧ v ∈ l ∧ Rd b i' := by
  obtain ⟨x, i', s', e, ⟨h0, h1, _⟩, h'⟩ := below_ok h s (l.length : Int)
  have h1 := h1 (by omega)
  unfold spec_l1Int.f
  rw [e]
  simp only [Option.bind_some]
  rw [if_pos h0, if_pos h1]
  refine ⟨_, _, _, rfl, ?_, h'⟩
  have hx : x.toNat < l.length := by omega
  have : rd l x = l[x.toNat] := by simp [rd, List.getD, hx]
  rw [this]
  exact List.getElem_mem hx

theorem once_ok {b : List Int} {i : Int} (h : Rd b i) (s n : Int) : ∃ c i' s', spec_l1Once.f b i s n = some (c, i', s') ∧ Rd b i' := by
  obtain ⟨x, i', s', e, _, h'⟩ := below_ok h s n
  unfold spec_l1Once.f
  rw [e]
  exact ⟨_, _, _, rfl, h'⟩

/-! ### an event put into a list -/
def insEv : List S85 → S85 → List S85
  | [], e => [e]
  | x :: t, e => if evLt x e = true then x :: insEv t e else e :: x :: t
theorem insEv_length (l : List S85) (e : S85) : (insEv l e).length = l.length + 1 := by
  induction l with
  | nil => rfl
  | cons x t ih =>
    simp only [insEv]
    split
    · simp [ih]
    · simp
theorem put_l0 (e : S85) (suf : List S85) : ∀ pre : List S85, (pre ++ suf).length ≤ 1048576 → Ev (fun k => spec_l8Put.l0 k (pre ++ suf) (pre.length : Int) e.f0 e.f1 e.f2 e.f3) (pre ++ insEv suf e) := by
  induction suf with
  | nil =>
    intro pre h
    refine ev_tail ?_
    simp only [spec_l8Put.l0, Option.bind_some, List.append_nil, Int.toNat_natCast, List.nil_append, List.length_nil, List.length_append, List.length_cons, List.length_drop, List.length_take]
    simp only [List.append_nil] at h
    refine ev_neg (by omega) (ev_pos (by omega) (ev_pos (by omega) (ev_pos (by omega) (ev_pos (by omega) (ev_pos (by omega) ?_)))))
    exact ev_eq (Ev.now _) (by simp [insEv])
  | cons x t ih =>
    intro pre h
    have hlen : pre.length + (t.length + 1) ≤ 1048576 := by simpa using h
    have hr : rd_T85 (pre ++ x :: t) ((pre.length : Nat) : Int) = x := getD_mid pre x t _
    refine ev_tail ?_
    simp only [spec_l8Put.l0, hr, l8Before_eq, Option.bind_some, List.nil_append]
    refine ev_pos (by simp; omega) (ev_pos (by omega) (ev_ite (fun hlt => ?_) (fun hlt => ?_)))
    · have e1 := ih (pre ++ [x]) (by simpa using h)
      rw [wrap_succ (by omega), snoc_cons pre x t, ← length_snoc pre x]
      exact ev_eq e1 (by simp [insEv, hlt])
    · simp only [Int.toNat_natCast, List.length_nil, List.length_append, List.length_cons, List.length_drop, List.length_take]
      refine ev_pos (by omega) (ev_pos (by omega) (ev_pos (by omega) (ev_pos (by omega) ?_)))
      exact ev_eq (Ev.now _) (by simp only [insEv]; rw [if_neg hlt]; simp)
def putEv (l : List S85) (e : S85) : List S85 × Bool := if scoreM (insEv l e) = true then (insEv l e, true) else (l, false)
theorem putEv_length (l : List S85) (e : S85) : (putEv l e).1.length ≤ l.length + 1 := by
  have := insEv_length l e
  unfold putEv
  split
  · show (insEv l e).length ≤ _; omega
  · show l.length ≤ _; omega
theorem putEvent_ev (l : List S85) (e : S85) (h : l.length ≤ 1000000) : Ev (fun k => spec_PutEvent.f k l e.f0 e.f1 e.f2 e.f3) (putEv l e) := by
  have hl := insEv_length l e
  simp only [spec_PutEvent.f, spec_l8Put.f, Option.bind_some, List.nil_append, List.length_nil, putEv]
  refine Ev.bind (put_l0 e l [] (by simp; omega)) (Ev.bind (specIsScore_ev _ (by simp; omega)) (ev_ite (fun hs => ?_) (fun hs => ev_pos (by omega) ?_)))
  · simp only [List.nil_append] at hs ⊢
    rw [if_pos hs]; exact Ev.now _
  · simp only [List.nil_append] at hs ⊢
    rw [if_neg hs]; exact Ev.now _

theorem l8Tune_l0 (v : Int) (d : Nat) : ∀ (out : List S85) (at_ : Int) {b : List Int} {i : Int} (h : Rd b i) (s : Int), out.length + d ≤ 20 →
    ∃ l i' s', Ev (fun k => spec_l8Tune.l0 k v out at_ (d : Int) b i s) (l, i', s') ∧ l.length ≤ 20 ∧ Rd b i' := by
  induction d with
  | zero =>
    intro out at_ b i h s ho
    refine ⟨out, i, s, ev_tail ?_, by omega, h⟩
    simp only [spec_l8Tune.l0]
    exact ev_neg (by omega) (Ev.now _)
  | succ d ih =>
    intro out at_ b i h s ho
    obtain ⟨u, i1, s1, e1, _, h1⟩ := below_ok h s 3
    obtain ⟨p, i2, s2, e2, _, h2⟩ := below_ok h1 s1 8
    obtain ⟨c, i3, s3, e3, h3⟩ := once_ok h2 s2 5
    have ep := putEvent_ev out ⟨at_, wrap64 (6 * (wrap64 (1 + u))), wrap64 (60 + p), v⟩ (by omega)
    have hp := putEv_length out ⟨at_, wrap64 (6 * (wrap64 (1 + u))), wrap64 (60 + p), v⟩
    generalize hq : putEv out ⟨at_, wrap64 (6 * (wrap64 (1 + u))), wrap64 (60 + p), v⟩ = q at ep hp
    have wd : wrap64 (((d + 1 : Nat) : Int) - 1) = (d : Int) := by rw [wrap_id (by omega) (by omega)]; omega
    cases c with
    | true =>
      obtain ⟨l, i4, s4, e4, hl, h4⟩ := ih q.1 (wrap64 ((wrap64 (at_ + (wrap64 (6 * (wrap64 (1 + u)))))) + 12)) h3 s3 (by omega)
      refine ⟨l, i4, s4, ev_tail ?_, hl, h4⟩
      simp only [spec_l8Tune.l0, e1, e2, e3, Option.bind_some, wd]
      exact ev_pos (by omega) (ev_pos (by trivial) (Ev.bind ep e4))
    | false =>
      obtain ⟨l, i4, s4, e4, hl, h4⟩ := ih q.1 (wrap64 (at_ + (wrap64 (6 * (wrap64 (1 + u)))))) h3 s3 (by omega)
      refine ⟨l, i4, s4, ev_tail ?_, hl, h4⟩
      simp only [spec_l8Tune.l0, e1, e2, e3, Option.bind_some, wd]
      exact ev_pos (by omega) (ev_neg (by simp) (Ev.bind ep e4))
theorem l8Tune_ok {b : List Int} {i : Int} (h : Rd b i) (s v n : Int) (h0 : 0 < n) (hn : n ≤ 20) : ∃ l i' s', Ev (fun k => spec_l8Tune.f k b i s v n) (l, i', s') ∧ l.length ≤ 20 ∧ Rd b i' := by
  obtain ⟨x, i1, s1, e1, ⟨x0, x1, _⟩, h1⟩ := below_ok h s n
  have x1 := x1 h0
  obtain ⟨l, i2, s2, e2, hl, h2⟩ := l8Tune_l0 v x.toNat [] 0 h1 s1 (by simp; omega)
  rw [show ((x.toNat : Nat) : Int) = x by omega] at e2
  refine ⟨l, i2, s2, ?_, hl, h2⟩
  simp only [spec_l8Tune.f, e1, Option.bind_some]
  exact e2
theorem l13Score_l0 {b : List Int} {i : Int} (h : Rd b i) (s : Int) (suf : List S85) : ∀ (pre out : List S85), (pre ++ suf).length ≤ 20 → out.length ≤ 20 + pre.length →
    ∃ l, Ev (fun k => spec_l13Score.l0 k out (pre ++ suf) (pre.length : Int) b i s) (l, i, s) ∧ l.length ≤ 40 := by
  induction suf with
  | nil =>
    intro pre out hl ho
    simp only [List.append_nil] at hl ⊢
    refine ⟨out, ev_tail ?_, by omega⟩
    simp only [spec_l13Score.l0]
    exact ev_neg (by omega) (Ev.now _)
  | cons x t ih =>
    intro pre out hl ho
    have ep := putEvent_ev out x (by simp at hl; omega)
    have hp := putEv_length out x
    generalize hq : putEv out x = q at ep hp
    obtain ⟨l, e, h4⟩ := ih (pre ++ [x]) q.1 (by simpa using hl) (by simp; omega)
    refine ⟨l, ev_tail ?_, h4⟩
    have hr : rd_T85 (pre ++ x :: t) ((pre.length : Nat) : Int) = x := getD_mid pre x t _
    simp only [spec_l13Score.l0, hr]
    simp only [List.length_append, List.length_cons] at hl
    refine ev_pos (by simp; omega) (ev_pos (by omega) (Ev.bind ep ?_))
    rw [wrap_succ (by omega), snoc_cons pre x t, ← length_snoc pre x]
    exact e
theorem l13Score_ok {b : List Int} {i : Int} (h : Rd b i) (s : Int) : ∃ l i' s', Ev (fun k => spec_l13Score.f k b i s) (l, i', s') ∧ l.length ≤ 40 ∧ Rd b i' := by
  obtain ⟨u, i1, s1, e1, hu, h1⟩ := l8Tune_ok h s 1 9 (by omega) (by omega)
  obtain ⟨v, i2, s2, e2, hv, h2⟩ := l8Tune_ok h1 s1 2 9 (by omega) (by omega)
  obtain ⟨l, e3, hl⟩ := l13Score_l0 h2 s2 v [] u (by simpa using hv) (by simpa using hu)
  refine ⟨l, i2, s2, ?_, hl, h2⟩
  simp only [spec_l13Score.f]
  exact Ev.bind e1 (Ev.bind e2 e3)
theorem l21Score_l0 (d : Nat) : ∀ (out : List S85) (p j : Int) {b : List Int} {i : Int} (h : Rd b i) (s : Int), 0 ≤ j → j + d = 8 → out.length + 2 * d ≤ 40 →
    ∃ l i' s', Ev (fun k => spec_l21Score.l0 k out p j b i s) (l, i', s') ∧ l.length ≤ 40 ∧ Rd b i' := by
  induction d with
  | zero =>
    intro out p j b i h s hj hd ho
    obtain ⟨r, i1, s1, e1, ⟨r0, r1, _⟩, h1⟩ := below_ok h s 7
    have r1 := r1 (by omega)
    obtain ⟨c, i2, s2, e2, h2⟩ := once_ok h1 s1 3
    cases c with
    | true =>
      obtain ⟨l, i3, s3, e3, hl, h3⟩ := l13Score_ok h2 s2
      refine ⟨l, i3, s3, ev_tail ?_, hl, h3⟩
      simp only [spec_l21Score.l0, e1, e2, Option.bind_some]
      exact ev_neg (by rw [wrap_id (by omega) (by omega)]; omega) (ev_pos (by trivial) (Ev.bind e3 (Ev.now _)))
    | false =>
      refine ⟨out, i2, s2, ev_tail ?_, by omega, h2⟩
      simp only [spec_l21Score.l0, e1, e2, Option.bind_some]
      exact ev_neg (by rw [wrap_id (by omega) (by omega)]; omega) (ev_neg (by simp) (Ev.now _))
  | succ d ih =>
    intro out p j b i h s hj hd ho
    obtain ⟨r, i1, s1, e1, ⟨r0, r1, _⟩, h1⟩ := below_ok h s 7
    have r1 := r1 (by omega)
    by_cases hc : j < wrap64 (1 + r)
    · obtain ⟨u, i2, s2, e2, _, h2⟩ := below_ok h1 s1 5
      obtain ⟨v, i3, s3, e3, _, h3⟩ := int_ok h2 s2 [7, 7, 12, 4, 3, -2, 19] (by decide)
      have ep := putEvent_ev out ⟨wrap64 (12 * j), 12, wrap64 ((wrap64 (p + u)) - 2), 1⟩ (by omega)
      have hp := putEv_length out ⟨wrap64 (12 * j), 12, wrap64 ((wrap64 (p + u)) - 2), 1⟩
      generalize putEv out ⟨wrap64 (12 * j), 12, wrap64 ((wrap64 (p + u)) - 2), 1⟩ = q at ep hp
      have eq_ := putEvent_ev q.1 ⟨wrap64 (12 * j), 12, wrap64 ((wrap64 ((wrap64 (p + u)) - 2)) - v), 2⟩ (by omega)
      have hq := putEv_length q.1 ⟨wrap64 (12 * j), 12, wrap64 ((wrap64 ((wrap64 (p + u)) - 2)) - v), 2⟩
      generalize putEv q.1 ⟨wrap64 (12 * j), 12, wrap64 ((wrap64 ((wrap64 (p + u)) - 2)) - v), 2⟩ = q2 at eq_ hq
      obtain ⟨l, i4, s4, e4, hl, h4⟩ := ih q2.1 (wrap64 ((wrap64 (p + u)) - 2)) (j + 1) h3 s3 (by omega) (by omega) (by omega)
      refine ⟨l, i4, s4, ev_tail ?_, hl, h4⟩
      simp only [spec_l21Score.l0, e1, Option.bind_some]
      refine ev_pos hc ?_
      simp only [e2, e3, Option.bind_some]
      refine Ev.bind ep (Ev.bind eq_ ?_)
      rw [wrap_id (n := j + 1) (by omega) (by omega)]
      exact e4
    · obtain ⟨c, i2, s2, e2, h2⟩ := once_ok h1 s1 3
      cases c with
      | true =>
        obtain ⟨l, i3, s3, e3, hl, h3⟩ := l13Score_ok h2 s2
        refine ⟨l, i3, s3, ev_tail ?_, hl, h3⟩
        simp only [spec_l21Score.l0, e1, e2, Option.bind_some]
        exact ev_neg hc (ev_pos (by trivial) (Ev.bind e3 (Ev.now _)))
      | false =>
        refine ⟨out, i2, s2, ev_tail ?_, by omega, h2⟩
        simp only [spec_l21Score.l0, e1, e2, Option.bind_some]
        exact ev_neg hc (ev_neg (by simp) (Ev.now _))
theorem l21Score_ok {b : List Int} {i : Int} (h : Rd b i) (s : Int) : ∃ l i' s', Ev (fun k => spec_l21Score.f k b i s) (l, i', s') ∧ l.length ≤ 40 ∧ Rd b i' := by
  simp only [spec_l21Score.f]
  exact l21Score_l0 8 [] 67 0 h s (by omega) (by omega) (by simp)
theorem l8Event_ok {b : List Int} {i : Int} (h : Rd b i) (s : Int) : ∃ x y z v i' s', spec_l8Event.f b i s = some (x, y, z, v, i', s') ∧ Rd b i' := by
  obtain ⟨x, i1, s1, e1, _, h1⟩ := below_ok h s 20
  obtain ⟨y, i2, s2, e2, _, h2⟩ := below_ok h1 s1 10
  obtain ⟨z, i3, s3, e3, _, h3⟩ := below_ok h2 s2 18
  obtain ⟨v, i4, s4, e4, _, h4⟩ := below_ok h3 s3 3
  unfold spec_l8Event.f
  simp only [e1, e2, e3, e4, Option.bind_some]
  exact ⟨_, _, _, _, _, _, rfl, h4⟩
theorem l8Draw_l0 (d : Nat) : ∀ (out : List S85) {b : List Int} {i : Int} (h : Rd b i) (s : Int), out.length + d ≤ 20 →
    ∃ l i' s', Ev (fun k => spec_l8Draw.l0 k out (d : Int) b i s) (l, i', s') ∧ l.length ≤ 20 ∧ Rd b i' := by
  induction d with
  | zero =>
    intro out b i h s ho
    refine ⟨out, i, s, ev_tail ?_, by omega, h⟩
    simp only [spec_l8Draw.l0]
    exact ev_neg (by omega) (Ev.now _)
  | succ d ih =>
    intro out b i h s ho
    obtain ⟨x, y, z, v, i1, s1, e1, h1⟩ := l8Event_ok h s
    have ep := putEvent_ev out ⟨x, y, z, v⟩ (by omega)
    have hp := putEv_length out ⟨x, y, z, v⟩
    generalize putEv out ⟨x, y, z, v⟩ = q at ep hp
    obtain ⟨l, i2, s2, e2, hl, h2⟩ := ih q.1 h1 s1 (by omega)
    refine ⟨l, i2, s2, ev_tail ?_, hl, h2⟩
    simp only [spec_l8Draw.l0, e1, Option.bind_some]
    refine ev_pos (by omega) (Ev.bind ep ?_)
    rw [show wrap64 (((d + 1 : Nat) : Int) - 1) = (d : Int) by rw [wrap_id (by omega) (by omega)]; omega]
    exact e2
theorem l8Draw_ok {b : List Int} {i : Int} (h : Rd b i) (s : Int) : ∃ l i' s', Ev (fun k => spec_l8Draw.f k b i s) (l, i', s') ∧ l.length ≤ 20 ∧ Rd b i' := by
  obtain ⟨n, i1, s1, e1, ⟨n0, n1, _⟩, h1⟩ := below_ok h s 13
  have n1 := n1 (by omega)
  obtain ⟨l, i2, s2, e2, hl, h2⟩ := l8Draw_l0 n.toNat [] h1 s1 (by simp; omega)
  rw [show ((n.toNat : Nat) : Int) = n by omega] at e2
  refine ⟨l, i2, s2, ?_, hl, h2⟩
  simp only [spec_l8Draw.f, e1, Option.bind_some]
  exact e2
theorem l8Any_ok {b : List Int} {i : Int} (h : Rd b i) (s : Int) : ∃ l i' s', Ev (fun k => spec_l8Any.f k b i s) (l, i', s') ∧ l.length ≤ 40 ∧ Rd b i' := by
  obtain ⟨l, i1, s1, e1, hl, h1⟩ := l8Draw_ok h s
  by_cases c0 : (l.length : Int) = 0
  · refine ⟨l, i1, s1, ?_, by omega, h1⟩
    simp only [spec_l8Any.f]
    exact Ev.bind e1 (ev_pos c0 (Ev.now _))
  obtain ⟨x, i2, s2, e2, ⟨x0, x1, _⟩, h2⟩ := below_ok h1 s1 (l.length : Int)
  have x1 := x1 (by omega)
  obtain ⟨y, i3, s3, e3, _, h3⟩ := below_ok h2 s2 9
  have hset : ∀ e, (l.set x.toNat e).length ≤ 40 := fun e => by rw [List.length_set]; omega
  by_cases c1 : y = 0
  · obtain ⟨v, i4, s4, e4, _, h4⟩ := int_ok h3 s3 [-1, 2000, 2001] (by decide)
    refine ⟨l.set x.toNat ⟨v, (rd_T85 l x).f1, (rd_T85 l x).f2, (rd_T85 l x).f3⟩, i4, s4, ?_, hset _, h4⟩
    simp only [spec_l8Any.f]
    refine Ev.bind e1 (ev_neg c0 ?_)
    simp only [e2, e3, Option.bind_some]
    refine ev_pos c1 ?_
    simp only [e4, Option.bind_some]
    exact ev_pos x0 (ev_pos x1 (Ev.now _))
  by_cases c2 : y = 1
  · obtain ⟨v, i4, s4, e4, _, h4⟩ := int_ok h3 s3 [0, 96, 97] (by decide)
    refine ⟨l.set x.toNat ⟨(rd_T85 l x).f0, v, (rd_T85 l x).f2, (rd_T85 l x).f3⟩, i4, s4, ?_, hset _, h4⟩
    simp only [spec_l8Any.f]
    refine Ev.bind e1 (ev_neg c0 ?_)
    simp only [e2, e3, Option.bind_some]
    refine ev_neg c1 (ev_pos c2 ?_)
    simp only [e4, Option.bind_some]
    exact ev_pos x0 (ev_pos x1 (Ev.now _))
  by_cases c3 : y = 2
  · obtain ⟨v, i4, s4, e4, _, h4⟩ := int_ok h3 s3 [20, 108, 109] (by decide)
    refine ⟨l.set x.toNat ⟨(rd_T85 l x).f0, (rd_T85 l x).f1, v, (rd_T85 l x).f3⟩, i4, s4, ?_, hset _, h4⟩
    simp only [spec_l8Any.f]
    refine Ev.bind e1 (ev_neg c0 ?_)
    simp only [e2, e3, Option.bind_some]
    refine ev_neg c1 (ev_neg c2 (ev_pos c3 ?_))
    simp only [e4, Option.bind_some]
    exact ev_pos x0 (ev_pos x1 (Ev.now _))
  by_cases c4 : y = 3
  · obtain ⟨v, i4, s4, e4, _, h4⟩ := int_ok h3 s3 [0, 4, 5] (by decide)
    refine ⟨l.set x.toNat ⟨(rd_T85 l x).f0, (rd_T85 l x).f1, (rd_T85 l x).f2, v⟩, i4, s4, ?_, hset _, h4⟩
    simp only [spec_l8Any.f]
    refine Ev.bind e1 (ev_neg c0 ?_)
    simp only [e2, e3, Option.bind_some]
    refine ev_neg c1 (ev_neg c2 (ev_neg c3 (ev_pos c4 ?_)))
    simp only [e4, Option.bind_some]
    exact ev_pos x0 (ev_pos x1 (Ev.now _))
  by_cases c5 : y = 4
  · refine ⟨l ++ [rd_T85 l 0], i3, s3, ?_, by simp; omega, h3⟩
    simp only [spec_l8Any.f]
    refine Ev.bind e1 (ev_neg c0 ?_)
    simp only [e2, e3, Option.bind_some]
    exact ev_neg c1 (ev_neg c2 (ev_neg c3 (ev_neg c4 (ev_pos c5 (ev_pos (by omega) (ev_pos (by omega) (Ev.now _)))))))
  · refine ⟨l, i3, s3, ?_, by omega, h3⟩
    simp only [spec_l8Any.f]
    refine Ev.bind e1 (ev_neg c0 ?_)
    simp only [e2, e3, Option.bind_some]
    exact ev_neg c1 (ev_neg c2 (ev_neg c3 (ev_neg c4 (ev_neg c5 (Ev.now _)))))
theorem drawOnsets_ok (b : List Int) (hb : b.length ≤ 1048576) : ∃ l p q, Ev (fun k => spec_DrawOnsetsOf.f k b) (l, p, q) ∧ l.length ≤ 40 := by
  obtain ⟨s0, e0⟩ := new_ok b hb
  obtain ⟨l, i1, s1, e1, hl, h1⟩ := l21Score_ok (Rd.zero hb) s0
  obtain ⟨c, i2, s2, e2, h2⟩ := once_ok h1 s1 6
  cases c with
  | true =>
    obtain ⟨l', i3, s3, e3, hl', h3⟩ := l8Any_ok h2 s2
    obtain ⟨x, i4, s4, e4, _, h4⟩ := below_ok h3 s3 3
    refine ⟨l', 1, wrap64 (1 + x), ?_, hl'⟩
    simp only [spec_DrawOnsetsOf.f]
    refine Ev.bind e0 (Ev.bind e1 ?_)
    simp only [e2, Option.bind_some]
    refine ev_pos (by trivial) (Ev.bind e3 ?_)
    simp only [e4, Option.bind_some]
    exact Ev.now _
  | false =>
    obtain ⟨x, i4, s4, e4, _, h4⟩ := below_ok h2 s2 3
    refine ⟨l, 1, wrap64 (1 + x), ?_, hl⟩
    simp only [spec_DrawOnsetsOf.f]
    refine Ev.bind e0 (Ev.bind e1 ?_)
    simp only [e2, e4, Option.bind_some]
    exact ev_neg (by simp) (Ev.now _)

theorem ascends_ev (l : List Int) (hl : l.length ≤ 1048576) (h : l.Pairwise (· < ·)) : Ev (fun k => laws_ascends.f k l) true := by
  simp only [laws_ascends.f]
  by_cases h0 : l.length = 0
  · refine ev_tail ?_
    simp only [laws_ascends.l0]
    exact ev_neg (by omega) (Ev.now _)
  · have e := ev_all_from (L := fun k i => laws_ascends.l0 k l i) (c := fun _ => true) (fin := true) (n := l.length) (s := 1) (fun i hi hn => ⟨fun _ r e => ?_, fun z => by cases z⟩) ?_ (l.length - 1) 1 (by omega) (by omega)
    · have q : ∀ d i, allF (fun _ => true) true d i = true := fun d => by
        induction d with
        | zero => intro i; rfl
        | succ d ih => intro i; simp only [allF, Bool.true_and]; exact ih _
      rw [q] at e
      exact e
    · have w1 : wrap64 ((i : Int) + 1) = (i : Int) + 1 := wrap_id (by omega) (by omega)
      have w2 : wrap64 ((i : Int) - 1) = ((i - 1 : Nat) : Int) := by rw [wrap_id (by omega) (by omega)]; omega
      refine ev_tail ?_
      simp only [laws_ascends.l0, w1, w2]
      refine ev_pos (by omega) (ev_pos (by omega) (ev_pos (by omega) (ev_pos (by omega) (ev_neg ?_ e))))
      have := List.pairwise_iff_getElem.1 h (i - 1) i (by omega) hn (by omega)
      rw [rd_nat, rd_nat, List.getD_eq_getElem?_getD, List.getD_eq_getElem?_getD, List.getElem?_eq_getElem hn, List.getElem?_eq_getElem (show i - 1 < l.length by omega)]
      simp only [Option.getD_some]
      omega
    · refine ev_tail ?_
      simp only [laws_ascends.l0]
      exact ev_neg (by omega) (Ev.now _)
theorem big_ev (l : List Int) : laws_big.f l = some (decide ((l.length : Int) > 1048576)) := rfl

theorem sameInts_l0 (suf : List Int) : ∀ pre : List Int, (pre ++ suf).length ≤ 1048576 → Ev (fun k => laws_sameInts.l0 k (pre ++ suf) (pre ++ suf) (pre.length : Int)) true := by
  induction suf with
  | nil =>
    intro pre h
    refine ev_tail ?_
    simp only [laws_sameInts.l0]
    exact ev_neg (by simp) (Ev.now _)
  | cons x t ih =>
    intro pre h
    have e := ih (pre ++ [x]) (by simpa using h)
    simp only [List.length_append, List.length_cons] at h
    refine ev_tail ?_
    simp only [laws_sameInts.l0]
    refine ev_pos (by simp; omega) (ev_pos (by omega) (ev_pos (by simp; omega) (ev_pos (by trivial) ?_)))
    rw [wrap_succ (by omega), snoc_cons pre x t, ← length_snoc pre x]
    exact e
theorem sameInts_ev (l : List Int) (h : l.length ≤ 1048576) : Ev (fun k => laws_sameInts.f k l l) true := by
  simp only [laws_sameInts.f]
  exact ev_pos (by trivial) (sameInts_l0 l [] (by simpa using h))

/-! ### the law's own parts -/
theorem contains_l0 (x : Int) (suf : List Int) : ∀ pre : List Int, (pre ++ suf).length ≤ 1048576 → x ∈ suf → Ev (fun k => laws_contains.l0 k (pre ++ suf) x (pre.length : Int)) true := by
  induction suf with
  | nil => intro pre h hx; cases hx
  | cons y t ih =>
    intro pre h hx
    refine ev_tail ?_
    simp only [laws_contains.l0, rd_mid]
    refine ev_pos (by simp; omega) (ev_pos (by omega) (ev_ite (fun _ => Ev.now _) (fun hne => ?_)))
    have e := ih (pre ++ [y]) (by simpa using h) (by
      rcases List.mem_cons.1 hx with h1 | h1
      · exact absurd h1.symm hne
      · exact h1)
    simp only [List.length_append, List.length_cons] at h
    rw [wrap_succ (by omega), snoc_cons pre y t, ← length_snoc pre y]
    exact e
theorem contains_ev (l : List Int) (h : l.length ≤ 1048576) {x : Int} (hx : x ∈ l) : Ev (fun k => laws_contains.f k l x) true := by
  simp only [laws_contains.f]
  exact contains_l0 x l [] (by simpa using h) hx
theorem within_l0 (l : List Int) (hl : l.length ≤ 1048576) (suf : List Int) : ∀ pre : List Int, (pre ++ suf).length ≤ 1048576 → (∀ x ∈ suf, x ∈ l) → Ev (fun k => laws_within.l0 k (pre ++ suf) l (pre.length : Int)) true := by
  induction suf with
  | nil =>
    intro pre h hx
    refine ev_tail ?_
    simp only [laws_within.l0]
    exact ev_neg (by simp) (Ev.now _)
  | cons y t ih =>
    intro pre h hx
    have e := ih (pre ++ [y]) (by simpa using h) (fun x hm => hx x (List.mem_cons_of_mem _ hm))
    refine ev_tail ?_
    simp only [laws_within.l0, rd_mid]
    refine ev_pos (by simp; omega) (ev_pos (by omega) (Ev.bind (contains_ev l hl (hx y (List.mem_cons_self ..))) (ev_pos rfl ?_)))
    simp only [List.length_append, List.length_cons] at h
    rw [wrap_succ (by omega), snoc_cons pre y t, ← length_snoc pre y]
    exact e
theorem within_ev (xs l : List Int) (h : xs.length ≤ 1048576) (hl : l.length ≤ 1048576) (hx : ∀ x ∈ xs, x ∈ l) : Ev (fun k => laws_within.f k xs l) true := by
  simp only [laws_within.f]
  exact within_l0 l hl xs [] (by simpa using h) hx
theorem dist_symm (a b : Int) : dist a b = dist b a := by
  unfold dist
  rw [show (a - b).natAbs = (b - a).natAbs by omega]
theorem parB_symm (a b c d : Int) : parB a b c d = parB b a d c := by
  unfold parB
  rw [dist_symm b a, dist_symm d c]
  refine decide_eq_decide.2 ⟨fun h => ?_, fun h => ?_⟩
  · obtain ⟨h1, h2, h3, h4, h5, h6, h7⟩ := h
    exact ⟨h2, h1, h4, h3, by omega, h6, h7⟩
  · obtain ⟨h1, h2, h3, h4, h5, h6, h7⟩ := h
    exact ⟨h2, h1, h4, h3, by omega, h6, h7⟩
theorem parGo_symm (l : List S85) (u v : Int) (t : List Int) : ∀ x, parGo l u v x t = parGo l v u x t := by
  induction t with
  | nil => intro x; rfl
  | cons y t ih => intro x; simp only [parGo]; rw [parB_symm, ih]
theorem foldM_congr {σ : Type} {f g : Int → σ → σ} (h : ∀ i s, f i s = g i s) : f = g := funext fun i => funext fun s => h i s
theorem onsetsM_symm (l : List S85) (u v : Int) : onsetsM l u v = onsetsM l v u := by
  unfold onsetsM
  rw [show onSt l u v = onSt l v u from foldM_congr fun i s => by unfold onSt; simp only [or_comm]]
theorem paraM_symm (l : List S85) (u v : Int) : paraM l u v = paraM l v u := by
  unfold paraM
  rw [onsetsM_symm l u v]
  cases onsetsM l v u with
  | nil => rfl
  | cons x t => exact parGo_symm l u v t x
theorem parGo_sub (l : List S85) (u v : Int) (t : List Int) : ∀ x, List.Sublist (parGo l u v x t) t := by
  induction t with
  | nil => intro x; exact List.Sublist.slnil
  | cons y t ih =>
    intro x
    simp only [parGo]
    by_cases c : parB (pitchM l u x) (pitchM l v x) (pitchM l u y) (pitchM l v y) = true
    · rw [if_pos c]; exact (ih y).cons_cons y
    · rw [if_neg c]; exact (ih y).cons y
theorem paraM_sub (l : List S85) (u v : Int) : List.Sublist (paraM l u v) (onsetsM l u v) := by
  unfold paraM
  cases onsetsM l u v with
  | nil => exact List.Sublist.slnil
  | cons x t => exact (parGo_sub l u v t x).cons x
theorem crossM_sub (l : List S85) (u v : Int) : List.Sublist (crossM l u v) (onsetsM l u v) := List.filter_sublist
theorem parGo_mem (l : List S85) (u v : Int) (t : List Int) : ∀ x, ∀ y ∈ parGo l u v x t, dist (pitchM l u y) (pitchM l v y) = 0 ∨ dist (pitchM l u y) (pitchM l v y) = 7 := by
  induction t with
  | nil => intro x y h; cases h
  | cons z t ih =>
    intro x y h
    simp only [parGo] at h
    rcases List.mem_append.1 h with h | h
    · by_cases c : parB (pitchM l u x) (pitchM l v x) (pitchM l u z) (pitchM l v z) = true
      · rw [if_pos c] at h
        obtain rfl := List.mem_singleton.1 h
        unfold parB at c
        simp only [decide_eq_true_eq] at c
        obtain ⟨_, _, _, _, _, h6, h7⟩ := c
        rw [← h6]; exact h7
      · rw [if_neg c] at h; cases h
    · exact ih z y h
theorem paraM_mem (l : List S85) (u v : Int) : ∀ y ∈ paraM l u v, dist (pitchM l u y) (pitchM l v y) = 0 ∨ dist (pitchM l u y) (pitchM l v y) = 7 := by
  unfold paraM
  cases onsetsM l u v with
  | nil => intro y h; cases h
  | cons x t => exact parGo_mem l u v t x
theorem leap_mono (v : List S85) (m : Int) (d : Nat) : ∀ (i : Nat) (o1 o2 : List Int), o1.length ≤ o2.length → (foldM (leapSt v (m + 1)) d i o1).length ≤ (foldM (leapSt v m) d i o2).length := by
  induction d with
  | zero => intro i o1 o2 h; exact h
  | succ d ih =>
    intro i o1 o2 h
    simp only [foldM]
    refine ih _ _ _ ?_
    unfold leapSt
    by_cases c1 : ((((rd_T85 v (i : Int)).f2 - (rd_T85 v ((i : Int) - 1)).f2).natAbs : Nat) : Int) > m + 1
    · rw [if_pos c1, if_pos (by omega)]
      simp only [List.length_append, List.length_cons, List.length_nil]
      omega
    · rw [if_neg c1]
      by_cases c2 : ((((rd_T85 v (i : Int)).f2 - (rd_T85 v ((i : Int) - 1)).f2).natAbs : Nat) : Int) > m
      · rw [if_pos c2]
        simp only [List.length_append, List.length_cons, List.length_nil]
        omega
      · rw [if_neg c2]; exact h
theorem leapsM_mono (l : List S85) (u m : Int) : (leapsM l u (m + 1)).length ≤ (leapsM l u m).length := by
  unfold leapsM
  split
  · exact leap_mono _ _ _ _ _ _ (Nat.le_refl _)
  · exact Nat.le_refl _
theorem faultsM_eq (l : List S85) (u v : Int) : (faultsM l u v).length = (paraM l u v).length + (crossM l u v).length + (leapsM l u 12).length := by
  unfold faultsM
  simp only [List.length_append, List.length_map]

theorem drawLeaps_ok (b : List Int) (hb : b.length ≤ 1048576) : ∃ l p m, Ev (fun k => spec_DrawLeapsIn.f k b) (l, p, m) ∧ l.length ≤ 40 ∧ 0 ≤ m ∧ m < 9 := by
  obtain ⟨l, p, q, e1, hl⟩ := drawOnsets_ok b hb
  obtain ⟨s0, e0⟩ := new_ok b hb
  obtain ⟨m, i2, s2, e2, ⟨m0, m1, _⟩, h2⟩ := below_ok (Rd.zero hb) s0 9
  refine ⟨l, p, m, ?_, hl, m0, m1 (by omega)⟩
  simp only [spec_DrawLeapsIn.f]
  refine Ev.bind e1 (Ev.bind e0 ?_)
  simp only [e2, Option.bind_some]
  exact Ev.now _
theorem drawParallels_ok (b : List Int) (hb : b.length ≤ 1048576) : ∃ l p q, Ev (fun k => spec_DrawParallelsIn.f k b) (l, p, q) ∧ l.length ≤ 40 := by
  obtain ⟨l, p, q, e1, hl⟩ := drawOnsets_ok b hb
  refine ⟨l, p, q, ?_, hl⟩
  simp only [spec_DrawParallelsIn.f]
  exact Ev.bind e1 (Ev.now _)
theorem vo_l1 (b : List Int) (hb : b.length ≤ 1048576) (l : List S85) (hl : l.length ≤ 40) (p q : Int) (suf : List Int) : ∀ pre, pre ++ suf = crossM l p q →
    Ev (fun k => laws_FnVoices.l1 k b l p q (paraM l p q) (pre ++ suf) (pre.length : Int)) true := by
  have h1 := paraM_length l p q
  have h2 := crossM_length l p q
  have h3 := leapsM_length l p 12
  induction suf with
  | nil =>
    intro pre hp
    refine ev_tail ?_
    simp only [laws_FnVoices.l1]
    refine ev_neg (by simp) (Ev.bind (implParallels_ev l q p (by omega)) ?_)
    rw [← paraM_symm l p q]
    refine Ev.bind (sameInts_ev _ (by omega)) (ev_pos rfl (Ev.bind (implFaults_ev l p q (by omega)) (Ev.bind (implLeaps_ev l p 12 (by omega)) (ev_pos ?_ ?_))))
    · rw [hp, faultsM_eq, wrap_id (n := ((paraM l p q).length : Int) + ((crossM l p q).length : Int)) (by omega) (by omega), wrap_id (by omega) (by omega)]
      omega
    · obtain ⟨l', p', m, e, hl', m0, m1⟩ := drawLeaps_ok b hb
      refine Ev.bind e (Ev.bind (implLeaps_ev l' p' m (by omega)) ?_)
      dsimp only
      rw [wrap_id (n := m + 1) (by omega) (by omega)]
      refine Ev.bind (implLeaps_ev l' p' (m + 1) (by omega)) (ev_eq (Ev.now _) ?_)
      have := leapsM_mono l' p' m
      exact decide_eq_true (by omega)
  | cons x t ih =>
    intro pre hp
    have e := ih (pre ++ [x]) (by simpa using hp)
    have hx : x ∈ crossM l p q := by rw [← hp]; simp
    have hc : crossB l p q x = true := (List.mem_filter.1 hx).2
    unfold crossB at hc
    simp only [decide_eq_true_eq] at hc
    have hlen : (pre ++ x :: t).length ≤ 40 := by rw [hp]; omega
    simp only [List.length_append, List.length_cons] at hlen
    refine ev_tail ?_
    simp only [laws_FnVoices.l1, rd_mid]
    refine ev_pos (by simp; omega) (ev_pos (by omega) (Ev.bind (implPitchAt_ev l p x (by omega)) (Ev.bind (implPitchAt_ev l q x (by omega)) (ev_neg (by omega) ?_))))
    rw [wrap_succ (by omega), snoc_cons pre x t, ← length_snoc pre x]
    exact e
theorem vo_l0 (b : List Int) (hb : b.length ≤ 1048576) (l : List S85) (hl : l.length ≤ 40) (p q : Int) (suf : List Int) : ∀ pre, pre ++ suf = paraM l p q →
    Ev (fun k => laws_FnVoices.l0 k b l p q (pre ++ suf) (crossM l p q) (pre.length : Int)) true := by
  have h1 := paraM_length l p q
  induction suf with
  | nil =>
    intro pre hp
    refine ev_tail ?_
    simp only [laws_FnVoices.l0]
    refine ev_neg (by simp) ?_
    rw [hp]
    exact vo_l1 b hb l hl p q (crossM l p q) [] rfl
  | cons x t ih =>
    intro pre hp
    have e := ih (pre ++ [x]) (by simpa using hp)
    have hd := paraM_mem l p q x (by rw [← hp]; simp)
    have b1 := pitchM_bound l p x
    have b2 := pitchM_bound l q x
    have hlen : (pre ++ x :: t).length ≤ 40 := by rw [hp]; omega
    simp only [List.length_append, List.length_cons] at hlen
    unfold dist at hd
    have w1 : wrap64 (pitchM l p x - pitchM l q x) = pitchM l p x - pitchM l q x := wrap_id (by omega) (by omega)
    have w2 : wrap64 (-(pitchM l p x - pitchM l q x)) = -(pitchM l p x - pitchM l q x) := wrap_id (by omega) (by omega)
    refine ev_tail ?_
    simp only [laws_FnVoices.l0, rd_mid]
    refine ev_pos (by simp; omega) (ev_pos (by omega) (Ev.bind (implPitchAt_ev l p x (by omega)) (Ev.bind (implPitchAt_ev l q x (by omega)) ?_)))
    rw [w1, w2, wrap_succ (by omega), snoc_cons pre x t, ← length_snoc pre x]
    refine ev_ite (fun hn => ?_) (fun hn => ?_)
    · rw [show (((pitchM l p x - pitchM l q x).natAbs : Nat) : Int) = -(pitchM l p x - pitchM l q x) by omega] at hd
      refine ev_ite (fun _ => e) (fun h0 => ev_pos ?_ e)
      rcases hd with hd | hd
      · exact absurd hd h0
      · exact hd
    · rw [show (((pitchM l p x - pitchM l q x).natAbs : Nat) : Int) = pitchM l p x - pitchM l q x by omega] at hd
      refine ev_ite (fun _ => e) (fun h0 => ev_pos ?_ e)
      rcases hd with hd | hd
      · exact absurd hd h0
      · exact hd
theorem FnVoices : ∀ (l0 : List (Int)), (l0.length ≤ maxLen) → (∀ x ∈ l0, (Lit.int .u8 x).wf = true) → ∃ k, laws_FnVoices.f k l0 = some true := by
  intro b _ _
  refine Ev.rounds ?_
  simp only [laws_FnVoices.f, big_ev, Option.bind_some]
  refine ev_ite (fun _ => Ev.now _) (fun h => ?_)
  simp only [decide_eq_true_eq] at h
  have hb : b.length ≤ 1048576 := by omega
  obtain ⟨l, p, q, e, hl⟩ := drawParallels_ok b hb
  obtain ⟨n1, a1⟩ := onsetsM_facts l p q
  have h1 := paraM_length l p q
  have h2 := crossM_length l p q
  refine Ev.bind e (Ev.bind (implOnsets_ev l p q (by omega)) (Ev.bind (specOnsets_ev l p q (by omega)) (ev_pos rfl (Ev.bind (implParallels_ev l p q (by omega)) (Ev.bind (implCrossings_ev l p q (by omega)) ?_)))))
  refine Ev.bind (ascends_ev _ (by omega) a1) (ev_pos rfl (Ev.bind (ascends_ev _ (by omega) (a1.sublist (paraM_sub l p q))) (ev_pos rfl (Ev.bind (ascends_ev _ (by omega) (a1.sublist (crossM_sub l p q))) (ev_pos rfl ?_)))))
  refine Ev.bind (within_ev _ _ (by omega) (by omega) (fun x hx => (paraM_sub l p q).subset hx)) (ev_pos rfl (Ev.bind (within_ev _ _ (by omega) (by omega) (fun x hx => (crossM_sub l p q).subset hx)) (ev_tail ?_)))
  simp only [laws_FnVoices.j0]
  exact ev_neg (by simp) (vo_l0 b hb l hl p q (paraM l p q) [] rfl)
end Go.Proofs.Ytlkfhddckgjlnaa.Pure
