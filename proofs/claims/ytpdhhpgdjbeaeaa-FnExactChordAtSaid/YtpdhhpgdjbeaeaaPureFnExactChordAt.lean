/-
ChordAt of the program and of the reference: the same answer.
Conditions: none.
-/
import Derived.Test.YtpdhhpgdjbeaeaaPFnExactChordAtx11
import Derived.Test.YtpdhhpgdjbeaeaaBase
namespace Go.Proofs.Ytpdhhpgdjbeaeaa.Pure
open Go.RowKit Go.Proofs.Ytpdhhpgdjbeaeaa.PFnExactChordAt Go.Proofs.YtpdhhpgdjbeaeaaW.PrintWords Go.Proofs.YtpdhhpgdjbeaeaaW.PrintLast Go.Proofs.YtpdhhpgdjbeaeaaW.PrintMore Go.Proofs.Ytpdhhpgdjbeaeaa.Base
set_option linter.unusedVariables false
set_option linter.unusedSimpArgs false

theorem l1In_eq (a b c : Int) : spec_l1In.f a b c = some (decide (b ≤ a ∧ a ≤ c)) := by
  unfold spec_l1In.f
  by_cases h1 : b ≤ a <;> by_cases h2 : a ≤ c <;> simp [h1, h2]
theorem InRange_eq (a b c : Int) : impl_InRange.f a b c = some (decide (b ≤ a ∧ a ≤ c)) := by
  unfold impl_InRange.f
  by_cases h1 : b ≤ a <;> by_cases h2 : a ≤ c <;> simp [h1, h2]

def cvEvent (x : S70) : S68 := ⟨x.f0, x.f1, x.f2, x.f3⟩
theorem rdLEvent (pre : List S70) (x : S70) (t : List S70) : rd_T70 (pre ++ x :: t) ((pre.length : Nat) : Int) = x := getD_mid pre x t z70
theorem rdIEvent (pre : List S68) (x : S68) (t : List S68) : rd_T68 (pre ++ x :: t) ((pre.length : Nat) : Int) = x := getD_mid pre x t z68
theorem toEventS_l0 (suf : List S70) : ∀ pre : List S70, (pre ++ suf).length ≤ 1048576 → Ev (fun k => laws_toEventS.l0 k (pre ++ suf) (pre.map cvEvent ++ List.replicate suf.length z68) (pre.length : Int)) ((pre ++ suf).map cvEvent) := by
  induction suf with
  | nil =>
    intro pre h
    refine ev_tail ?_
    simp only [laws_toEventS.l0]
    refine ev_neg (by simp) ?_
    exact ev_eq (Ev.now _) (by simp)
  | cons x t ih =>
    intro pre h
    have e := ih (pre ++ [x]) (by simpa using h)
    simp only [List.length_append, List.length_cons] at h
    refine ev_tail ?_
    simp only [laws_toEventS.l0, laws_toEvent.f, Option.bind_some]
    refine ev_pos (by simp; omega) (ev_pos (by omega) (ev_pos (by simp; omega) ?_))
    rw [rdLEvent, List.length_cons, List.replicate_succ]
    have e1 : (pre.map cvEvent ++ z68 :: List.replicate t.length z68).set ((pre.length : Nat) : Int).toNat (⟨x.f0, x.f1, x.f2, x.f3⟩ : S68) = (pre ++ [x]).map cvEvent ++ List.replicate t.length z68 := by
      simp [cvEvent]
    rw [e1, wrap_succ (by omega), snoc_cons pre x t, ← length_snoc pre x]
    exact e
theorem toEventS_ev (l : List S70) (h : l.length ≤ 1048576) : Ev (fun k => laws_toEventS.f k l) (l.map cvEvent) := by
  simp only [laws_toEventS.f]
  refine ev_pos (by omega) (ev_pos (by omega) ?_)
  exact toEventS_l0 l [] (by simpa using h)

theorem eqEventS_l0 (suf : List S68) : ∀ pre : List S68, (pre ++ suf).length ≤ 1048576 → Ev (fun k => laws_eqEventS.l0 k (pre ++ suf) (pre ++ suf) (pre.length : Int)) true := by
  induction suf with
  | nil =>
    intro pre h
    refine ev_tail ?_
    simp only [laws_eqEventS.l0]
    exact ev_neg (by simp) (Ev.now true)
  | cons x t ih =>
    intro pre h
    have e := ih (pre ++ [x]) (by simpa using h)
    simp only [List.length_append, List.length_cons] at h
    refine ev_tail ?_
    simp only [laws_eqEventS.l0, laws_eqEvent.f, if_true, Option.bind_some]
    refine ev_pos (by simp; omega) (ev_pos (by omega) (ev_pos (by simp; omega) ?_))
    rw [wrap_succ (by omega), snoc_cons pre x t, ← length_snoc pre x]
    exact e
theorem eqEventS_ev (l : List S68) (h : l.length ≤ 1048576) : Ev (fun k => laws_eqEventS.f k l l) true := by
  simp only [laws_eqEventS.f]
  refine ev_pos (by trivial) ?_
  exact eqEventS_l0 l [] (by simpa using h)

theorem szEventS_some (l : List S70) (h : l.length ≤ maxLen) : ∃ r, laws_szEventS.f l 1048576 = some r ∧ (¬ r < 0 → l.length ≤ 1048576) := by
  have hm : maxLen = 9223372036854775807 := rfl
  unfold laws_szEventS.f
  rw [wrap_id (by omega) (by omega)]
  by_cases h0 : (1048576 : Int) - (l.length : Int) < 0
  · exact ⟨-1, by rw [if_pos h0], fun h => absurd (by omega) h⟩
  · exact ⟨_, by rw [if_neg h0], fun _ => by omega⟩

def evOK (e : S68) : Bool := decide (0 ≤ e.f0 ∧ e.f0 ≤ 2000 ∧ 1 ≤ e.f1 ∧ e.f1 ≤ 96 ∧ 21 ≤ e.f2 ∧ e.f2 ≤ 108 ∧ 1 ≤ e.f3 ∧ e.f3 ≤ 4)
/-- In order: by At, then by Voice, then by Pitch. -/
def evLt (a b : S68) : Bool := decide (a.f0 < b.f0 ∨ (a.f0 = b.f0 ∧ (a.f3 < b.f3 ∨ (a.f3 = b.f3 ∧ a.f2 < b.f2))))
def scC (l : List S68) (i : Int) : Bool := evOK (rd_T68 l i) && (decide (i ≤ 0) || evLt (rd_T68 l (i - 1)) (rd_T68 l i))
def scoreM (l : List S68) : Bool := allF (scC l) (decide ((l.length : Int) ≤ 40)) l.length 0
theorem l8Ok_eq (e : S68) : spec_l8Ok.f e.f0 e.f1 e.f2 e.f3 = some (evOK e) := by
  simp only [spec_l8Ok.f, l1In_eq, Option.bind_some, evOK]
  by_cases h1 : 0 ≤ e.f0 ∧ e.f0 ≤ 2000 <;> by_cases h2 : 1 ≤ e.f1 ∧ e.f1 ≤ 96 <;> by_cases h3 : 21 ≤ e.f2 ∧ e.f2 ≤ 108 <;> simp [h1, h2, h3, and_assoc] <;> omega
theorem l8Before_eq (a b : S68) : spec_l8Before.f a.f0 a.f1 a.f2 a.f3 b.f0 b.f1 b.f2 b.f3 = some (evLt a b) := by
  simp only [spec_l8Before.f, evLt]
  by_cases h1 : a.f0 = b.f0
  · rw [if_pos h1]
    by_cases h2 : a.f3 = b.f3
    · rw [if_pos h2]; congr 1; exact decide_eq_decide.mpr (by omega)
    · rw [if_neg h2]; congr 1; exact decide_eq_decide.mpr (by omega)
  · rw [if_neg h1]; congr 1; exact decide_eq_decide.mpr (by omega)
theorem specIsScore_ev (l : List S68) (h : l.length ≤ 1048576) : Ev (fun k => spec_IsScore.f k l) (scoreM l) := by
  simp only [spec_IsScore.f]
  refine ev_all (L := fun k i => spec_IsScore.l0 k l i) (n := l.length) (fun i hi => ?_) ?_ l.length 0 (by omega)
  · have w1 : Aside0 (wrap64 ((i : Int) + 1) = (i : Int) + 1) := ⟨wrap_id (by omega) (by omega)⟩
    have w2 : Aside0 (wrap64 ((i : Int) - 1) = (i : Int) - 1) := ⟨wrap_id (by omega) (by omega)⟩
    constructor
    · intro hc r e
      simp only [scC, Bool.and_eq_true] at hc
      obtain ⟨h1, h2⟩ := hc
      refine ev_tail ?_
      simp only [spec_IsScore.l0, l8Ok_eq, l8Before_eq, Option.bind_some, w1.out, w2.out]
      refine ev_pos (by omega) (ev_pos (by omega) (ev_pos h1 (ev_ite (fun h0 => ?_) (fun _ => e))))
      rw [decide_eq_false (by omega), Bool.false_or] at h2
      exact ev_pos (by omega) (ev_pos (by omega) (ev_pos h2 e))
    · intro hc
      simp only [scC, Bool.and_eq_false_iff] at hc
      refine ev_tail ?_
      simp only [spec_IsScore.l0, l8Ok_eq, l8Before_eq, Option.bind_some, w1.out, w2.out]
      refine ev_pos (by omega) (ev_pos (by omega) (ev_ite (fun h1 => ?_) (fun _ => Ev.now _)))
      rcases hc with hc | hc
      · rw [hc] at h1; exact absurd h1 (by simp)
      · simp only [Bool.or_eq_false_iff, decide_eq_false_iff_not] at hc
        exact ev_pos (by omega) (ev_pos (by omega) (ev_pos (by omega) (ev_neg (by rw [hc.2]; simp) (Ev.now _))))
  · refine ev_tail ?_
    simp only [spec_IsScore.l0]
    exact ev_neg (by omega) (Ev.now _)
theorem cmp_eq (a b : Int) : cmp_Compare_int.f a b = some (if a < b then -1 else if a > b then 1 else 0) := by
  simp only [cmp_Compare_int.f, cmp_isNaN_int.f, Option.bind_some, bne_self_eq_false, Bool.false_eq_true, if_false]
  by_cases h1 : a < b
  · rw [if_pos h1, if_pos h1]
  · rw [if_neg h1, if_neg h1]
    by_cases h2 : a > b
    · rw [if_pos h2, if_pos h2]
    · rw [if_neg h2, if_neg h2]
theorem or_ev (a b c : Int) : Ev (fun k => cmp_Or_int.f k [a, b, c]) (if a = 0 then (if b = 0 then (if c = 0 then 0 else c) else b) else a) := by
  simp only [cmp_Or_int.f]
  have r0 : rd [a, b, c] 0 = a := rfl
  have r1 : rd [a, b, c] 1 = b := rfl
  have r2 : rd [a, b, c] 2 = c := rfl
  have w0 : wrap64 ((0 : Int) + 1) = 1 := by unfold wrap64; omega
  have w1 : wrap64 ((1 : Int) + 1) = 2 := by unfold wrap64; omega
  have w2 : wrap64 ((2 : Int) + 1) = 3 := by unfold wrap64; omega
  refine ev_tail ?_
  simp only [cmp_Or_int.l0, r0, w0]
  refine ev_pos (by simp) (ev_pos (by omega) (ev_pos (by simp) (ev_ite (fun h0 => ?_) (fun h0 => ?_))))
  · rw [if_pos h0]
    refine ev_tail ?_
    simp only [cmp_Or_int.l0, r1, w1]
    refine ev_pos (by simp) (ev_pos (by omega) (ev_pos (by simp) (ev_ite (fun h1 => ?_) (fun h1 => ?_))))
    · rw [if_pos h1]
      refine ev_tail ?_
      simp only [cmp_Or_int.l0, r2, w2]
      refine ev_pos (by simp) (ev_pos (by omega) (ev_pos (by simp) (ev_ite (fun h2 => ?_) (fun h2 => ?_))))
      · rw [if_pos h2]
        refine ev_tail ?_
        simp only [cmp_Or_int.l0]
        exact ev_neg (by simp) (Ev.now _)
      · rw [if_neg h2]; exact Ev.now _
    · rw [if_neg h1]; exact Ev.now _
  · rw [if_neg h0]; exact Ev.now _
theorem eventOrder_ev (a b : S68) : ∃ r, Ev (fun k => impl_eventOrder.f k a.f0 a.f1 a.f2 a.f3 b.f0 b.f1 b.f2 b.f3) r ∧ (evLt a b = true ↔ r < 0) := by
  simp only [impl_eventOrder.f, cmp_eq, Option.bind_some]
  refine ⟨_, Ev.bind (or_ev _ _ _) (Ev.now _), ?_⟩
  simp only [evLt, decide_eq_true_eq]
  repeat' split
  all_goals omega
theorem implIsScore_ev (l : List S68) (h : l.length ≤ 1048576) : Ev (fun k => impl_IsScore.f k l) (scoreM l) := by
  simp only [impl_IsScore.f]
  refine ev_all (L := fun k i => impl_IsScore.l0 k l l (l.length : Int) i) (n := l.length) (fun i hi => ?_) ?_ l.length 0 (by omega)
  · have w1 : Aside0 (wrap64 ((i : Int) + 1) = (i : Int) + 1) := ⟨wrap_id (by omega) (by omega)⟩
    have w2 : Aside0 (wrap64 ((i : Int) - 1) = (i : Int) - 1) := ⟨wrap_id (by omega) (by omega)⟩
    obtain ⟨q, hq, hl⟩ := eventOrder_ev (rd_T68 l ((i : Int) - 1)) (rd_T68 l (i : Int))
    constructor
    · intro hc r e
      simp only [scC, Bool.and_eq_true, evOK, decide_eq_true_eq] at hc
      obtain ⟨h1, h2⟩ := hc
      refine ev_tail ?_
      simp only [impl_IsScore.l0, InRange_eq, Option.bind_some, w1.out, w2.out]
      refine ev_pos (by omega) (ev_pos (by omega) (ev_pos (by omega) (ev_pos (by simp; omega) (ev_pos (by simp; omega) (ev_pos (by simp; omega) (ev_pos (by simp; omega) (ev_ite (fun h0 => ?_) (fun _ => e))))))))
      rw [decide_eq_false (by omega), Bool.false_or] at h2
      have := hl.mp h2
      exact ev_pos (by omega) (ev_pos (by omega) (Ev.bind hq (ev_neg (by omega) e)))
    · intro hc
      refine ev_tail ?_
      simp only [impl_IsScore.l0, InRange_eq, Option.bind_some, w1.out, w2.out]
      refine ev_pos (by omega) (ev_pos (by omega) (ev_pos (by omega) (ev_ite (fun h1 => ev_ite (fun h2 => ev_ite (fun h3 => ev_ite (fun h4 => ?_) (fun _ => Ev.now _)) (fun _ => Ev.now _)) (fun _ => Ev.now _)) (fun _ => Ev.now _))))
      simp only [decide_eq_true_eq] at h1 h2 h3 h4
      simp only [scC, Bool.and_eq_false_iff] at hc
      rcases hc with hc | hc
      · simp only [evOK, decide_eq_false_iff_not] at hc
        exact absurd ⟨h1.1, h1.2, h2.1, h2.2, h3.1, h3.2, h4.1, h4.2⟩ hc
      · simp only [Bool.or_eq_false_iff, decide_eq_false_iff_not] at hc
        have : ¬ q < 0 := fun hlt => by rw [hl.mpr hlt] at hc; exact absurd hc.2 (by simp)
        exact ev_pos (by omega) (ev_pos (by omega) (ev_pos (by omega) (Ev.bind hq (ev_pos (by omega) (Ev.now _)))))
  · refine ev_tail ?_
    simp only [impl_IsScore.l0]
    exact ev_neg (by omega) (Ev.now _)
theorem score_len {l : List S68} (h : scoreM l = true) : l.length ≤ 40 := by
  unfold scoreM at h
  rw [allF_iff] at h
  have := h.1
  simp only [decide_eq_true_eq] at this
  omega

def modM (p q : Int) : Int := if 1 ≤ q ∧ q ≤ 1000000000000 then Int.tmod (wrap64 (Int.tmod p q + q)) q else 0
theorem specMod_eq (p q : Int) : spec_Mod.f p q = some (modM p q) := by
  simp only [spec_Mod.f, l1In_eq, Option.bind_some, modM]
  by_cases h : 1 ≤ q ∧ q ≤ 1000000000000
  · rw [if_pos (by simpa using h), if_neg (by omega), if_pos h]
  · rw [if_neg (by simpa using h), if_neg h]
theorem implMod_eq (p q : Int) : impl_Mod.f p q = some (modM p q) := by
  simp only [impl_Mod.f, InRange_eq, Option.bind_some, modM]
  by_cases h : 1 ≤ q ∧ q ≤ 1000000000000
  · rw [if_pos (by simpa using h), if_neg (by omega), if_pos h]
  · rw [if_neg (by simpa using h), if_neg h]

/-- A number behind the last, if it is another. -/
def addN (out : List Int) (n : Int) : List Int := if out.getLast? = some n then out else out ++ [n]
def cp (xs : List Int) : List Int := xs.foldl addN []
theorem cp_snoc (xs : List Int) (n : Int) : cp (xs ++ [n]) = addN (cp xs) n := by simp [cp]
theorem addN_last (out : List Int) (n : Int) : (addN out n).getLast? = some n := by
  unfold addN
  split
  · assumption
  · simp
theorem cp_last (xs : List Int) : (cp xs).getLast? = xs.getLast? := by
  rcases List.eq_nil_or_concat xs with h | ⟨t, n, h⟩
  · subst h; rfl
  · rw [h, List.concat_eq_append, cp_snoc, addN_last]; simp
theorem addN_length (out : List Int) (n : Int) : (addN out n).length ≤ out.length + 1 := by
  unfold addN
  split
  · omega
  · simp
theorem compact_snoc (xs : List Int) (n : Int) : Go.Lib.compact (xs ++ [n]) = if xs.getLast? = some n then Go.Lib.compact xs else Go.Lib.compact xs ++ [n] := by
  have hk : ∀ j, j < xs.length → Go.Lib.keeps (xs ++ [n]).toArray j = Go.Lib.keeps xs.toArray j := by
    intro j hj
    unfold Go.Lib.keeps
    have e1 : (xs ++ [n]).toArray[j]! = xs.toArray[j]! := by
      rw [getElem!_pos (xs ++ [n]).toArray j (by simp; omega), getElem!_pos xs.toArray j (by simpa using hj)]
      simp [List.getElem_append_left hj]
    have e2 : (xs ++ [n]).toArray[j - 1]! = xs.toArray[j - 1]! := by
      rw [getElem!_pos (xs ++ [n]).toArray (j - 1) (by simp; omega), getElem!_pos xs.toArray (j - 1) (by simp; omega)]
      simp [List.getElem_append_left (show j - 1 < xs.length by omega)]
    rw [e1, e2]
  have hv : ∀ j, j < xs.length → (xs ++ [n]).toArray[j]! = xs.toArray[j]! := by
    intro j hj
    rw [getElem!_pos (xs ++ [n]).toArray j (by simp; omega), getElem!_pos xs.toArray j (by simpa using hj)]
    simp [List.getElem_append_left hj]
  have hlast : Go.Lib.keeps (xs ++ [n]).toArray xs.length = decide (¬ xs.getLast? = some n) := by
    unfold Go.Lib.keeps
    refine decide_eq_decide.mpr ?_
    rcases List.eq_nil_or_concat xs with h | ⟨t, m, h⟩
    · subst h; simp
    · rw [List.concat_eq_append] at h
      subst h
      have e1 : (t ++ [m] ++ [n]).toArray[(t ++ [m]).length]! = n := by
        rw [getElem!_pos (t ++ [m] ++ [n]).toArray (t ++ [m]).length (by simp)]
        simp
      have e2 : (t ++ [m] ++ [n]).toArray[(t ++ [m]).length - 1]! = m := by
        rw [getElem!_pos (t ++ [m] ++ [n]).toArray ((t ++ [m]).length - 1) (by simp)]
        simp
      rw [e1, e2]
      simp only [List.length_append, List.length_cons, List.length_nil, List.getLast?_append, List.getLast?_singleton, Option.some_or, Option.some.injEq]
      constructor
      · rintro (h | h)
        · omega
        · exact fun e => h e.symm
      · exact fun h => .inr fun e => h e.symm
  have hfil : (List.range xs.length).filter (Go.Lib.keeps (xs ++ [n]).toArray) = (List.range xs.length).filter (Go.Lib.keeps xs.toArray) :=
    List.filter_congr fun j hj => hk j (List.mem_range.1 hj)
  have hmap : ((List.range xs.length).filter (Go.Lib.keeps xs.toArray)).map ((xs ++ [n]).toArray[·]!) = ((List.range xs.length).filter (Go.Lib.keeps xs.toArray)).map (xs.toArray[·]!) :=
    List.map_congr_left fun j hj => hv j (List.mem_range.1 (List.mem_filter.1 hj).1)
  have hn : (xs ++ [n]).toArray[xs.length]! = n := by
    rw [getElem!_pos (xs ++ [n]).toArray xs.length (by simp)]
    simp
  unfold Go.Lib.compact Go.Lib.compactUpTo
  rw [show (xs ++ [n]).length = xs.length + 1 by simp, List.range_succ, List.filter_append, List.map_append, hfil, hmap]
  by_cases h : xs.getLast? = some n
  · rw [if_pos h]
    simp [hlast, h]
  · rw [if_neg h]
    simp [hlast, h, hn]
theorem compact_cp (xs : List Int) : Go.Lib.compact xs = cp xs := by
  suffices h : ∀ m (xs : List Int), xs.length = m → Go.Lib.compact xs = cp xs from h _ xs rfl
  intro m
  induction m with
  | zero =>
    intro xs h
    obtain rfl := List.length_eq_zero_iff.1 h
    rfl
  | succ m ih =>
    intro xs h
    rcases List.eq_nil_or_concat xs with h' | ⟨t, n, h'⟩
    · subst h'; simp at h
    · rw [List.concat_eq_append] at h'
      subst h'
      rw [compact_snoc, cp_snoc, ih t (by simpa using h), addN, cp_last]

/-- A number into an ascending list. -/
def insN : List Int → Int → List Int
  | [], n => [n]
  | x :: t, n => if x < n then x :: insN t n else if x = n then x :: t else n :: x :: t
theorem insN_mem (l : List Int) (n y : Int) : y ∈ insN l n ↔ y ∈ l ∨ y = n := by
  induction l with
  | nil => simp [insN]
  | cons x t ih =>
    simp only [insN]
    split
    · simp only [List.mem_cons, ih]
      constructor
      · rintro (h | h | h) <;> simp [h]
      · rintro ((h | h) | h) <;> simp [h]
    · split
      · rename_i h; subst h
        simp only [List.mem_cons]
        constructor
        · exact fun h => .inl h
        · rintro (h | h)
          · exact h
          · exact .inl h
      · simp only [List.mem_cons]
        constructor
        · rintro (h | h | h) <;> simp [h]
        · rintro ((h | h) | h) <;> simp [h]
theorem insN_asc (l : List Int) (n : Int) (h : l.Pairwise (· < ·)) : (insN l n).Pairwise (· < ·) := by
  induction l with
  | nil => simp [insN]
  | cons x t ih =>
    obtain ⟨h1, h2⟩ := List.pairwise_cons.1 h
    simp only [insN]
    split
    · rename_i hx
      refine List.pairwise_cons.2 ⟨fun y hy => ?_, ih h2⟩
      rcases (insN_mem t n y).1 hy with hy | hy
      · exact h1 y hy
      · rw [hy]; exact hx
    · split
      · exact h
      · refine List.pairwise_cons.2 ⟨fun y hy => ?_, h⟩
        rcases List.mem_cons.1 hy with hy | hy
        · omega
        · have := h1 y hy; omega
theorem insN_length (l : List Int) (n : Int) : (insN l n).length ≤ l.length + 1 := by
  induction l with
  | nil => simp [insN]
  | cons x t ih =>
    simp only [insN]
    split
    · simp only [List.length_cons]; omega
    · split <;> simp
theorem l8Num_ins0 (n : Int) (suf : List Int) : ∀ pre : List Int, (pre ++ suf).length ≤ 1048576 → Ev (fun k => spec_l8Num.l0 k (pre ++ suf) n (pre.length : Int)) (pre ++ insN suf n) := by
  induction suf with
  | nil =>
    intro pre h
    refine ev_tail ?_
    simp only [spec_l8Num.l0, Option.bind_some, List.append_nil, Int.toNat_natCast, List.nil_append, List.length_nil, List.length_append, List.length_cons, List.length_drop, List.length_take]
    simp only [List.append_nil] at h
    refine ev_neg (by omega) (ev_pos (by omega) (ev_pos (by omega) (ev_pos (by omega) (ev_pos (by omega) (ev_pos (by omega) ?_)))))
    refine ev_eq (Ev.now _) ?_
    simp [insN]
  | cons x t ih =>
    intro pre h
    have hlen : pre.length + (t.length + 1) ≤ 1048576 := by simpa using h
    refine ev_tail ?_
    simp only [spec_l8Num.l0, rd_mid, Option.bind_some, List.nil_append]
    refine ev_pos (by simp; omega) (ev_pos (by omega) ?_)
    by_cases hlt : x < n
    · refine ev_pos hlt ?_
      have e := ih (pre ++ [x]) (by simpa using h)
      rw [wrap_succ (by omega), snoc_cons pre x t, ← length_snoc pre x]
      refine ev_eq e ?_
      simp [insN, hlt]
    · refine ev_neg hlt ?_
      by_cases he : x = n
      · refine ev_pos he (ev_pos (by simp; omega) ?_)
        refine ev_eq (Ev.now _) ?_
        simp only [insN]
        rw [if_neg hlt, if_pos he]
      · refine ev_neg he ?_
        simp only [Int.toNat_natCast, List.length_nil, List.length_append, List.length_cons, List.length_drop, List.length_take]
        refine ev_pos (by omega) (ev_pos (by omega) (ev_pos (by omega) (ev_pos (by omega) ?_)))
        refine ev_eq (Ev.now _) ?_
        simp only [insN]
        rw [if_neg hlt, if_neg he]
        simp
theorem l8Num_ins (l : List Int) (n : Int) (h : l.length ≤ 1048576) : Ev (fun k => spec_l8Num.f k l n) (insN l n) := by
  simp only [spec_l8Num.f]
  exact l8Num_ins0 n l [] (by simpa using h)
/-- The set of a list's numbers, ascending. -/
def setN (l : List Int) : List Int := l.foldl insN []
theorem foldl_insN (l : List Int) : ∀ out : List Int, out.Pairwise (· < ·) → (l.foldl insN out).Pairwise (· < ·) ∧ (∀ y, y ∈ l.foldl insN out ↔ y ∈ out ∨ y ∈ l) ∧ (l.foldl insN out).length ≤ out.length + l.length := by
  induction l with
  | nil => intro out h; exact ⟨h, fun y => by simp, by simp⟩
  | cons x t ih =>
    intro out h
    obtain ⟨h1, h2, h3⟩ := ih (insN out x) (insN_asc out x h)
    have := insN_length out x
    refine ⟨h1, fun y => ?_, by simp only [List.foldl_cons, List.length_cons]; omega⟩
    rw [List.foldl_cons, h2, insN_mem, List.mem_cons]
    constructor
    · rintro ((h | h) | h) <;> simp [h]
    · rintro (h | h | h) <;> simp [h]
theorem setN_asc (l : List Int) : (setN l).Pairwise (· < ·) := (foldl_insN l [] List.Pairwise.nil).1
theorem setN_mem (l : List Int) (y : Int) : y ∈ setN l ↔ y ∈ l := by
  have := (foldl_insN l [] List.Pairwise.nil).2.1 y
  simpa [setN] using this
theorem setN_length (l : List Int) : (setN l).length ≤ l.length := by
  have := (foldl_insN l [] List.Pairwise.nil).2.2
  simpa [setN] using this
/-- Ascending lists of the same numbers are one. -/
theorem asc_ext (a : List Int) : ∀ b : List Int, a.Pairwise (· < ·) → b.Pairwise (· < ·) → (∀ y, y ∈ a ↔ y ∈ b) → a = b := by
  induction a with
  | nil =>
    intro b _ _ h
    cases b with
    | nil => rfl
    | cons y t => have := (h y).2 (by simp); cases this
  | cons x t ih =>
    intro b ha hb h
    cases b with
    | nil => have := (h x).1 (by simp); cases this
    | cons y s =>
      obtain ⟨a1, a2⟩ := List.pairwise_cons.1 ha
      obtain ⟨b1, b2⟩ := List.pairwise_cons.1 hb
      have hx : x = y := by
        rcases List.mem_cons.1 ((h x).1 (by simp)) with e | e
        · exact e
        · rcases List.mem_cons.1 ((h y).2 (by simp)) with f | f
          · exact f.symm
          · have := b1 x e; have := a1 y f; omega
      subst hx
      rw [ih s a2 b2 (fun z => ?_)]
      constructor
      · intro hz
        rcases List.mem_cons.1 ((h z).1 (by simp [hz])) with e | e
        · have := a1 z hz; omega
        · exact e
      · intro hz
        rcases List.mem_cons.1 ((h z).2 (by simp [hz])) with e | e
        · have := b1 z hz; omega
        · exact e
theorem cp_sorted (l : List Int) : l.Pairwise (· ≤ ·) → (cp l).Pairwise (· < ·) ∧ ∀ y, y ∈ cp l ↔ y ∈ l := by
  suffices h : ∀ m (xs : List Int), xs.length = m → xs.Pairwise (· ≤ ·) → (cp xs).Pairwise (· < ·) ∧ ∀ y, y ∈ cp xs ↔ y ∈ xs from h _ l rfl
  intro m
  induction m with
  | zero =>
    intro xs h _
    obtain rfl := List.length_eq_zero_iff.1 h
    exact ⟨List.Pairwise.nil, fun y => by simp [cp]⟩
  | succ m ih =>
    intro xs h hp
    rcases List.eq_nil_or_concat xs with h' | ⟨t, n, h'⟩
    · subst h'; simp at h
    · rw [List.concat_eq_append] at h'
      subst h'
      obtain ⟨p1, p2, p3⟩ := List.pairwise_append.1 hp
      obtain ⟨i1, i2⟩ := ih t (by simpa using h) p1
      have hn : ∀ x ∈ t, x ≤ n := fun x hx => p3 x hx n (by simp)
      rw [cp_snoc]
      unfold addN
      rw [cp_last]
      by_cases e : t.getLast? = some n
      · rw [if_pos e]
        refine ⟨i1, fun y => ?_⟩
        rw [i2, List.mem_append, List.mem_singleton]
        constructor
        · exact fun h => .inl h
        · rintro (h | h)
          · exact h
          · rw [h]; exact List.mem_of_getLast? e
      · rw [if_neg e]
        refine ⟨List.pairwise_append.2 ⟨i1, by simp, fun x hx y hy => ?_⟩, fun y => by simp [i2]⟩
        rw [List.mem_singleton.1 hy]
        have hx' := (i2 x).1 hx
        have h1 := hn x hx'
        rcases Int.lt_or_eq_of_le h1 with h2 | h2
        · exact h2
        · exfalso
          subst h2
          -- x is in t and every later one is at least x: the last is x
          have hne : t ≠ [] := by intro h; subst h; cases hx'
          have hl := List.getLast_mem hne
          have h3 : x ≤ t.getLast hne := by
            obtain ⟨i, hi, hxi⟩ := List.getElem_of_mem hx'
            rw [List.getLast_eq_getElem]
            rcases Nat.lt_or_ge i (t.length - 1) with h4 | h4
            · have := List.pairwise_iff_getElem.1 p1 i (t.length - 1) hi (by omega) h4
              rw [hxi] at this; exact this
            · have : i = t.length - 1 := by omega
              subst this; rw [hxi]; exact Int.le_refl _
          have h4 := hn _ hl
          have : t.getLast hne = x := by omega
          exact e (by rw [List.getLast?_eq_some_getLast hne, this])
theorem sorted_asc (l : List Int) : (ShSort.sorted l).Pairwise (· ≤ ·) := by
  have := List.pairwise_mergeSort (le := fun x y : Int => decide (x ≤ y)) (fun a b c h1 h2 => by simp at *; omega) (fun a b => by simp; omega) l
  exact this.imp (fun h => by simpa using h)
theorem compact_sorted (l : List Int) : Go.Lib.compact (ShSort.sorted l) = setN l := by
  rw [compact_cp]
  obtain ⟨h1, h2⟩ := cp_sorted _ (sorted_asc l)
  exact asc_ext _ _ h1 (setN_asc l) (fun y => by rw [h2, setN_mem]; unfold ShSort.sorted; exact List.mem_mergeSort)

def classesM (l : List Int) : List Int := setN (l.map fun p => modM p 12)
theorem classesM_length (l : List Int) : (classesM l).length ≤ l.length := by
  have := setN_length (l.map fun p => modM p 12)
  simpa [classesM] using this
theorem specClasses_l0 (suf : List Int) : ∀ (pre out : List Int), (pre ++ suf).length ≤ 1048576 → out.length ≤ pre.length → Ev (fun k => spec_ClassesOf.l0 k (pre ++ suf) out (pre.length : Int)) ((suf.map fun p => modM p 12).foldl insN out) := by
  induction suf with
  | nil =>
    intro pre out h ho
    refine ev_tail ?_
    simp only [spec_ClassesOf.l0]
    exact ev_neg (by simp) (Ev.now _)
  | cons x t ih =>
    intro pre out h ho
    have hi := insN_length out (modM x 12)
    have e := ih (pre ++ [x]) (insN out (modM x 12)) (by simpa using h) (by simp; omega)
    simp only [List.length_append, List.length_cons] at h
    refine ev_tail ?_
    simp only [spec_ClassesOf.l0]
    refine ev_pos (by simp; omega) (ev_pos (by omega) ?_)
    rw [rd_mid]
    refine ev_val (specMod_eq x 12) (Ev.bind (l8Num_ins out _ (by omega)) ?_)
    rw [wrap_succ (by omega), snoc_cons pre x t, ← length_snoc pre x]
    exact e
theorem specClassesOf_ev (l : List Int) (h : l.length ≤ 1048576) : Ev (fun k => spec_ClassesOf.f k l) (classesM l) := by
  simp only [spec_ClassesOf.f]
  exact specClasses_l0 l [] [] (by simpa using h) (by simp)
theorem sortCompact (k : Nat) (l : List Int) (h : l.length ≤ 1048576) : ((slices_Sort_int_int.f l).bind fun t => (slices_Compact_int_int.f k t).bind fun u => some u) = some (setN l) := by
  simp only [slices_Sort_int_int.f, slices_Compact_int_int.f]
  rw [if_pos (by omega), Option.bind_some, Option.bind_some, compact_sorted]
theorem implClasses_l0 (suf : List Int) : ∀ (pre out : List Int), (pre ++ suf).length ≤ 1048576 → out.length = pre.length → Ev (fun k => impl_ClassesOf.l0 k out (pre ++ suf) ((pre ++ suf).length : Int) (pre.length : Int)) (setN (out ++ suf.map fun p => modM p 12)) := by
  induction suf with
  | nil =>
    intro pre out h ho
    refine ev_tail ?_
    simp only [impl_ClassesOf.l0]
    refine ev_neg (by simp) ?_
    simp only [List.append_nil, List.length_append, List.length_nil] at h
    have hs := fun k => sortCompact k out (by omega)
    simp only [hs, List.map_nil, List.append_nil]
    exact Ev.now _
  | cons x t ih =>
    intro pre out h ho
    have e := ih (pre ++ [x]) (out ++ [modM x 12]) (by simpa using h) (by simp [ho])
    simp only [List.length_append, List.length_cons] at h
    refine ev_tail ?_
    simp only [impl_ClassesOf.l0]
    refine ev_pos (by simp; omega) (ev_pos (by omega) (ev_pos (by simp; omega) ?_))
    rw [rd_mid]
    refine ev_val (implMod_eq x 12) (ev_pos (by omega) ?_)
    rw [wrap_succ (by omega), snoc_cons pre x t, ← length_snoc pre x]
    refine ev_eq e ?_
    simp
theorem implClassesOf_ev (l : List Int) (h : l.length ≤ 1048576) : Ev (fun k => impl_ClassesOf.f k l) (classesM l) := by
  simp only [impl_ClassesOf.f]
  exact implClasses_l0 l [] [] (by simpa using h) rfl

def chordOK (a b : Int) : Bool := decide (0 ≤ a ∧ a ≤ 11 ∧ 1 ≤ b ∧ b ≤ 5)
theorem specIsChord_eq (a b : Int) : spec_IsChord.f a b = some (chordOK a b) := by
  simp only [spec_IsChord.f, l1In_eq, Option.bind_some, chordOK]
  by_cases h1 : 0 ≤ a <;> by_cases h2 : a ≤ 11 <;> by_cases h3 : 1 ≤ b <;> by_cases h4 : b ≤ 5 <;> simp [h1, h2, h3, h4]
theorem implIsChord_eq (a b : Int) : impl_IsChord.f a b = some (chordOK a b) := by
  simp only [impl_IsChord.f, InRange_eq, Option.bind_some, chordOK]
  by_cases h1 : 0 ≤ a <;> by_cases h2 : a ≤ 11 <;> by_cases h3 : 1 ≤ b <;> by_cases h4 : b ≤ 5 <;> simp [h1, h2, h3, h4]

def tabT : List (List Int) := [[0, 4, 7], [0, 3, 7], [0, 3, 6], [0, 4, 8], [0, 4, 7, 10]]
def halvesT (kd : Int) : List Int := rd_L2 tabT (kd - 1)
theorem halvesT_facts {kd : Int} (h : 1 ≤ kd ∧ kd ≤ 5) : (halvesT kd).length ≤ 4 ∧ ∀ x ∈ halvesT kd, 0 ≤ x ∧ x ≤ 10 := by
  have : kd = 1 ∨ kd = 2 ∨ kd = 3 ∨ kd = 4 ∨ kd = 5 := by omega
  rcases this with rfl | rfl | rfl | rfl | rfl <;> exact ⟨by decide, by decide⟩
def tonesM (r kd : Int) : List Int := if chordOK r kd = true then classesM ((halvesT kd).map fun h => r + h) else []
theorem chordOK_facts {a b : Int} (h : chordOK a b = true) : (0 ≤ a ∧ a ≤ 11) ∧ 1 ≤ b ∧ b ≤ 5 := by
  unfold chordOK at h
  simp only [decide_eq_true_eq] at h
  omega
theorem modM_nonneg {p : Int} (h : 0 ≤ p) (h2 : p ≤ 1000000) : modM p 12 = Int.tmod p 12 := by
  unfold modM
  rw [if_pos (by omega), Int.tmod_eq_emod_of_nonneg h, wrap_id (by omega) (by omega), Int.tmod_eq_emod_of_nonneg (by omega)]
  omega
theorem tonesM_length (r kd : Int) : (tonesM r kd).length ≤ 4 := by
  unfold tonesM
  split
  · rename_i h
    have h1 := classesM_length ((halvesT kd).map fun h => r + h)
    have h2 := (halvesT_facts (chordOK_facts h).2).1
    rw [List.length_map] at h1
    omega
  · simp
theorem specTones_l0 (r kd : Int) (hr : 0 ≤ r ∧ r ≤ 11) (suf : List Int) : ∀ (pre out : List Int), (pre ++ suf).length ≤ 1048576 → out.length ≤ pre.length → (∀ x ∈ suf, 0 ≤ x ∧ x ≤ 10) → Ev (fun k => spec_TonesOf.l0 k out (pre ++ suf) (pre.length : Int) r kd) (((suf.map fun h => r + h).map fun p => modM p 12).foldl insN out) := by
  induction suf with
  | nil =>
    intro pre out h ho _
    refine ev_tail ?_
    simp only [spec_TonesOf.l0]
    exact ev_neg (by simp) (Ev.now _)
  | cons x t ih =>
    intro pre out h ho hx
    have hxx := hx x (by simp)
    have hi := insN_length out (modM (r + x) 12)
    have e := ih (pre ++ [x]) (insN out (modM (r + x) 12)) (by simpa using h) (by simp; omega) (fun y hy => hx y (by simp [hy]))
    simp only [List.length_append, List.length_cons] at h
    refine ev_tail ?_
    simp only [spec_TonesOf.l0]
    refine ev_pos (by simp; omega) (ev_pos (by omega) ?_)
    rw [rd_mid, wrap_id (n := r + x) (by omega) (by omega), ← modM_nonneg (by omega) (by omega)]
    refine Ev.bind (l8Num_ins out _ (by omega)) ?_
    rw [wrap_succ (by omega), snoc_cons pre x t, ← length_snoc pre x]
    exact e
theorem spec_halves_eq {kd : Int} (h : 1 ≤ kd ∧ kd ≤ 5) : spec_l22Halves.f kd = some (halvesT kd) := by
  unfold spec_l22Halves.f
  rw [Option.bind_some, wrap_id (by omega) (by omega), if_pos (by omega), if_pos (by simp; omega)]
  rfl
theorem specTonesOf_ev (r kd : Int) : Ev (fun k => spec_TonesOf.f k r kd) (tonesM r kd) := by
  simp only [spec_TonesOf.f, Option.bind_some]
  refine ev_val (specIsChord_eq r kd) (ev_ite (fun h => ?_) (fun h => ?_))
  · obtain ⟨h1, h2⟩ := chordOK_facts h
    obtain ⟨h3, h4⟩ := halvesT_facts h2
    refine ev_val (spec_halves_eq h2) ?_
    rw [tonesM, if_pos h]
    exact specTones_l0 r kd h1 (halvesT kd) [] [] (by simp; omega) (by simp) h4
  · rw [tonesM, if_neg h]; exact Ev.now _
theorem implTones_l0 (r kd : Int) (hr : 0 ≤ r ∧ r ≤ 11) (suf : List Int) : ∀ (pre out : List Int), (pre ++ suf).length ≤ 1048576 → out.length = pre.length → (∀ x ∈ suf, 0 ≤ x ∧ x ≤ 10) → Ev (fun k => impl_TonesOf.l0 k out (pre ++ suf) ((pre ++ suf).length : Int) (pre.length : Int) r kd) (classesM (out ++ suf.map fun h => r + h)) := by
  induction suf with
  | nil =>
    intro pre out h ho _
    refine ev_tail ?_
    simp only [impl_TonesOf.l0]
    refine ev_neg (by simp) ?_
    simp only [List.append_nil, List.length_append, List.length_nil] at h
    rw [List.map_nil, List.append_nil]
    exact Ev.bind (implClassesOf_ev out (by omega)) (Ev.now _)
  | cons x t ih =>
    intro pre out h ho hx
    have hxx := hx x (by simp)
    have e := ih (pre ++ [x]) (out ++ [r + x]) (by simpa using h) (by simp [ho]) (fun y hy => hx y (by simp [hy]))
    simp only [List.length_append, List.length_cons] at h
    refine ev_tail ?_
    simp only [impl_TonesOf.l0]
    refine ev_pos (by simp; omega) (ev_pos (by omega) (ev_pos (by simp; omega) (ev_pos (by omega) ?_)))
    rw [rd_mid, wrap_id (n := r + x) (by omega) (by omega), wrap_succ (by omega), snoc_cons pre x t, ← length_snoc pre x]
    refine ev_eq e ?_
    simp
theorem implTonesOf_ev (r kd : Int) : Ev (fun k => impl_TonesOf.f k r kd) (tonesM r kd) := by
  simp only [impl_TonesOf.f, Option.bind_some]
  refine ev_val (implIsChord_eq r kd) (ev_ite (fun h => ?_) (fun h => ?_))
  · obtain ⟨h1, h2⟩ := chordOK_facts h
    obtain ⟨h3, h4⟩ := halvesT_facts h2
    rw [tonesM, if_pos h, wrap_id (n := kd - 1) (by omega) (by omega)]
    refine ev_pos (by omega) (ev_pos (by simp; omega) ?_)
    exact implTones_l0 r kd h1 (halvesT kd) [] [] (by simp; omega) rfl h4
  · rw [tonesM, if_neg h]; exact Ev.now _

theorem eqChord_eq (a b : Int) : laws_eqChord.f a b a b = some true := by simp [laws_eqChord.f]
theorem specEqualInts_l0 (sa : List Int) : ∀ (pa pb sb : List Int), pa.length = pb.length → sa.length = sb.length → (pa ++ sa).length ≤ 35184372088832 → Ev (fun k => spec_EqualInts.l0 k (pa ++ sa) (pb ++ sb) (pa.length : Int)) (decide (sa = sb)) := by
  induction sa with
  | nil =>
    intro pa pb sb h1 h2 h
    obtain rfl : sb = [] := List.length_eq_zero_iff.1 (by simpa using h2.symm)
    refine ev_tail ?_
    simp only [spec_EqualInts.l0]
    exact ev_neg (by simp) (ev_eq (Ev.now _) (by simp))
  | cons x t ih =>
    intro pa pb sb h1 h2 h
    cases sb with
    | nil => simp at h2
    | cons y s =>
      have e := ih (pa ++ [x]) (pb ++ [y]) s (by simp [h1]) (by simpa using h2) (by simpa using h)
      simp only [List.length_append, List.length_cons] at h h2
      refine ev_tail ?_
      simp only [spec_EqualInts.l0]
      refine ev_pos (by simp; omega) (ev_pos (by omega) (ev_pos (by simp; omega) ?_))
      have r2 : rd (pb ++ y :: s) (pa.length : Int) = y := by rw [h1]; exact rd_mid pb y s
      rw [rd_mid, r2]
      refine ev_ite (fun c => ?_) (fun c => ?_)
      · rw [wrap_succ (by omega), snoc_cons pa x t, snoc_cons pb y s, ← length_snoc pa x]
        refine ev_eq e (decide_eq_decide.2 ?_)
        subst c; simp
      · exact ev_eq (Ev.now _) (decide_eq_false (by simp [c])).symm
theorem specEqualInts_ev (a b : List Int) (h : a.length ≤ 35184372088832) : Ev (fun k => spec_EqualInts.f k a b) (decide (a = b)) := by
  simp only [spec_EqualInts.f]
  refine ev_ite (fun c => ?_) (fun c => ?_)
  · exact specEqualInts_l0 a [] [] b rfl (by omega) (by simpa using h)
  · exact ev_eq (Ev.now _) (decide_eq_false (fun e => c (by rw [e]))).symm
theorem implEqual_l0 (sa : List Int) : ∀ (pa pb sb : List Int), pa.length = pb.length → sa.length = sb.length → (pa ++ sa).length ≤ 35184372088832 → Ev (fun k => slices_Equal_int_int.l0 k (pa ++ sa) (pb ++ sb) ((pa ++ sa).length : Int) (pa.length : Int)) (decide (sa = sb)) := by
  induction sa with
  | nil =>
    intro pa pb sb h1 h2 h
    obtain rfl : sb = [] := List.length_eq_zero_iff.1 (by simpa using h2.symm)
    refine ev_tail ?_
    simp only [slices_Equal_int_int.l0]
    exact ev_neg (by simp) (ev_eq (Ev.now _) (by simp))
  | cons x t ih =>
    intro pa pb sb h1 h2 h
    cases sb with
    | nil => simp at h2
    | cons y s =>
      have e := ih (pa ++ [x]) (pb ++ [y]) s (by simp [h1]) (by simpa using h2) (by simpa using h)
      simp only [List.length_append, List.length_cons] at h h2
      refine ev_tail ?_
      simp only [slices_Equal_int_int.l0]
      refine ev_pos (by simp; omega) (ev_pos (by omega) (ev_pos (by simp; omega) (ev_pos (by simp; omega) ?_)))
      have r2 : rd (pb ++ y :: s) (pa.length : Int) = y := by rw [h1]; exact rd_mid pb y s
      rw [rd_mid, r2]
      refine ev_ite (fun c => ?_) (fun c => ?_)
      · rw [wrap_succ (by omega), snoc_cons pa x t, snoc_cons pb y s, ← length_snoc pa x]
        refine ev_eq e (decide_eq_decide.2 ?_)
        subst c; simp
      · exact ev_eq (Ev.now _) (decide_eq_false (by simp [c])).symm
theorem implEqual_ev (a b : List Int) (h : a.length ≤ 35184372088832) : Ev (fun k => slices_Equal_int_int.f k a b) (decide (a = b)) := by
  simp only [slices_Equal_int_int.f]
  refine ev_ite (fun c => ?_) (fun c => ?_)
  · exact implEqual_l0 a [] [] b rfl (by omega) (by simpa using h)
  · exact ev_eq (Ev.now _) (decide_eq_false (fun e => c (by rw [e]))).symm
/-- The roots from r on, n of them; then what stands behind. -/
def chRow (cl : List Int) (kd : Int) (fin : Int × Int × Bool) : Nat → Int → Int × Int × Bool
  | 0, _ => fin
  | n + 1, r => if tonesM r kd = cl then (r, kd, true) else chRow cl kd fin n (r + 1)
def chAll (cl : List Int) : Nat → Int → Int × Int × Bool
  | 0, _ => (0, 0, false)
  | n + 1, kd => chRow cl kd (chAll cl n (kd + 1)) 12 0
def chordM (cl : List Int) : Int × Int × Bool := chAll cl 5 1
theorem specChord_l1 (cl : List Int) (kd : Int) (fin : Int × Int × Bool) (hk : 1 ≤ kd ∧ kd ≤ 5) (hf : Ev (fun k => spec_ChordOf.l0 k cl (kd + 1)) fin) : ∀ (n : Nat) (r : Int), r + n = 12 → 0 ≤ r → Ev (fun k => spec_ChordOf.l1 k cl kd r) (chRow cl kd fin n r) := by
  intro n
  induction n with
  | zero =>
    intro r h h0
    refine ev_tail ?_
    simp only [spec_ChordOf.l1, chRow]
    refine ev_neg (by omega) ?_
    rw [wrap_id (by omega) (by omega)]
    exact hf
  | succ n ih =>
    intro r h h0
    have e := ih (r + 1) (by omega) (by omega)
    have hl := tonesM_length r kd
    refine ev_tail ?_
    simp only [spec_ChordOf.l1, chRow]
    refine ev_pos (by omega) (Ev.bind (specTonesOf_ev r kd) (Ev.bind (specEqualInts_ev _ _ (by omega)) ?_))
    refine ev_ite (fun c => ?_) (fun c => ?_)
    · rw [if_pos (by simpa using c)]; exact Ev.now _
    · rw [if_neg (by simpa using c), wrap_id (by omega) (by omega)]; exact e
theorem specChord_l0 (cl : List Int) : ∀ (n : Nat) (kd : Int), kd + n = 6 → 1 ≤ kd → Ev (fun k => spec_ChordOf.l0 k cl kd) (chAll cl n kd) := by
  intro n
  induction n with
  | zero =>
    intro kd h h0
    refine ev_tail ?_
    simp only [spec_ChordOf.l0, chAll]
    exact ev_neg (by omega) (Ev.now _)
  | succ n ih =>
    intro kd h h0
    have e := ih (kd + 1) (by omega) (by omega)
    refine ev_tail ?_
    simp only [spec_ChordOf.l0, chAll]
    exact ev_pos (by omega) (specChord_l1 cl kd _ (by omega) e 12 0 (by omega) (by omega))
theorem specChordOf_ev (cl : List Int) : Ev (fun k => spec_ChordOf.f k cl) (chordM cl) := by
  simp only [spec_ChordOf.f]
  exact specChord_l0 cl 5 1 (by omega) (by omega)
theorem implChord_l1 (cl : List Int) (kd : Int) (fin : Int × Int × Bool) (hk : 1 ≤ kd ∧ kd ≤ 5) (hf : Ev (fun k => impl_ChordOf.l0 k cl (kd + 1)) fin) : ∀ (n : Nat) (r : Int), r + n = 12 → 0 ≤ r → Ev (fun k => impl_ChordOf.l1 k cl kd r) (chRow cl kd fin n r) := by
  intro n
  induction n with
  | zero =>
    intro r h h0
    refine ev_tail ?_
    simp only [impl_ChordOf.l1, chRow]
    refine ev_neg (by omega) ?_
    rw [wrap_id (by omega) (by omega)]
    exact hf
  | succ n ih =>
    intro r h h0
    have e := ih (r + 1) (by omega) (by omega)
    have hl := tonesM_length r kd
    refine ev_tail ?_
    simp only [impl_ChordOf.l1, chRow]
    refine ev_pos (by omega) (Ev.bind (implTonesOf_ev r kd) (Ev.bind (implEqual_ev _ _ (by omega)) ?_))
    refine ev_ite (fun c => ?_) (fun c => ?_)
    · rw [if_pos (by simpa using c)]; exact Ev.now _
    · rw [if_neg (by simpa using c), wrap_id (by omega) (by omega)]; exact e
theorem implChord_l0 (cl : List Int) : ∀ (n : Nat) (kd : Int), kd + n = 6 → 1 ≤ kd → Ev (fun k => impl_ChordOf.l0 k cl kd) (chAll cl n kd) := by
  intro n
  induction n with
  | zero =>
    intro kd h h0
    refine ev_tail ?_
    simp only [impl_ChordOf.l0, chAll]
    exact ev_neg (by omega) (Ev.now _)
  | succ n ih =>
    intro kd h h0
    have e := ih (kd + 1) (by omega) (by omega)
    refine ev_tail ?_
    simp only [impl_ChordOf.l0, chAll]
    exact ev_pos (by omega) (implChord_l1 cl kd _ (by omega) e 12 0 (by omega) (by omega))
theorem implChordOf_ev (cl : List Int) : Ev (fun k => impl_ChordOf.f k cl) (chordM cl) := by
  simp only [impl_ChordOf.f]
  exact implChord_l0 cl 5 1 (by omega) (by omega)

/-- Does an event sound at a tick? -/
def sounds (e : S68) (t : Int) : Bool := decide (e.f0 ≤ t ∧ t < wrap64 (e.f0 + e.f1))
theorem sounds_eq (e : S68) (t : Int) : impl_Event_sounds.f e.f0 e.f1 e.f2 e.f3 t = some (sounds e t) := by
  simp only [impl_Event_sounds.f, sounds]
  by_cases h : e.f0 ≤ t
  · rw [if_pos h]; simp [h]
  · rw [if_neg h]; simp [h]

theorem setN_snoc (l : List Int) (n : Int) : setN (l ++ [n]) = insN (setN l) n := by simp [setN]
def sdSet (l : List S68) (t : Int) (i : Int) (out : List Int) : List Int := if sounds (rd_T68 l i) t = true then insN out (rd_T68 l i).f2 else out
def sdAll (l : List S68) (t : Int) (i : Int) (out : List Int) : List Int := if sounds (rd_T68 l i) t = true then out ++ [(rd_T68 l i).f2] else out
theorem sdAll_set (l : List S68) (t : Int) (d : Nat) : ∀ (i : Nat) (out : List Int), setN (foldM (sdAll l t) d i out) = foldM (sdSet l t) d i (setN out) := by
  induction d with
  | zero => intro i out; rfl
  | succ d ih =>
    intro i out
    simp only [foldM]
    rw [ih]
    congr 1
    unfold sdAll sdSet
    split
    · exact setN_snoc out _
    · rfl
def soundsM (l : List S68) (t : Int) : List Int := if scoreM l = true then setN (foldM (sdAll l t) l.length 0 []) else []
theorem sdAll_length (l : List S68) (t : Int) (d : Nat) : ∀ (i : Nat) (out : List Int), (foldM (sdAll l t) d i out).length ≤ out.length + d := by
  induction d with
  | zero => intro i out; simp [foldM]
  | succ d ih =>
    intro i out
    simp only [foldM]
    have := ih (i + 1) (sdAll l t (i : Int) out)
    have h : (sdAll l t (i : Int) out).length ≤ out.length + 1 := by unfold sdAll; split <;> simp
    omega
theorem soundsM_length (l : List S68) (t : Int) : (soundsM l t).length ≤ l.length := by
  unfold soundsM
  split
  · have h1 := setN_length (foldM (sdAll l t) l.length 0 [])
    have h2 := sdAll_length l t l.length 0 []
    simp only [List.length_nil] at h2
    omega
  · simp
theorem specSoundsAt_ev (l : List S68) (t : Int) (h : l.length ≤ 1048576) : Ev (fun k => spec_SoundsAt.f k l t) (soundsM l t) := by
  simp only [spec_SoundsAt.f, soundsM]
  have hs := specIsScore_ev l h
  by_cases hsc : scoreM l = true
  · rw [if_pos hsc, sdAll_set]
    rw [hsc] at hs
    refine ev_fold (L := fun k p i => spec_SoundsAt.l0 k l t p i) (st := sdSet l t) (fin := id) (n := l.length) (s0 := 0) (fun i out => out.length ≤ i) (fun i out _ hi ho => ?_) (fun i p _ hi ho r e => ?_) (fun p _ => ?_) l.length 0 (setN []) (by omega) (by omega) (by simp [setN])
    · have := insN_length out (rd_T68 l (i : Int)).f2
      unfold sdSet
      split <;> omega
    · have w1 : Aside0 (wrap64 ((i : Int) + 1) = (i : Int) + 1) := ⟨wrap_id (by omega) (by omega)⟩
      refine ev_tail ?_
      simp only [spec_SoundsAt.l0]
      refine ev_pos (by omega) (Ev.bind hs (ev_tail ?_))
      simp only [spec_SoundsAt.j1, w1.out]
      refine ev_pos (by trivial) (ev_pos (by omega) (ev_pos (by omega) ?_))
      unfold sdSet sounds at e
      refine ev_ite (fun c2 => ev_ite (fun c3 => ?_) (fun c3 => ?_)) (fun c2 => ?_)
      · rw [if_pos (by simpa using ⟨c2, c3⟩)] at e
        exact Ev.bind (l8Num_ins p _ (by omega)) e
      · rw [if_neg (fun z => c3 (by simpa using (of_decide_eq_true z).2))] at e; exact e
      · rw [if_neg (fun z => c2 (of_decide_eq_true z).1)] at e; exact e
    · refine ev_tail ?_
      simp only [spec_SoundsAt.l0]
      refine ev_neg (by omega) (ev_tail ?_)
      simp only [spec_SoundsAt.j1]
      exact ev_neg (by simp) (Ev.now _)
  · rw [if_neg hsc]
    rw [Bool.eq_false_iff.mpr hsc] at hs
    refine ev_tail ?_
    simp only [spec_SoundsAt.l0]
    refine ev_ite (fun _ => Ev.bind hs (ev_tail ?_)) (fun _ => ev_tail ?_)
    · simp only [spec_SoundsAt.j1]
      exact ev_neg (by simp) (Ev.now _)
    · simp only [spec_SoundsAt.j1]
      exact ev_neg (by simp) (Ev.now _)
theorem implSoundsAt_ev (l : List S68) (t : Int) (h : l.length ≤ 1048576) : Ev (fun k => impl_SoundsAt.f k l t) (soundsM l t) := by
  simp only [impl_SoundsAt.f, soundsM, Option.bind_some]
  refine Ev.bind (implIsScore_ev l h) (ev_ite (fun hsc => ?_) (fun hsc => ?_))
  · rw [if_pos hsc]
    refine ev_fold (L := fun k p i => impl_SoundsAt.l0 k t p l (l.length : Int) i) (st := sdAll l t) (fin := setN) (n := l.length) (s0 := 0) (fun i out => out.length ≤ i) (fun i out _ hi ho => ?_) (fun i p _ hi ho r e => ?_) (fun p ho => ?_) l.length 0 [] (by omega) (by omega) (by simp)
    · unfold sdAll
      split
      · simp only [List.length_append, List.length_cons, List.length_nil]; omega
      · omega
    · have w1 : Aside0 (wrap64 ((i : Int) + 1) = (i : Int) + 1) := ⟨wrap_id (by omega) (by omega)⟩
      refine ev_tail ?_
      simp only [impl_SoundsAt.l0, w1.out]
      refine ev_pos (by omega) (ev_pos (by omega) (ev_pos (by omega) (ev_val (sounds_eq _ t) ?_)))
      unfold sdAll at e
      refine ev_ite (fun c => ?_) (fun c => ?_)
      · rw [if_pos c] at e; exact ev_pos (by omega) e
      · rw [if_neg c] at e; exact e
    · refine ev_tail ?_
      simp only [impl_SoundsAt.l0]
      refine ev_neg (by omega) ?_
      have hs := fun k => sortCompact k p (by omega)
      simp only [hs]
      exact Ev.now _
  · rw [if_neg hsc]
    exact Ev.now _

theorem FnExactChordAt : ∀ (l0 : List (S70)) (a1 : Int), (l0.length ≤ maxLen) → (∀ x ∈ l0, ((Lit.int .i64 x.f0).wf = true) ∧ ((Lit.int .i64 x.f1).wf = true) ∧ ((Lit.int .i64 x.f2).wf = true) ∧ ((Lit.int .i64 x.f3).wf = true)) → (Lit.int .i64 a1).wf = true → ∃ k, laws_FnExactChordAt.f k l0 a1 = some true := by
  intro l t hl _ _
  refine Ev.rounds ?_
  simp only [laws_FnExactChordAt.f]
  obtain ⟨r, hr, hb⟩ := szEventS_some l hl
  refine ev_val hr (ev_ite (fun _ => Ev.now _) (fun h => ?_))
  have hn := hb h
  have hm : (l.map cvEvent).length ≤ 1048576 := by rw [List.length_map]; exact hn
  have hs := soundsM_length (l.map cvEvent) t
  have s1 : Ev (fun k => spec_ChordAt.f k (l.map cvEvent) t) (chordM (classesM (soundsM (l.map cvEvent) t))) := by
    simp only [spec_ChordAt.f]
    exact Ev.bind (specSoundsAt_ev _ t hm) (Ev.bind (specClassesOf_ev _ (by omega)) (Ev.bind (specChordOf_ev _) (Ev.now _)))
  have i1 : Ev (fun k => impl_ChordAt.f k (l.map cvEvent) t) (chordM (classesM (soundsM (l.map cvEvent) t))) := by
    simp only [impl_ChordAt.f]
    exact Ev.bind (implSoundsAt_ev _ t hm) (Ev.bind (implClassesOf_ev _ (by omega)) (Ev.bind (implChordOf_ev _) (Ev.now _)))
  refine Ev.bind (toEventS_ev l hn) (Ev.bind s1 (Ev.bind (toEventS_ev l hn) (Ev.bind i1 (ev_val (eqChord_eq _ _) (ev_pos (by trivial) (ev_tail ?_))))))
  simp only [laws_FnExactChordAt.j0]
  refine ev_neg (by simp) ?_
  exact Ev.bind (toEventS_ev l hn) (Ev.bind (eqEventS_ev _ hm) (ev_pos (by trivial) (Ev.now _)))
end Go.Proofs.Ytpdhhpgdjbeaeaa.Pure
