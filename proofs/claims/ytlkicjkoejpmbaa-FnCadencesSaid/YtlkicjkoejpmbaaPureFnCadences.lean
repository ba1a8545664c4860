/-
Cadences sound the same in every key: the law answers true for whatever bytes it draws from.
Conditions: none.
-/
import Derived.Test.YtlkicjkoejpmbaaPFnCadencesx9
import Derived.Test.YtlkicjkoejpmbaaBase
namespace Go.Proofs.Ytlkicjkoejpmbaa.Pure
open Go.RowKit Go.Proofs.Ytlkicjkoejpmbaa.PFnCadences Go.Proofs.YtlkicjkoejpmbaaW.PrintWords Go.Proofs.YtlkicjkoejpmbaaW.PrintLast Go.Proofs.YtlkicjkoejpmbaaW.PrintMore Go.Proofs.Ytlkicjkoejpmbaa.Base
set_option linter.unusedVariables false
set_option linter.unusedSimpArgs false

theorem l1In_eq (a b c : Int) : spec_l1In.f a b c = some (decide (b ≤ a ∧ a ≤ c)) := by
  unfold spec_l1In.f
  by_cases h1 : b ≤ a <;> by_cases h2 : a ≤ c <;> simp [h1, h2]
theorem InRange_eq (a b c : Int) : impl_InRange.f a b c = some (decide (b ≤ a ∧ a ≤ c)) := by
  unfold impl_InRange.f
  by_cases h1 : b ≤ a <;> by_cases h2 : a ≤ c <;> simp [h1, h2]

def modM (p q : Int) : Int := if 1 ≤ q ∧ q ≤ 1000000000000 then Int.tmod (wrap64 (Int.tmod p q + q)) q else 0
theorem specMod_eq (p q : Int) : spec_Mod.f p q = some (modM p q) := by
  simp only [spec_Mod.f, l1In_eq, Option.bind_some, modM]
  by_cases h : 1 ≤ q ∧ q ≤ 1000000000000
  · rw [if_pos (by simpa using h), if_neg (by omega), if_pos h]
  · rw [if_neg (by simpa using h), if_neg h]
theorem implMod_eq (p q : Int) : impl_Mod.f p q = some (modM p q) := by
  simp only [impl_Mod.f, InRange_eq, Option.bind_some, modM]
  by_cases h : 1 ≤ q ∧ q ≤ 1000000000000
  · rw [if_pos (by simpa using h), if_neg (by omega), if_pos h]
  · rw [if_neg (by simpa using h), if_neg h]

/-- A number behind the last, if it is another. -/
def addN (out : List Int) (n : Int) : List Int := if out.getLast? = some n then out else out ++ [n]
def cp (xs : List Int) : List Int := xs.foldl addN []
theorem cp_snoc (xs : List Int) (n : Int) : cp (xs ++ [n]) = addN (cp xs) n := by simp [cp]
theorem addN_last (out : List Int) (n : Int) : (addN out n).getLast? = some n := by
  unfold addN
  split
  · assumption
  · simp
theorem cp_last (xs : List Int) : (cp xs).getLast? = xs.getLast? := by
  rcases List.eq_nil_or_concat xs with h | ⟨t, n, h⟩
  · subst h; rfl
  · rw [h, List.concat_eq_append, cp_snoc, addN_last]; simp
theorem compact_snoc (xs : List Int) (n : Int) : Go.Lib.compact (xs ++ [n]) = if xs.getLast? = some n then Go.Lib.compact xs else Go.Lib.compact xs ++ [n] := by
  have hk : ∀ j, j < xs.length → Go.Lib.keeps (xs ++ [n]).toArray j = Go.Lib.keeps xs.toArray j := by
    intro j hj
    unfold Go.Lib.keeps
    have e1 : (xs ++ [n]).toArray[j]! = xs.toArray[j]! := by
      rw [getElem!_pos (xs ++ [n]).toArray j (by simp; omega), getElem!_pos xs.toArray j (by simpa using hj)]
      simp [List.getElem_append_left hj]
    have e2 : (xs ++ [n]).toArray[j - 1]! = xs.toArray[j - 1]! := by
      rw [getElem!_pos (xs ++ [n]).toArray (j - 1) (by simp; omega), getElem!_pos xs.toArray (j - 1) (by simp; omega)]
      simp [List.getElem_append_left (show j - 1 < xs.length by omega)]
    rw [e1, e2]
  have hv : ∀ j, j < xs.length → (xs ++ [n]).toArray[j]! = xs.toArray[j]! := by
    intro j hj
    rw [getElem!_pos (xs ++ [n]).toArray j (by simp; omega), getElem!_pos xs.toArray j (by simpa using hj)]
    simp [List.getElem_append_left hj]
  have hlast : Go.Lib.keeps (xs ++ [n]).toArray xs.length = decide (¬ xs.getLast? = some n) := by
    unfold Go.Lib.keeps
    refine decide_eq_decide.mpr ?_
    rcases List.eq_nil_or_concat xs with h | ⟨t, m, h⟩
    · subst h; simp
    · rw [List.concat_eq_append] at h
      subst h
      have e1 : (t ++ [m] ++ [n]).toArray[(t ++ [m]).length]! = n := by
        rw [getElem!_pos (t ++ [m] ++ [n]).toArray (t ++ [m]).length (by simp)]
        simp
      have e2 : (t ++ [m] ++ [n]).toArray[(t ++ [m]).length - 1]! = m := by
        rw [getElem!_pos (t ++ [m] ++ [n]).toArray ((t ++ [m]).length - 1) (by simp)]
        simp
      rw [e1, e2]
      simp only [List.length_append, List.length_cons, List.length_nil, List.getLast?_append, List.getLast?_singleton, Option.some_or, Option.some.injEq]
      constructor
      · rintro (h | h)
        · omega
        · exact fun e => h e.symm
      · exact fun h => .inr fun e => h e.symm
  have hfil : (List.range xs.length).filter (Go.Lib.keeps (xs ++ [n]).toArray) = (List.range xs.length).filter (Go.Lib.keeps xs.toArray) :=
    List.filter_congr fun j hj => hk j (List.mem_range.1 hj)
  have hmap : ((List.range xs.length).filter (Go.Lib.keeps xs.toArray)).map ((xs ++ [n]).toArray[·]!) = ((List.range xs.length).filter (Go.Lib.keeps xs.toArray)).map (xs.toArray[·]!) :=
    List.map_congr_left fun j hj => hv j (List.mem_range.1 (List.mem_filter.1 hj).1)
  have hn : (xs ++ [n]).toArray[xs.length]! = n := by
    rw [getElem!_pos (xs ++ [n]).toArray xs.length (by simp)]
    simp
  unfold Go.Lib.compact Go.Lib.compactUpTo
  rw [show (xs ++ [n]).length = xs.length + 1 by simp, List.range_succ, List.filter_append, List.map_append, hfil, hmap]
  by_cases h : xs.getLast? = some n
  · rw [if_pos h]
    simp [hlast, h]
  · rw [if_neg h]
    simp [hlast, h, hn]
theorem compact_cp (xs : List Int) : Go.Lib.compact xs = cp xs := by
  suffices h : ∀ m (xs : List Int), xs.length = m → Go.Lib.compact xs = cp xs from h _ xs rfl
  intro m
  induction m with
  | zero =>
    intro xs h
    obtain rfl := List.length_eq_zero_iff.1 h
    rfl
  | succ m ih =>
    intro xs h
    rcases List.eq_nil_or_concat xs with h' | ⟨t, n, h'⟩
    · subst h'; simp at h
    · rw [List.concat_eq_append] at h'
      subst h'
      rw [compact_snoc, cp_snoc, ih t (by simpa using h), addN, cp_last]

/-- A number into an ascending list. -/
def insN : List Int → Int → List Int
  | [], n => [n]
  | x :: t, n => if x < n then x :: insN t n else if x = n then x :: t else n :: x :: t
theorem insN_mem (l : List Int) (n y : Int) : y ∈ insN l n ↔ y ∈ l ∨ y = n := by
  induction l with
  | nil => simp [insN]
  | cons x t ih =>
    simp only [insN]
    split
    · simp only [List.mem_cons, ih]
      constructor
      · rintro (h | h | h) <;> simp [h]
      · rintro ((h | h) | h) <;> simp [h]
    · split
      · rename_i h; subst h
        simp only [List.mem_cons]
        constructor
        · exact fun h => .inl h
        · rintro (h | h)
          · exact h
          · exact .inl h
      · simp only [List.mem_cons]
        constructor
        · rintro (h | h | h) <;> simp [h]
        · rintro ((h | h) | h) <;> simp [h]
theorem insN_asc (l : List Int) (n : Int) (h : l.Pairwise (· < ·)) : (insN l n).Pairwise (· < ·) := by
  induction l with
  | nil => simp [insN]
  | cons x t ih =>
    obtain ⟨h1, h2⟩ := List.pairwise_cons.1 h
    simp only [insN]
    split
    · rename_i hx
      refine List.pairwise_cons.2 ⟨fun y hy => ?_, ih h2⟩
      rcases (insN_mem t n y).1 hy with hy | hy
      · exact h1 y hy
      · rw [hy]; exact hx
    · split
      · exact h
      · refine List.pairwise_cons.2 ⟨fun y hy => ?_, h⟩
        rcases List.mem_cons.1 hy with hy | hy
        · omega
        · have := h1 y hy; omega
theorem insN_length (l : List Int) (n : Int) : (insN l n).length ≤ l.length + 1 := by
  induction l with
  | nil => simp [insN]
  | cons x t ih =>
    simp only [insN]
    split
    · simp only [List.length_cons]; omega
    · split <;> simp
/-- The set of a list's numbers, ascending. -/
def setN (l : List Int) : List Int := l.foldl insN []
theorem foldl_insN (l : List Int) : ∀ out : List Int, out.Pairwise (· < ·) → (l.foldl insN out).Pairwise (· < ·) ∧ (∀ y, y ∈ l.foldl insN out ↔ y ∈ out ∨ y ∈ l) ∧ (l.foldl insN out).length ≤ out.length + l.length := by
  induction l with
  | nil => intro out h; exact ⟨h, fun y => by simp, by simp⟩
  | cons x t ih =>
    intro out h
    obtain ⟨h1, h2, h3⟩ := ih (insN out x) (insN_asc out x h)
    have := insN_length out x
    refine ⟨h1, fun y => ?_, by simp only [List.foldl_cons, List.length_cons]; omega⟩
    rw [List.foldl_cons, h2, insN_mem, List.mem_cons]
    constructor
    · rintro ((h | h) | h) <;> simp [h]
    · rintro (h | h | h) <;> simp [h]
theorem setN_asc (l : List Int) : (setN l).Pairwise (· < ·) := (foldl_insN l [] List.Pairwise.nil).1
theorem setN_mem (l : List Int) (y : Int) : y ∈ setN l ↔ y ∈ l := by
  have := (foldl_insN l [] List.Pairwise.nil).2.1 y
  simpa [setN] using this
theorem setN_length (l : List Int) : (setN l).length ≤ l.length := by
  have := (foldl_insN l [] List.Pairwise.nil).2.2
  simpa [setN] using this
/-- Ascending lists of the same numbers are one. -/
theorem asc_ext (a : List Int) : ∀ b : List Int, a.Pairwise (· < ·) → b.Pairwise (· < ·) → (∀ y, y ∈ a ↔ y ∈ b) → a = b := by
  induction a with
  | nil =>
    intro b _ _ h
    cases b with
    | nil => rfl
    | cons y t => have := (h y).2 (by simp); cases this
  | cons x t ih =>
    intro b ha hb h
    cases b with
    | nil => have := (h x).1 (by simp); cases this
    | cons y s =>
      obtain ⟨a1, a2⟩ := List.pairwise_cons.1 ha
      obtain ⟨b1, b2⟩ := List.pairwise_cons.1 hb
      have hx : x = y := by
        rcases List.mem_cons.1 ((h x).1 (by simp)) with e | e
        · exact e
        · rcases List.mem_cons.1 ((h y).2 (by simp)) with f | f
          · exact f.symm
          · have := b1 x e; have := a1 y f; omega
      subst hx
      rw [ih s a2 b2 (fun z => ?_)]
      constructor
      · intro hz
        rcases List.mem_cons.1 ((h z).1 (by simp [hz])) with e | e
        · have := a1 z hz; omega
        · exact e
      · intro hz
        rcases List.mem_cons.1 ((h z).2 (by simp [hz])) with e | e
        · have := b1 z hz; omega
        · exact e
theorem cp_sorted (l : List Int) : l.Pairwise (· ≤ ·) → (cp l).Pairwise (· < ·) ∧ ∀ y, y ∈ cp l ↔ y ∈ l := by
  suffices h : ∀ m (xs : List Int), xs.length = m → xs.Pairwise (· ≤ ·) → (cp xs).Pairwise (· < ·) ∧ ∀ y, y ∈ cp xs ↔ y ∈ xs from h _ l rfl
  intro m
  induction m with
  | zero =>
    intro xs h _
    obtain rfl := List.length_eq_zero_iff.1 h
    exact ⟨List.Pairwise.nil, fun y => by simp [cp]⟩
  | succ m ih =>
    intro xs h hp
    rcases List.eq_nil_or_concat xs with h' | ⟨t, n, h'⟩
    · subst h'; simp at h
    · rw [List.concat_eq_append] at h'
      subst h'
      obtain ⟨p1, p2, p3⟩ := List.pairwise_append.1 hp
      obtain ⟨i1, i2⟩ := ih t (by simpa using h) p1
      have hn : ∀ x ∈ t, x ≤ n := fun x hx => p3 x hx n (by simp)
      rw [cp_snoc]
      unfold addN
      rw [cp_last]
      by_cases e : t.getLast? = some n
      · rw [if_pos e]
        refine ⟨i1, fun y => ?_⟩
        rw [i2, List.mem_append, List.mem_singleton]
        constructor
        · exact fun h => .inl h
        · rintro (h | h)
          · exact h
          · rw [h]; exact List.mem_of_getLast? e
      · rw [if_neg e]
        refine ⟨List.pairwise_append.2 ⟨i1, by simp, fun x hx y hy => ?_⟩, fun y => by simp [i2]⟩
        rw [List.mem_singleton.1 hy]
        have hx' := (i2 x).1 hx
        have h1 := hn x hx'
        rcases Int.lt_or_eq_of_le h1 with h2 | h2
        · exact h2
        · exfalso
          subst h2
          -- x is in t and every later one is at least x: the last is x
          have hne : t ≠ [] := by intro h; subst h; cases hx'
          have hl := List.getLast_mem hne
          have h3 : x ≤ t.getLast hne := by
            obtain ⟨i, hi, hxi⟩ := List.getElem_of_mem hx'
            rw [List.getLast_eq_getElem]
            rcases Nat.lt_or_ge i (t.length - 1) with h4 | h4
            · have := List.pairwise_iff_getElem.1 p1 i (t.length - 1) hi (by omega) h4
              rw [hxi] at this; exact this
            · have : i = t.length - 1 := by omega
              subst this; rw [hxi]; exact Int.le_refl _
          have h4 := hn _ hl
          have : t.getLast hne = x := by omega
          exact e (by rw [List.getLast?_eq_some_getLast hne, this])
theorem sorted_asc (l : List Int) : (ShSort.sorted l).Pairwise (· ≤ ·) := by
  have := List.pairwise_mergeSort (le := fun x y : Int => decide (x ≤ y)) (fun a b c h1 h2 => by simp at *; omega) (fun a b => by simp; omega) l
  exact this.imp (fun h => by simpa using h)
theorem compact_sorted (l : List Int) : Go.Lib.compact (ShSort.sorted l) = setN l := by
  rw [compact_cp]
  obtain ⟨h1, h2⟩ := cp_sorted _ (sorted_asc l)
  exact asc_ext _ _ h1 (setN_asc l) (fun y => by rw [h2, setN_mem]; unfold ShSort.sorted; exact List.mem_mergeSort)

def classesM (l : List Int) : List Int := setN (l.map fun p => modM p 12)
theorem classesM_length (l : List Int) : (classesM l).length ≤ l.length := by
  have := setN_length (l.map fun p => modM p 12)
  simpa [classesM] using this
theorem sortCompact (k : Nat) (l : List Int) (h : l.length ≤ 1048576) : ((slices_Sort_int_int.f l).bind fun t => (slices_Compact_int_int.f k t).bind fun u => some u) = some (setN l) := by
  simp only [slices_Sort_int_int.f, slices_Compact_int_int.f]
  rw [if_pos (by omega), Option.bind_some, Option.bind_some, compact_sorted]
theorem implClasses_l0 (suf : List Int) : ∀ (pre out : List Int), (pre ++ suf).length ≤ 1048576 → out.length = pre.length → Ev (fun k => impl_ClassesOf.l0 k out (pre ++ suf) ((pre ++ suf).length : Int) (pre.length : Int)) (setN (out ++ suf.map fun p => modM p 12)) := by
  induction suf with
  | nil =>
    intro pre out h ho
    refine ev_tail ?_
    simp only [impl_ClassesOf.l0]
    refine ev_neg (by simp) ?_
    simp only [List.append_nil, List.length_append, List.length_nil] at h
    have hs := fun k => sortCompact k out (by omega)
    simp only [hs, List.map_nil, List.append_nil]
    exact Ev.now _
  | cons x t ih =>
    intro pre out h ho
    have e := ih (pre ++ [x]) (out ++ [modM x 12]) (by simpa using h) (by simp [ho])
    simp only [List.length_append, List.length_cons] at h
    refine ev_tail ?_
    simp only [impl_ClassesOf.l0]
    refine ev_pos (by simp; omega) (ev_pos (by omega) (ev_pos (by simp; omega) ?_))
    rw [rd_mid]
    refine ev_val (implMod_eq x 12) (ev_pos (by omega) ?_)
    rw [wrap_succ (by omega), snoc_cons pre x t, ← length_snoc pre x]
    refine ev_eq e ?_
    simp
theorem implClassesOf_ev (l : List Int) (h : l.length ≤ 1048576) : Ev (fun k => impl_ClassesOf.f k l) (classesM l) := by
  simp only [impl_ClassesOf.f]
  exact implClasses_l0 l [] [] (by simpa using h) rfl

def chordOK (a b : Int) : Bool := decide (0 ≤ a ∧ a ≤ 11 ∧ 1 ≤ b ∧ b ≤ 5)
theorem specIsChord_eq (a b : Int) : spec_IsChord.f a b = some (chordOK a b) := by
  simp only [spec_IsChord.f, l1In_eq, Option.bind_some, chordOK]
  by_cases h1 : 0 ≤ a <;> by_cases h2 : a ≤ 11 <;> by_cases h3 : 1 ≤ b <;> by_cases h4 : b ≤ 5 <;> simp [h1, h2, h3, h4]
theorem implIsChord_eq (a b : Int) : impl_IsChord.f a b = some (chordOK a b) := by
  simp only [impl_IsChord.f, InRange_eq, Option.bind_some, chordOK]
  by_cases h1 : 0 ≤ a <;> by_cases h2 : a ≤ 11 <;> by_cases h3 : 1 ≤ b <;> by_cases h4 : b ≤ 5 <;> simp [h1, h2, h3, h4]

def tabT : List (List Int) := [[0, 4, 7], [0, 3, 7], [0, 3, 6], [0, 4, 8], [0, 4, 7, 10]]
def halvesT (kd : Int) : List Int := rd_L2 tabT (kd - 1)
theorem halvesT_facts {kd : Int} (h : 1 ≤ kd ∧ kd ≤ 5) : (halvesT kd).length ≤ 4 ∧ ∀ x ∈ halvesT kd, 0 ≤ x ∧ x ≤ 10 := by
  have : kd = 1 ∨ kd = 2 ∨ kd = 3 ∨ kd = 4 ∨ kd = 5 := by omega
  rcases this with rfl | rfl | rfl | rfl | rfl <;> exact ⟨by decide, by decide⟩
def tonesM (r kd : Int) : List Int := if chordOK r kd = true then classesM ((halvesT kd).map fun h => r + h) else []
theorem chordOK_facts {a b : Int} (h : chordOK a b = true) : (0 ≤ a ∧ a ≤ 11) ∧ 1 ≤ b ∧ b ≤ 5 := by
  unfold chordOK at h
  simp only [decide_eq_true_eq] at h
  omega
theorem tonesM_length (r kd : Int) : (tonesM r kd).length ≤ 4 := by
  unfold tonesM
  split
  · rename_i h
    have h1 := classesM_length ((halvesT kd).map fun h => r + h)
    have h2 := (halvesT_facts (chordOK_facts h).2).1
    rw [List.length_map] at h1
    omega
  · simp
theorem implTones_l0 (r kd : Int) (hr : 0 ≤ r ∧ r ≤ 11) (suf : List Int) : ∀ (pre out : List Int), (pre ++ suf).length ≤ 1048576 → out.length = pre.length → (∀ x ∈ suf, 0 ≤ x ∧ x ≤ 10) → Ev (fun k => impl_TonesOf.l0 k out (pre ++ suf) ((pre ++ suf).length : Int) (pre.length : Int) r kd) (classesM (out ++ suf.map fun h => r + h)) := by
  induction suf with
  | nil =>
    intro pre out h ho _
    refine ev_tail ?_
    simp only [impl_TonesOf.l0]
    refine ev_neg (by simp) ?_
    simp only [List.append_nil, List.length_append, List.length_nil] at h
    rw [List.map_nil, List.append_nil]
    exact Ev.bind (implClassesOf_ev out (by omega)) (Ev.now _)
  | cons x t ih =>
    intro pre out h ho hx
    have hxx := hx x (by simp)
    have e := ih (pre ++ [x]) (out ++ [r + x]) (by simpa using h) (by simp [ho]) (fun y hy => hx y (by simp [hy]))
    simp only [List.length_append, List.length_cons] at h
    refine ev_tail ?_
    simp only [impl_TonesOf.l0]
    refine ev_pos (by simp; omega) (ev_pos (by omega) (ev_pos (by simp; omega) (ev_pos (by omega) ?_)))
    rw [rd_mid, wrap_id (n := r + x) (by omega) (by omega), wrap_succ (by omega), snoc_cons pre x t, ← length_snoc pre x]
    refine ev_eq e ?_
    simp
theorem implTonesOf_ev (r kd : Int) : Ev (fun k => impl_TonesOf.f k r kd) (tonesM r kd) := by
  simp only [impl_TonesOf.f, Option.bind_some]
  refine ev_val (implIsChord_eq r kd) (ev_ite (fun h => ?_) (fun h => ?_))
  · obtain ⟨h1, h2⟩ := chordOK_facts h
    obtain ⟨h3, h4⟩ := halvesT_facts h2
    rw [tonesM, if_pos h, wrap_id (n := kd - 1) (by omega) (by omega)]
    refine ev_pos (by omega) (ev_pos (by simp; omega) ?_)
    exact implTones_l0 r kd h1 (halvesT kd) [] [] (by simp; omega) rfl h4
  · rw [tonesM, if_neg h]; exact Ev.now _

def keyOK (k : Int) : Bool := decide (-7 ≤ k ∧ k ≤ 7)
theorem specIsKey_eq (k : Int) : spec_IsKey.f k = some (keyOK k) := by
  simp only [spec_IsKey.f, l1In_eq, Option.bind_some, keyOK]
theorem implIsKey_eq (k : Int) : impl_IsKey.f k = some (keyOK k) := by
  simp only [impl_IsKey.f, InRange_eq, Option.bind_some, keyOK]
def tonicM (k : Int) : Int := if keyOK k = true then modM (wrap64 (7 * k)) 12 else -1
theorem specTonicOf_eq (k : Int) : spec_TonicOf.f k = some (tonicM k) := by
  simp only [spec_TonicOf.f, specIsKey_eq, specMod_eq, Option.bind_some, tonicM]
  by_cases h : keyOK k = true <;> simp [h]
theorem implTonicOf_eq (k : Int) : impl_TonicOf.f k = some (tonicM k) := by
  simp only [impl_TonicOf.f, implIsKey_eq, implMod_eq, Option.bind_some, tonicM]
  by_cases h : keyOK k = true <;> simp [h]

/-- Where x stands first in a list, counted from i; -1: nowhere. -/
def idxI : List Int → Int → Int → Int
  | [], _, _ => -1
  | y :: t, x, i => if x = y then i else idxI t x (i + 1)
theorem idxI_bd (l : List Int) (x : Int) : ∀ i, 0 ≤ i → -1 ≤ idxI l x i ∧ idxI l x i < i + l.length + 1 := by
  induction l with
  | nil => intro i h; simp [idxI]; omega
  | cons y t ih =>
    intro i h
    simp only [idxI]
    split
    · simp; omega
    · have := ih (i + 1) (by omega)
      simp only [List.length_cons]
      omega
theorem Index_l0 (x : Int) (suf : List Int) : ∀ pre : List Int, (pre ++ suf).length ≤ 35184372088832 → Ev (fun k => slices_Index_int_int.l0 k (pre ++ suf) x ((pre ++ suf).length : Int) (pre.length : Int)) (idxI suf x (pre.length : Int)) := by
  induction suf with
  | nil =>
    intro pre h
    refine ev_tail ?_
    simp only [slices_Index_int_int.l0]
    exact ev_neg (by simp) (Ev.now _)
  | cons y t ih =>
    intro pre h
    have e := ih (pre ++ [y]) (by simpa using h)
    simp only [List.length_append, List.length_cons] at h
    refine ev_tail ?_
    simp only [slices_Index_int_int.l0, idxI]
    refine ev_pos (by simp; omega) (ev_pos (by omega) (ev_pos (by simp; omega) ?_))
    rw [rd_mid]
    by_cases hy : x = y
    · rw [if_pos hy]
      exact ev_pos hy (Ev.now _)
    · rw [if_neg hy]
      refine ev_neg hy ?_
      rw [wrap_succ (by omega), snoc_cons pre y t, ← length_snoc pre y]
      simpa using e
theorem Index_ev (l : List Int) (x : Int) (h : l.length ≤ 35184372088832) : Ev (fun k => slices_Index_int_int.f k l x) (idxI l x 0) := by
  simp only [slices_Index_int_int.f]
  exact Index_l0 x l [] (by simpa using h)

def scaleM : List Int := [0, 2, 4, 5, 7, 9, 11]
def degreeM (k a b : Int) : Int := if keyOK k = true ∧ chordOK a b = true then idxI scaleM (modM (wrap64 (a - tonicM k)) 12) 0 + 1 else 0
theorem specDegree_l0 (k0 a b : Int) (suf : List Int) : ∀ pre : List Int, scaleM = pre ++ suf → Ev (fun k => spec_DegreeOf.l0 k k0 scaleM (pre.length : Int) a b) (idxI suf (modM (wrap64 (a - tonicM k0)) 12) (pre.length : Int) + 1) := by
  induction suf with
  | nil =>
    intro pre h
    have hl : pre.length = 7 := by have := congrArg List.length h; simpa [scaleM] using this.symm
    refine ev_tail ?_
    simp only [spec_DegreeOf.l0]
    exact ev_neg (by omega) (Ev.now _)
  | cons y t ih =>
    intro pre h
    have e := ih (pre ++ [y]) (by simpa using h)
    have hl : pre.length + (t.length + 1) = 7 := by have := congrArg List.length h; simpa [scaleM] using this.symm
    refine ev_tail ?_
    simp only [spec_DegreeOf.l0, specTonicOf_eq, specMod_eq, Option.bind_some, idxI]
    refine ev_pos (by omega) (ev_pos (by omega) (ev_pos (by simp [scaleM]; omega) ?_))
    have hr : rd scaleM (pre.length : Int) = y := by rw [h, rd_mid]
    rw [hr, wrap_succ (by omega)]
    by_cases hy : modM (wrap64 (a - tonicM k0)) 12 = y
    · rw [if_pos hy]
      exact ev_pos hy.symm (Ev.now _)
    · rw [if_neg hy]
      refine ev_neg (fun h => hy h.symm) ?_
      rw [← length_snoc pre y]
      simpa using e
theorem specDegreeOf_ev (k0 a b : Int) : Ev (fun k => spec_DegreeOf.f k k0 a b) (degreeM k0 a b) := by
  simp only [spec_DegreeOf.f, specIsKey_eq, specIsChord_eq, Option.bind_some, degreeM]
  by_cases hk : keyOK k0 = true
  · refine ev_pos hk (ev_tail ?_)
    simp only [spec_DegreeOf.j0]
    by_cases hc : chordOK a b = true
    · rw [if_pos ⟨hk, hc⟩]
      refine ev_neg (by simp [hc]) ?_
      exact specDegree_l0 k0 a b scaleM [] rfl
    · rw [if_neg (fun h => hc h.2)]
      exact ev_pos (by simpa using hc) (Ev.now _)
  · rw [if_neg (fun h => hk h.1)]
    refine ev_neg hk (ev_tail ?_)
    simp only [spec_DegreeOf.j0]
    exact ev_pos (by trivial) (Ev.now _)
theorem implDegreeOf_ev (k0 a b : Int) : Ev (fun k => impl_DegreeOf.f k k0 a b) (degreeM k0 a b) := by
  simp only [impl_DegreeOf.f, implIsKey_eq, implIsChord_eq, Option.bind_some, degreeM]
  by_cases hk : keyOK k0 = true
  · refine ev_pos hk (ev_tail ?_)
    simp only [impl_DegreeOf.j0, implTonicOf_eq, implMod_eq, Option.bind_some, impl_scale.f]
    by_cases hc : chordOK a b = true
    · rw [if_pos ⟨hk, hc⟩]
      refine ev_neg (by simp [hc]) ?_
      have hb := idxI_bd scaleM (modM (wrap64 (a - tonicM k0)) 12) 0 (by omega)
      have hl : scaleM.length = 7 := rfl
      refine Ev.bind (Index_ev scaleM _ (by simp [scaleM])) ?_
      rw [wrap_id (by omega) (by omega)]
      exact Ev.now _
    · rw [if_neg (fun h => hc h.2)]
      exact ev_pos (by simpa using hc) (Ev.now _)
  · rw [if_neg (fun h => hk h.1)]
    refine ev_neg hk (ev_tail ?_)
    simp only [impl_DegreeOf.j0]
    exact ev_pos (by trivial) (Ev.now _)

def cad2 (a b : Int) (x : Bool) : ByteArray := if x = true then ⟨#[104, 97, 108, 102]⟩ else if a = 5 ∧ b = 6 then ⟨#[98, 114, 111, 107, 101, 110]⟩ else ⟨#[]⟩
def cad1 (a b r s : Int) (x : Bool) : ByteArray := if x = true then ⟨#[112, 108, 97, 103, 97, 108]⟩ else cad2 a b (chordOK r s && (b == 5))
def cad0 (a b r s : Int) (x : Bool) : ByteArray := if x = true then ⟨#[102, 117, 108, 108]⟩ else cad1 a b r s ((a == 4) && (b == 1))
def cadM (a b r s : Int) : ByteArray := cad0 a b r s ((a == 5) && (b == 1) && ((s == 1) || (s == 5)))
theorem specCad_j2 (a b : Int) (x : Bool) : Ev (fun k => spec_CadenceOf.j2 k a b x) (cad2 a b x) := by
  refine ev_tail ?_
  simp only [spec_CadenceOf.j2, cad2]
  refine ev_ite (fun h => ?_) (fun h => ev_ite (fun h1 => ev_ite (fun h2 => ?_) (fun h2 => ?_)) (fun h1 => ?_))
  · rw [if_pos h]; exact Ev.now _
  · rw [if_neg h, if_pos ⟨h1, h2⟩]; exact Ev.now _
  · rw [if_neg h, if_neg (fun z => h2 z.2)]; exact Ev.now _
  · rw [if_neg h, if_neg (fun z => h1 z.1)]; exact Ev.now _
theorem specCad_j1 (a b r s : Int) (x : Bool) : Ev (fun k => spec_CadenceOf.j1 k a b x r s) (cad1 a b r s x) := by
  refine ev_tail ?_
  simp only [spec_CadenceOf.j1, cad1, specIsChord_eq, Option.bind_some]
  refine ev_ite (fun h => ?_) (fun h => ev_ite (fun h1 => ?_) (fun h1 => ?_))
  · rw [if_pos h]; exact Ev.now _
  · rw [if_neg h, h1, Bool.true_and]; exact specCad_j2 a b (b == 5)
  · rw [if_neg h, Bool.eq_false_iff.mpr h1, Bool.false_and]; exact specCad_j2 a b false
theorem specCad_j0 (a b r s : Int) (x : Bool) : Ev (fun k => spec_CadenceOf.j0 k a b x r s) (cad0 a b r s x) := by
  refine ev_tail ?_
  simp only [spec_CadenceOf.j0, cad0]
  refine ev_ite (fun h => ?_) (fun h => ev_ite (fun h1 => ?_) (fun h1 => ?_))
  · rw [if_pos h]; exact Ev.now _
  · rw [if_neg h, show (a == 4) = true by simpa using h1, Bool.true_and]; exact specCad_j1 a b r s (b == 1)
  · rw [if_neg h, show (a == 4) = false by simpa using h1, Bool.false_and]; exact specCad_j1 a b r s false
theorem specCadenceOf_ev (k0 r s u v : Int) : Ev (fun k => spec_CadenceOf.f k k0 r s u v) (cadM (degreeM k0 r s) (degreeM k0 u v) r s) := by
  simp only [spec_CadenceOf.f, cadM]
  refine Ev.bind (specDegreeOf_ev k0 r s) (Ev.bind (specDegreeOf_ev k0 u v) ?_)
  refine ev_ite (fun h1 => ev_ite (fun h2 => ev_ite (fun h3 => ?_) (fun h3 => ?_)) (fun h2 => ?_)) (fun h1 => ?_)
  · rw [show (degreeM k0 r s == 5) = true by simpa using h1, show (degreeM k0 u v == 1) = true by simpa using h2, show (s == 1) = true by simpa using h3]; exact specCad_j0 _ _ r s true
  · rw [show (degreeM k0 r s == 5) = true by simpa using h1, show (degreeM k0 u v == 1) = true by simpa using h2, show (s == 1) = false by simpa using h3]; exact specCad_j0 _ _ r s (s == 5)
  · rw [show (degreeM k0 r s == 5) = true by simpa using h1, show (degreeM k0 u v == 1) = false by simpa using h2]; exact specCad_j0 _ _ r s false
  · rw [show (degreeM k0 r s == 5) = false by simpa using h1]; exact specCad_j0 _ _ r s false
theorem implCad_j2 (a b : Int) (x : Bool) : Ev (fun k => impl_CadenceOf.j2 k a b x) (cad2 a b x) := by
  refine ev_tail ?_
  simp only [impl_CadenceOf.j2, cad2]
  refine ev_ite (fun h => ?_) (fun h => ev_ite (fun h1 => ev_ite (fun h2 => ?_) (fun h2 => ?_)) (fun h1 => ?_))
  · rw [if_pos h]; exact Ev.now _
  · rw [if_neg h, if_pos ⟨h1, h2⟩]; exact Ev.now _
  · rw [if_neg h, if_neg (fun z => h2 z.2)]; exact Ev.now _
  · rw [if_neg h, if_neg (fun z => h1 z.1)]; exact Ev.now _
theorem implCad_j1 (a b r s : Int) (x : Bool) : Ev (fun k => impl_CadenceOf.j1 k a b x r s) (cad1 a b r s x) := by
  refine ev_tail ?_
  simp only [impl_CadenceOf.j1, cad1, implIsChord_eq, Option.bind_some]
  refine ev_ite (fun h => ?_) (fun h => ev_ite (fun h1 => ?_) (fun h1 => ?_))
  · rw [if_pos h]; exact Ev.now _
  · rw [if_neg h, h1, Bool.true_and]; exact implCad_j2 a b (b == 5)
  · rw [if_neg h, Bool.eq_false_iff.mpr h1, Bool.false_and]; exact implCad_j2 a b false
theorem implCad_j0 (a b r s : Int) (x : Bool) : Ev (fun k => impl_CadenceOf.j0 k a b x r s) (cad0 a b r s x) := by
  refine ev_tail ?_
  simp only [impl_CadenceOf.j0, cad0]
  refine ev_ite (fun h => ?_) (fun h => ev_ite (fun h1 => ?_) (fun h1 => ?_))
  · rw [if_pos h]; exact Ev.now _
  · rw [if_neg h, show (a == 4) = true by simpa using h1, Bool.true_and]; exact implCad_j1 a b r s (b == 1)
  · rw [if_neg h, show (a == 4) = false by simpa using h1, Bool.false_and]; exact implCad_j1 a b r s false
theorem implCadenceOf_ev (k0 r s u v : Int) : Ev (fun k => impl_CadenceOf.f k k0 r s u v) (cadM (degreeM k0 r s) (degreeM k0 u v) r s) := by
  simp only [impl_CadenceOf.f, cadM]
  refine Ev.bind (implDegreeOf_ev k0 r s) (Ev.bind (implDegreeOf_ev k0 u v) ?_)
  refine ev_ite (fun h1 => ev_ite (fun h2 => ev_ite (fun h3 => ?_) (fun h3 => ?_)) (fun h2 => ?_)) (fun h1 => ?_)
  · rw [show (degreeM k0 r s == 5) = true by simpa using h1, show (degreeM k0 u v == 1) = true by simpa using h2, show (s == 1) = true by simpa using h3]; exact implCad_j0 _ _ r s true
  · rw [show (degreeM k0 r s == 5) = true by simpa using h1, show (degreeM k0 u v == 1) = true by simpa using h2, show (s == 1) = false by simpa using h3]; exact implCad_j0 _ _ r s (s == 5)
  · rw [show (degreeM k0 r s == 5) = true by simpa using h1, show (degreeM k0 u v == 1) = false by simpa using h2]; exact implCad_j0 _ _ r s false
  · rw [show (degreeM k0 r s == 5) = false by simpa using h1]; exact implCad_j0 _ _ r s false

def isPh (s : ByteArray) : Bool := decide (s.toList = ([102, 117, 108, 108] : List UInt8) ∨ s.toList = ([112, 108, 97, 103, 97, 108] : List UInt8))
def phG (k0 : Int) (l : List S25) (i : Int) : Option Int :=
  if isPh (cadM (degreeM k0 (rd_T25 l (i - 1)).f0 (rd_T25 l (i - 1)).f1) (degreeM k0 (rd_T25 l i).f0 (rd_T25 l i).f1) (rd_T25 l (i - 1)).f0 (rd_T25 l (i - 1)).f1) = true then some i else none
def phrasesM (k0 : Int) (l : List S25) : List Int := colM (phG k0 l) (l.length - 1) 1
theorem implPhrasesOf_ev (k0 : Int) (l : List S25) (h : l.length ≤ 1048576) : Ev (fun k => impl_PhrasesOf.f k k0 l) (phrasesM k0 l) := by
  simp only [impl_PhrasesOf.f]
  by_cases h0 : l.length = 0
  · refine ev_tail ?_
    simp only [impl_PhrasesOf.l0, phrasesM, h0, colM]
    exact ev_neg (by omega) (Ev.now _)
  · refine ev_col (L := fun k out i => impl_PhrasesOf.l0 k k0 l out i) (g := phG k0 l) (fin := id) (n := l.length) (s := 1) (fun i out h1 h2 ho r e => ?_) (fun out => ?_) (l.length - 1) 1 [] (by omega) (by omega) (by simp)
    · have w1 : Aside0 (wrap64 ((i : Int) + 1) = (i : Int) + 1) := ⟨wrap_id (by omega) (by omega)⟩
      have w2 : Aside0 (wrap64 ((i : Int) - 1) = (i : Int) - 1) := ⟨wrap_id (by omega) (by omega)⟩
      refine ev_tail ?_
      simp only [impl_PhrasesOf.l0, w1.out, w2.out]
      refine ev_pos (by omega) (ev_pos (by omega) (ev_pos (by omega) (ev_pos (by omega) (Ev.bind (implCadenceOf_ev _ _ _ _ _) ?_))))
      unfold phG isPh at e
      refine ev_ite (fun c1 => ev_pos (by omega) ?_) (fun c1 => ev_ite (fun c2 => ev_pos (by omega) ?_) (fun c2 => ?_))
      · simpa [c1] using e
      · simpa [c2] using e
      · simpa [c1, c2] using e
    · refine ev_tail ?_
      simp only [impl_PhrasesOf.l0]
      exact ev_neg (by omega) (Ev.now _)
theorem colM_len {α : Type} (g : Int → Option α) (d : Nat) : ∀ i, (colM g d i).length ≤ d := by
  induction d with
  | zero => intro i; simp [colM]
  | succ d ih =>
    intro i
    have h1 := ih (i + 1)
    have h2 := toList_le (g (i : Int))
    simp only [colM, List.length_append]
    omega


def moveM (a b h : Int) : Int × Int × Bool := if chordOK a b = true ∧ -100 ≤ h ∧ h ≤ 100 then (modM (wrap64 (a + h)) 12, b, true) else (0, 0, false)
theorem implMoveChord_eq (a b h : Int) : impl_MoveChord.f a b h = some (moveM a b h) := by
  simp only [impl_MoveChord.f, implIsChord_eq, InRange_eq, implMod_eq, Option.bind_some, moveM]
  by_cases h1 : chordOK a b = true <;> by_cases h2 : -100 ≤ h ∧ h ≤ 100 <;> simp [h1, h2]

theorem modM12 (p : Int) : 0 ≤ modM p 12 ∧ modM p 12 ≤ 11 := by
  unfold modM
  rw [if_pos (by omega)]
  have h1 : -11 ≤ Int.tmod p 12 ∧ Int.tmod p 12 ≤ 11 := by
    rcases Int.le_total 0 p with h | h
    · rw [Int.tmod_eq_emod_of_nonneg h]; omega
    · have e := Int.neg_tmod (-p) 12
      rw [Int.neg_neg] at e
      rw [e, Int.tmod_eq_emod_of_nonneg (by omega)]; omega
  generalize Int.tmod p 12 = m at h1 ⊢
  rw [wrap_id (by omega) (by omega), Int.tmod_eq_emod_of_nonneg (by omega)]
  omega
theorem inScale_eq (a0 c : Int) : inScale a0 c = decide (0 ≤ idxI scaleM (modM (wrap64 (c - tonicM a0)) 12) 0) := by
  have h1 := inScale_some a0 c
  have t : PFnCadences.tonicM a0 = tonicM a0 := by
    have h := tonic_some a0
    rw [implTonicOf_eq] at h
    exact (Option.some.inj h).symm
  have m : ∀ x, PFnCadences.modM x = modM x 12 := fun x => by
    have h := modM_some x
    rw [implMod_eq] at h
    exact (Option.some.inj h).symm
  rw [t, m] at h1
  obtain ⟨K, hK⟩ := Index_ev scaleM (modM (wrap64 (c - tonicM a0)) 12) (by simp [scaleM])
  have h2 := at_rounds (g := fun k => slices_Contains_int_int.f k scaleL (modM (wrap64 (c - tonicM a0)) 12)) (fun k => slices_Contains_int_int.mono _ _ k) (show 8 ≤ 8 + K by omega) h1
  have h3 := hK (8 + K) (by omega)
  change (slices_Index_int_int.f (8 + K) scaleM _).bind _ = _ at h2
  dsimp only at h3
  rw [h3] at h2
  exact (Option.some.inj h2).symm
def isOfKeyM (a0 r kd : Int) : Bool := (tonesM r kd).all (fun c => keyOK a0 && inScale a0 c) && (keyOK a0 && chordOK r kd)
theorem implIsOfKey_ev (a0 r kd : Int) : Ev (fun k => impl_IsOfKey.f k a0 r kd) (isOfKeyM a0 r kd) := by
  simp only [impl_IsOfKey.f, isOfKeyM]
  have hl := tonesM_length r kd
  refine ev_val (implIsKey_eq a0) (ev_ite (fun hk => ?_) (fun hk => ev_eq (Ev.now _) (by simp [hk])))
  refine ev_val (implIsChord_eq r kd) (ev_ite (fun hc => ?_) (fun hc => ev_eq (Ev.now _) (by simp [hc])))
  refine Ev.bind (implTonesOf_ev r kd) (ev_pos (by omega) (ev_eq (Ev.now _) ?_))
  rw [hk, hc]
  simp [List.all_eq_not_any_not]

/-! ### the keys of chords -/
def keyB (a : Int) (l : List S25) : Bool := l.all fun x => isOfKeyM a x.f0 x.f1
def keysGo (l : List S25) : Nat → Int → List Int
  | 0, _ => []
  | n + 1, a => (if keyB a l = true then [a] else []) ++ keysGo l n (a + 1)
def keysM (l : List S25) : List Int := keysGo l 15 (-7)
theorem keysGo_length (l : List S25) (n : Nat) : ∀ a, (keysGo l n a).length ≤ n := by
  induction n with
  | zero => intro a; simp [keysGo]
  | succ n ih =>
    intro a
    have := ih (a + 1)
    simp only [keysGo, List.length_append]
    split <;> simp <;> omega
theorem keyAll_ev (a : Int) (l : List S25) : ∃ K, ∀ k, K ≤ k → ∀ x ∈ l, impl_IsOfKey.f k a x.f0 x.f1 = some (isOfKeyM a x.f0 x.f1) := by
  induction l with
  | nil => exact ⟨0, fun k _ x hx => by cases hx⟩
  | cons y t ih =>
    obtain ⟨K, h⟩ := ih
    obtain ⟨K', h'⟩ := implIsOfKey_ev a y.f0 y.f1
    refine ⟨max K K', fun k hk x hx => ?_⟩
    rcases List.mem_cons.1 hx with rfl | hx
    · exact h' k (by omega)
    · exact h k (by omega) x hx
theorem keyAny_ev (a : Int) (l : List S25) : Ev (fun k => keyAny k a l) (!(keyB a l)) := by
  obtain ⟨K, h⟩ := keyAll_ev a l
  refine ⟨K, fun k hk => ?_⟩
  have h := h k hk
  show keyAny k a l = _
  unfold keyAny
  rw [if_pos (by rw [List.all_eq_true]; intro x hx; rw [h x hx]; rfl)]
  congr 1
  unfold keyB
  rw [Bool.eq_iff_iff, List.any_eq_true, Bool.not_eq_true', List.all_eq_false]
  constructor
  · rintro ⟨x, hx, hv⟩; rw [h x hx] at hv; exact ⟨x, hx, by simpa using hv⟩
  · rintro ⟨x, hx, hv⟩; exact ⟨x, hx, by rw [h x hx]; simpa using hv⟩
theorem implKeys_l0 (l : List S25) (n : Nat) : ∀ (a : Int) (out : List Int), a + n = 8 → -7 ≤ a → out.length + n ≤ 100 → Ev (fun k => impl_KeysFor.l0 k l a out) (out ++ keysGo l n a) := by
  induction n with
  | zero =>
    intro a out ha _ ho
    refine ev_tail ?_
    simp only [impl_KeysFor.l0, keysGo, List.append_nil]
    exact ev_neg (by omega) (Ev.now _)
  | succ n ih =>
    intro a out ha h0 ho
    have w : wrap64 (a + 1) = a + 1 := wrap_id (by omega) (by omega)
    have e1 := ih (a + 1) (out ++ [a]) (by omega) (by omega) (by simp; omega)
    have e2 := ih (a + 1) out (by omega) (by omega) (by omega)
    refine ev_tail ?_
    simp only [impl_KeysFor.l0, w]
    refine ev_pos (by omega) (Ev.bind (keyAny_ev a l) (ev_ite (fun hb => ?_) (fun hb => ev_pos (by omega) ?_)))
    · simp only [keysGo]
      rw [if_neg (by simpa using hb), List.nil_append]
      exact e2
    · simp only [keysGo]
      rw [if_pos (by simpa using hb), ← List.append_assoc]
      exact e1
theorem implKeysFor_ev (l : List S25) : Ev (fun k => impl_KeysFor.f k l) (keysM l) := by
  simp only [impl_KeysFor.f]
  exact implKeys_l0 l 15 (-7) [] (by omega) (by omega) (by simp)

/-! ### draws -/
/-- Where a reader of draws stands: inside its bytes. -/
def Rd (b : List Int) (i : Int) : Prop := 0 ≤ i ∧ i ≤ (b.length : Int) ∧ b.length ≤ 1048576
theorem and255 (x : Int) : 0 ≤ Go.bits .and .i64 x 255 ∧ Go.bits .and .i64 x 255 ≤ 255 := by
  have h : (BitVec.ofInt IntKind.i64.bits x &&& BitVec.ofInt IntKind.i64.bits 255).toNat ≤ 255 := by
    rw [BitVec.toNat_and]; exact Nat.le_trans Nat.and_le_right (by decide)
  show 0 ≤ IntKind.i64.wrap ((BitVec.ofInt IntKind.i64.bits x &&& BitVec.ofInt IntKind.i64.bits 255).toNat : Int) ∧ IntKind.i64.wrap ((BitVec.ofInt IntKind.i64.bits x &&& BitVec.ofInt IntKind.i64.bits 255).toNat : Int) ≤ 255
  generalize (BitVec.ofInt IntKind.i64.bits x &&& BitVec.ofInt IntKind.i64.bits 255).toNat = n at h ⊢
  simp only [i64_w]
  rw [wrap_id (by omega) (by omega)]
  omega
theorem new_l0 (b : List Int) (hb : b.length ≤ 1048576) (d : Nat) : ∀ (i : Nat) (h : Int), i + d = b.length → ∃ h', Ev (fun k => spec_l1New.l0 k b h (i : Int)) (b, 0, h') := by
  induction d with
  | zero =>
    intro i h hi
    refine ⟨h, ev_tail ?_⟩
    simp only [spec_l1New.l0]
    exact ev_neg (by omega) (Ev.now _)
  | succ d ih =>
    intro i h hi
    by_cases h4 : (i : Int) < 4000
    · obtain ⟨h', e⟩ := ih (i + 1) (Go.bits .and .i64 (wrap64 ((wrap64 ((wrap64 (h * 137)) + (wrap64 (rd b (i : Int))))) + 11)) 1073741823) (by omega)
      refine ⟨h', ev_tail ?_⟩
      simp only [spec_l1New.l0]
      refine ev_pos (by omega) (ev_pos h4 (ev_pos (by omega) ?_))
      rw [wrap_succ (by omega)]
      exact e
    · refine ⟨h, ev_tail ?_⟩
      simp only [spec_l1New.l0]
      exact ev_pos (by omega) (ev_neg h4 (Ev.now _))
theorem new_ok (b : List Int) (hb : b.length ≤ 1048576) : ∃ h', Ev (fun k => spec_l1New.f k b) (b, 0, h') := by
  obtain ⟨h', e⟩ := new_l0 b hb b.length 0 (wrap64 (193017 + (b.length : Int))) (by omega)
  exact ⟨h', by simp only [spec_l1New.f]; exact e⟩
theorem Rd.zero {b : List Int} (hb : b.length ≤ 1048576) : Rd b 0 := ⟨by omega, by omega, hb⟩
theorem byte_ok {b : List Int} {i : Int} (h : Rd b i) (s : Int) : ∃ x i' s', spec_l1Byte.f b i s = some (x, i', s') ∧ (0 ≤ x ∧ x ≤ 255) ∧ Rd b i' := by
  obtain ⟨h1, h2, h3⟩ := h
  unfold spec_l1Byte.f
  by_cases c : i < (b.length : Int)
  · rw [if_pos c, if_pos h1]
    exact ⟨_, _, _, rfl, and255 _, by rw [wrap_id (by omega) (by omega)]; exact ⟨by omega, by omega, h3⟩⟩
  · rw [if_neg c]
    exact ⟨_, _, _, rfl, and255 _, h1, h2, h3⟩
theorem below_ok {b : List Int} {i : Int} (h : Rd b i) (s n : Int) : ∃ x i' s', spec_l1Below.f b i s n = some (x, i', s') ∧ (0 ≤ x ∧ (0 < n → x < n) ∧ (n ≤ 0 → x = 0)) ∧ Rd b i' := by
  unfold spec_l1Below.f
  by_cases c0 : n ≤ 0
  · rw [if_pos c0]
    exact ⟨_, _, _, rfl, ⟨by omega, fun z => by omega, fun _ => rfl⟩, h⟩
  · rw [if_neg c0]
    by_cases c1 : n ≤ 256
    · rw [if_pos c1]
      obtain ⟨x, i', s', e, hx, h'⟩ := byte_ok h s
      rw [e]
      simp only [Option.bind_some]
      rw [if_neg (by omega)]
      exact ⟨_, _, _, rfl, ⟨Int.tmod_nonneg _ hx.1, fun _ => Int.tmod_lt_of_pos _ (by omega), fun z => absurd z c0⟩, h'⟩
    · rw [if_neg c1]
      obtain ⟨x, i1, s1, e1, hx, h1⟩ := byte_ok h s
      obtain ⟨y, i2, s2, e2, hy, h2⟩ := byte_ok h1 s1
      obtain ⟨z, i3, s3, e3, hz, h3⟩ := byte_ok h2 s2
      rw [e1]
      simp only [Option.bind_some, e2, e3]
      rw [if_neg (by omega)]
      refine ⟨_, _, _, rfl, ⟨Int.tmod_nonneg _ ?_, fun _ => Int.tmod_lt_of_pos _ (by omega), fun z => absurd z c0⟩, h3⟩
      rw [wrap_id (n := x * 65536) (by omega) (by omega), wrap_id (n := y * 256) (by omega) (by omega), wrap_id (n := x * 65536 + y * 256) (by omega) (by omega), wrap_id (by omega) (by omega)]
      omega

theorem int_ok {b : List Int} {i : Int} (h : Rd b i) (s : Int) (l : List Int) (hl : 0 < l.length) : ∃ v i' s', spec_l1Int.f b i s l = some (v, i', s') ∧ v ∈ l ∧ Rd b i' := by
  obtain ⟨x, i', s', e, ⟨h0, h1, _⟩, h'⟩ := below_ok h s (l.length : Int)
  have h1 := h1 (by omega)
  unfold spec_l1Int.f
  rw [e]
  simp only [Option.bind_some]
  rw [if_pos h0, if_pos h1]
  refine ⟨_, _, _, rfl, ?_, h'⟩
  have hx : x.toNat < l.length := by omega
  have : rd l x = l[x.toNat] := by simp [rd, List.getD, hx]
  rw [this]
  exact List.getElem_mem hx

theorem once_ok {b : List Int} {i : Int} (h : Rd b i) (s n : Int) : ∃ c i' s', spec_l1Once.f b i s n = some (c, i', s') ∧ Rd b i' := by
  obtain ⟨x, i', s', e, _, h'⟩ := below_ok h s n
  unfold spec_l1Once.f
  rw [e]
  exact ⟨_, _, _, rfl, h'⟩

theorem l22Draw_ok {b : List Int} {i : Int} (h : Rd b i) (s : Int) : ∃ r t i' s', spec_l22Draw.f b i s = some (r, t, i', s') ∧ chordOK r t = true ∧ Rd b i' := by
  obtain ⟨x, i1, s1, e1, ⟨x0, x1, _⟩, h1⟩ := below_ok h s 12
  obtain ⟨y, i2, s2, e2, ⟨y0, y1, _⟩, h2⟩ := below_ok h1 s1 5
  have x1 := x1 (by omega)
  have y1 := y1 (by omega)
  unfold spec_l22Draw.f
  rw [e1]
  simp only [Option.bind_some, e2]
  refine ⟨_, _, _, _, rfl, ?_, h2⟩
  rw [wrap_id (by omega) (by omega)]
  unfold chordOK
  exact decide_eq_true (by omega)
theorem l22Any_ok {b : List Int} {i : Int} (h : Rd b i) (s : Int) : ∃ r t i' s', spec_l22Any.f b i s = some (r, t, i', s') ∧ Rd b i' := by
  obtain ⟨r, t, i1, s1, e1, _, h1⟩ := l22Draw_ok h s
  obtain ⟨x, i2, s2, e2, _, h2⟩ := below_ok h1 s1 9
  obtain ⟨v, i3, s3, e3, _, h3⟩ := int_ok h2 s2 [-1, 11, 12] (by decide)
  obtain ⟨u, i4, s4, e4, _, h4⟩ := int_ok h2 s2 [0, 5, 6] (by decide)
  unfold spec_l22Any.f
  rw [e1]
  simp only [Option.bind_some, e2, e3, e4]
  by_cases c0 : x = 0
  · rw [if_pos c0]; exact ⟨_, _, _, _, rfl, h3⟩
  · rw [if_neg c0]
    by_cases c1 : x = 1
    · rw [if_pos c1]; exact ⟨_, _, _, _, rfl, h4⟩
    · rw [if_neg c1]; exact ⟨_, _, _, _, rfl, h2⟩

theorem l7Key_ok {b : List Int} {i : Int} (h : Rd b i) (s : Int) : ∃ a i' s', spec_l7Key.f b i s = some (a, i', s') ∧ Rd b i' := by
  obtain ⟨x, i1, s1, e1, _, h1⟩ := below_ok h s 15
  unfold spec_l7Key.f
  rw [e1]
  exact ⟨_, _, _, rfl, h1⟩
theorem l7Any_ok {b : List Int} {i : Int} (h : Rd b i) (s : Int) : ∃ a i' s', spec_l7Any.f b i s = some (a, i', s') ∧ Rd b i' := by
  obtain ⟨x, i1, s1, e1, h1⟩ := l7Key_ok h s
  obtain ⟨y, i2, s2, e2, h2⟩ := l7Key_ok h1 s1
  obtain ⟨z, i3, s3, e3, h3⟩ := l7Key_ok h2 s2
  obtain ⟨v, i4, s4, e4, _, h4⟩ := int_ok h3 s3 [x, y, z, -8, 8, 9223372036854775807] (by simp)
  unfold spec_l7Any.f
  rw [e1]
  simp only [Option.bind_some, e2, e3, e4]
  exact ⟨_, _, _, rfl, h4⟩
theorem l23_j1 {b : List Int} {i : Int} (h : Rd b i) (s r t : Int) : ∃ r' t' i' s', Ev (fun k => spec_l23Chord.j1 k b i s r t) (r', t', i', s') ∧ Rd b i' := by
  obtain ⟨c, i1, s1, e1, h1⟩ := once_ok h s 6
  obtain ⟨r2, t2, i2, s2, e2, h2⟩ := l22Any_ok h1 s1
  cases c with
  | true =>
    refine ⟨r2, t2, i2, s2, ev_tail ?_, h2⟩
    simp only [spec_l23Chord.j1, e1, e2, Option.bind_some]
    exact ev_pos (by trivial) (Ev.now _)
  | false =>
    refine ⟨r, t, i1, s1, ev_tail ?_, h1⟩
    simp only [spec_l23Chord.j1, e1, e2, Option.bind_some]
    exact ev_neg (by simp) (Ev.now _)
theorem l23_j0 {b : List Int} {i : Int} (h : Rd b i) (s r t : Int) (c : Bool) : ∃ r' t' i' s', Ev (fun k => spec_l23Chord.j0 k c b i s r t) (r', t', i', s') ∧ Rd b i' := by
  cases c with
  | true =>
    obtain ⟨r', t', i', s', e, h'⟩ := l23_j1 h s r 5
    refine ⟨r', t', i', s', ev_tail ?_, h'⟩
    simp only [spec_l23Chord.j0]
    exact ev_pos (by trivial) e
  | false =>
    obtain ⟨r', t', i', s', e, h'⟩ := l23_j1 h s r t
    refine ⟨r', t', i', s', ev_tail ?_, h'⟩
    simp only [spec_l23Chord.j0]
    exact ev_neg (by simp) e
theorem l23Chord_ok {b : List Int} {i : Int} (h : Rd b i) (s a : Int) : ∃ r t i' s', Ev (fun k => spec_l23Chord.f k b i s a) (r, t, i', s') ∧ Rd b i' := by
  obtain ⟨x, i1, s1, e1, ⟨x0, x1, _⟩, h1⟩ := below_ok h s 7
  have x1 := x1 (by omega)
  obtain ⟨c, i2, s2, e2, h2⟩ := once_ok h1 s1 2
  simp only [spec_l23Chord.f, e1, Option.bind_some, specMod_eq]
  by_cases c4 : x = 4
  · obtain ⟨r, t, i3, s3, e3, h3⟩ := l23_j0 h2 s2 (modM (wrap64 ((wrap64 (7 * a)) + (rd [0, 2, 4, 5, 7, 9, 11] x))) 12) (rd [1, 2, 2, 1, 1, 2, 3] x) c
    exact ⟨r, t, i3, s3, ev_pos x0 (ev_pos (by simp; omega) (ev_pos (by simp; omega) (ev_pos c4 (ev_val e2 e3)))), h3⟩
  · obtain ⟨r, t, i3, s3, e3, h3⟩ := l23_j0 h1 s1 (modM (wrap64 ((wrap64 (7 * a)) + (rd [0, 2, 4, 5, 7, 9, 11] x))) 12) (rd [1, 2, 2, 1, 1, 2, 3] x) false
    exact ⟨r, t, i3, s3, ev_pos x0 (ev_pos (by simp; omega) (ev_pos (by simp; omega) (ev_neg c4 e3))), h3⟩
theorem drawDegree_ok (b : List Int) (hb : b.length ≤ 1048576) : ∃ a r t, Ev (fun k => spec_DrawDegreeOf.f k b) (a, r, t) := by
  obtain ⟨s0, e0⟩ := new_ok b hb
  obtain ⟨a, i1, s1, e1, h1⟩ := l7Any_ok (Rd.zero hb) s0
  obtain ⟨r, t, i2, s2, e2, _⟩ := l23Chord_ok h1 s1 a
  obtain ⟨r', t', i3, s3, e3, _⟩ := l22Any_ok h1 s1
  simp only [spec_DrawDegreeOf.f]
  by_cases c : keyOK a = true
  · refine ⟨a, r, t, Ev.bind e0 ?_⟩
    simp only [e1, Option.bind_some, specIsKey_eq]
    exact ev_pos c (Ev.bind e2 (Ev.now _))
  · refine ⟨a, r', t', Ev.bind e0 ?_⟩
    simp only [e1, Option.bind_some, specIsKey_eq, e3]
    exact ev_neg c (Ev.now _)
theorem drawCadence_ok (b : List Int) (hb : b.length ≤ 1048576) : ∃ a r t u v, Ev (fun k => spec_DrawCadenceOf.f k b) (a, r, t, u, v) := by
  obtain ⟨s0, e0⟩ := new_ok b hb
  obtain ⟨a, r, t, e1⟩ := drawDegree_ok b hb
  obtain ⟨u, v, i2, s2, e2, h2⟩ := l22Any_ok (Rd.zero hb) s0
  obtain ⟨x, i3, s3, e3, _, h3⟩ := int_ok h2 s2 [0, 0, 7, 9, 5] (by decide)
  obtain ⟨y, i4, s4, e4, _, h4⟩ := below_ok h3 s3 2
  simp only [spec_DrawCadenceOf.f]
  by_cases c : keyOK a = true
  · refine ⟨a, r, t, modM (wrap64 ((wrap64 (7 * a)) + x)) 12, wrap64 (1 + y), Ev.bind e1 (Ev.bind e0 ?_)⟩
    simp only [e2, Option.bind_some, specIsKey_eq, e3, specMod_eq, e4]
    exact ev_pos c (Ev.now _)
  · refine ⟨a, r, t, u, v, Ev.bind e1 (Ev.bind e0 ?_)⟩
    simp only [e2, Option.bind_some, specIsKey_eq]
    exact ev_neg c (Ev.now _)
theorem l23List_l0 (a : Int) (n : Nat) : ∀ {b : List Int} {i : Int} (h : Rd b i) (s : Int) (out : List S25), out.length + n ≤ 100 → ∃ l i' s', Ev (fun k => spec_l23List.l0 k a out (n : Int) b i s) (l, i', s') ∧ l.length ≤ out.length + n := by
  induction n with
  | zero =>
    intro b i h s out ho
    refine ⟨out, i, s, ev_tail ?_, by omega⟩
    simp only [spec_l23List.l0]
    exact ev_neg (by simp) (Ev.now _)
  | succ n ih =>
    intro b i h s out ho
    obtain ⟨r, t, i1, s1, e1, h1⟩ := l23Chord_ok h s a
    obtain ⟨l, i2, s2, e2, h2⟩ := ih h1 s1 (out ++ [⟨r, t⟩]) (by simp; omega)
    refine ⟨l, i2, s2, ev_tail ?_, by simp at h2; omega⟩
    simp only [spec_l23List.l0]
    rw [show ((n + 1 : Nat) : Int) = (n : Int) + 1 by omega, wrap_id (n := (n : Int) + 1 - 1) (by omega) (by omega), show (n : Int) + 1 - 1 = (n : Int) by omega]
    exact ev_pos (by omega) (Ev.bind e1 (ev_pos (by omega) e2))
theorem drawPhrases_ok (b : List Int) (hb : b.length ≤ 1048576) : ∃ a l, Ev (fun k => spec_DrawPhrasesOf.f k b) (a, l) ∧ l.length ≤ 8 := by
  obtain ⟨s0, e0⟩ := new_ok b hb
  obtain ⟨a, i1, s1, e1, h1⟩ := l7Key_ok (Rd.zero hb) s0
  obtain ⟨x, i2, s2, e2, ⟨x0, x1, _⟩, h2⟩ := below_ok h1 s1 8
  have x1 := x1 (by omega)
  obtain ⟨n, rfl⟩ := Int.eq_ofNat_of_zero_le x0
  obtain ⟨l, i3, s3, e3, h3⟩ := l23List_l0 a n h2 s2 [] (by simp; omega)
  refine ⟨a, l, ?_, by simp at h3; omega⟩
  simp only [spec_DrawPhrasesOf.f]
  refine Ev.bind e0 ?_
  simp only [e1, Option.bind_some, spec_l23List.f, e2]
  exact Ev.bind e3 (Ev.now _)
theorem drawKeys_ok (b : List Int) (hb : b.length ≤ 1048576) : ∃ l, Ev (fun k => spec_DrawKeysFor.f k b) l ∧ l.length ≤ 8 := by
  obtain ⟨a, l, e, h⟩ := drawPhrases_ok b hb
  refine ⟨l, ?_, h⟩
  simp only [spec_DrawKeysFor.f]
  exact Ev.bind e (Ev.now _)

theorem ascends_ev (l : List Int) (hl : l.length ≤ 1048576) (h : l.Pairwise (· < ·)) : Ev (fun k => laws_ascends.f k l) true := by
  simp only [laws_ascends.f]
  by_cases h0 : l.length = 0
  · refine ev_tail ?_
    simp only [laws_ascends.l0]
    exact ev_neg (by omega) (Ev.now _)
  · have e := ev_all_from (L := fun k i => laws_ascends.l0 k l i) (c := fun _ => true) (fin := true) (n := l.length) (s := 1) (fun i hi hn => ⟨fun _ r e => ?_, fun z => by cases z⟩) ?_ (l.length - 1) 1 (by omega) (by omega)
    · have q : ∀ d i, allF (fun _ => true) true d i = true := fun d => by
        induction d with
        | zero => intro i; rfl
        | succ d ih => intro i; simp only [allF, Bool.true_and]; exact ih _
      rw [q] at e
      exact e
    · have w1 : wrap64 ((i : Int) + 1) = (i : Int) + 1 := wrap_id (by omega) (by omega)
      have w2 : wrap64 ((i : Int) - 1) = ((i - 1 : Nat) : Int) := by rw [wrap_id (by omega) (by omega)]; omega
      refine ev_tail ?_
      simp only [laws_ascends.l0, w1, w2]
      refine ev_pos (by omega) (ev_pos (by omega) (ev_pos (by omega) (ev_pos (by omega) (ev_neg ?_ e))))
      have := List.pairwise_iff_getElem.1 h (i - 1) i (by omega) hn (by omega)
      rw [rd_nat, rd_nat, List.getD_eq_getElem?_getD, List.getD_eq_getElem?_getD, List.getElem?_eq_getElem hn, List.getElem?_eq_getElem (show i - 1 < l.length by omega)]
      simp only [Option.getD_some]
      omega
    · refine ev_tail ?_
      simp only [laws_ascends.l0]
      exact ev_neg (by omega) (Ev.now _)
theorem big_ev (l : List Int) : laws_big.f l = some (decide ((l.length : Int) > 1048576)) := rfl

/-! ### the law -/
theorem chordOK_bd {a b : Int} (h : chordOK a b = true) : (0 ≤ a ∧ a ≤ 11) ∧ 1 ≤ b ∧ b ≤ 5 := by
  unfold chordOK at h
  simp only [decide_eq_true_eq] at h
  omega
theorem deg_fin : ∀ (i : Fin 14) (r : Fin 12) (s : Fin 5), degreeM (((i.val : Nat) : Int) - 7 + 1) (modM (wrap64 (((r.val : Nat) : Int) + 7)) 12) (((s.val : Nat) : Int) + 1) = degreeM (((i.val : Nat) : Int) - 7) ((r.val : Nat) : Int) (((s.val : Nat) : Int) + 1) := by decide +kernel
theorem deg_shift {k r s : Int} (hk : -7 ≤ k ∧ k ≤ 6) (hc : chordOK r s = true) : degreeM (k + 1) (modM (wrap64 (r + 7)) 12) s = degreeM k r s := by
  obtain ⟨⟨h1, h2⟩, h3, h4⟩ := chordOK_bd hc
  have h := deg_fin ⟨(k + 7).toNat, by omega⟩ ⟨r.toNat, by omega⟩ ⟨(s - 1).toNat, by omega⟩
  dsimp only at h
  rw [show (((k + 7).toNat : Nat) : Int) - 7 = k by omega, show ((r.toNat : Nat) : Int) = r by omega, show (((s - 1).toNat : Nat) : Int) + 1 = s by omega] at h
  exact h
def inKeyM (k r s : Int) : Bool := (tonesM r s).all (fun c => keyOK k && decide (0 ≤ idxI scaleM (modM (wrap64 (c - tonicM k)) 12) 0)) && (keyOK k && chordOK r s)
theorem isOfKey_in (k r s : Int) : isOfKeyM k r s = inKeyM k r s := by
  unfold isOfKeyM inKeyM
  simp only [inScale_eq]
theorem key_fin : ∀ (i : Fin 14) (r : Fin 12) (s : Fin 5), inKeyM (((i.val : Nat) : Int) - 7 + 1) (modM (wrap64 (((r.val : Nat) : Int) + 7)) 12) (((s.val : Nat) : Int) + 1) = inKeyM (((i.val : Nat) : Int) - 7) ((r.val : Nat) : Int) (((s.val : Nat) : Int) + 1) := by decide +kernel
theorem key_shift {k r s : Int} (hk : -7 ≤ k ∧ k ≤ 6) (hc : chordOK r s = true) : isOfKeyM (k + 1) (modM (wrap64 (r + 7)) 12) s = isOfKeyM k r s := by
  obtain ⟨⟨h1, h2⟩, h3, h4⟩ := chordOK_bd hc
  have h := key_fin ⟨(k + 7).toNat, by omega⟩ ⟨r.toNat, by omega⟩ ⟨(s - 1).toNat, by omega⟩
  dsimp only at h
  rw [show (((k + 7).toNat : Nat) : Int) - 7 = k by omega, show ((r.toNat : Nat) : Int) = r by omega, show (((s - 1).toNat : Nat) : Int) + 1 = s by omega] at h
  rw [isOfKey_in, isOfKey_in]; exact h
theorem chord_move {r s : Int} (h : chordOK r s = true) : chordOK (modM (wrap64 (r + 7)) 12) s = true := by
  have := modM12 (wrap64 (r + 7))
  have := chordOK_bd h
  unfold chordOK
  exact decide_eq_true (by omega)
theorem cad_move {a b r r' s : Int} (h : chordOK r s = true) (h' : chordOK r' s = true) : cadM a b r' s = cadM a b r s := by
  unfold cadM cad0 cad1
  rw [h, h']
theorem isPh_one {a b r s : Int} (h : isPh (cadM a b r s) = true) : b = 1 := by
  unfold cadM cad0 at h
  split at h
  · rename_i c; simp only [Bool.and_eq_true, beq_iff_eq] at c; exact c.1.2
  · unfold cad1 at h
    split at h
    · rename_i c; simp only [Bool.and_eq_true, beq_iff_eq] at c; exact c.2
    · unfold cad2 at h
      split at h
      · exact absurd h (by decide +kernel)
      · split at h
        · exact absurd h (by decide +kernel)
        · exact absurd h (by decide +kernel)
theorem ph_mem (k0 : Int) (l : List S25) (d : Nat) : ∀ i : Nat, (∀ e ∈ colM (phG k0 l) d i, ∃ j : Nat, i ≤ j ∧ j < i + d ∧ e = (j : Int) ∧ degreeM k0 (rd_T25 l (j : Int)).f0 (rd_T25 l (j : Int)).f1 = 1) ∧ (colM (phG k0 l) d i).Pairwise (· < ·) := by
  induction d with
  | zero => intro i; exact ⟨fun e h => by simp [colM] at h, by simp [colM]⟩
  | succ d ih =>
    intro i
    obtain ⟨h1, h2⟩ := ih (i + 1)
    have hh : ∀ e ∈ colM (phG k0 l) d (i + 1), ∃ j : Nat, i ≤ j ∧ j < i + (d + 1) ∧ e = (j : Int) ∧ degreeM k0 (rd_T25 l (j : Int)).f0 (rd_T25 l (j : Int)).f1 = 1 := fun e he => by
      obtain ⟨j, a, b, c, d'⟩ := h1 e he
      exact ⟨j, by omega, by omega, c, d'⟩
    simp only [colM]
    by_cases c : isPh (cadM (degreeM k0 (rd_T25 l ((i : Int) - 1)).f0 (rd_T25 l ((i : Int) - 1)).f1) (degreeM k0 (rd_T25 l (i : Int)).f0 (rd_T25 l (i : Int)).f1) (rd_T25 l ((i : Int) - 1)).f0 (rd_T25 l ((i : Int) - 1)).f1) = true
    · have e0 : phG k0 l (i : Int) = some (i : Int) := by unfold phG; rw [if_pos c]
      rw [e0]
      refine ⟨fun e he => ?_, List.pairwise_cons.2 ⟨fun e he => ?_, h2⟩⟩
      · rcases List.mem_cons.1 he with rfl | he
        · exact ⟨i, Nat.le_refl _, by omega, rfl, isPh_one c⟩
        · exact hh e he
      · obtain ⟨j, a, _, rfl, _⟩ := h1 e he
        show (i : Int) < (j : Int)
        omega
    · have e0 : phG k0 l (i : Int) = none := by unfold phG; rw [if_neg c]
      rw [e0]
      exact ⟨hh, h2⟩
theorem keys_mem (l : List S25) (n : Nat) : ∀ a : Int, (∀ e ∈ keysGo l n a, a ≤ e ∧ keyB e l = true) ∧ (keysGo l n a).Pairwise (· < ·) := by
  induction n with
  | zero => intro a; exact ⟨fun e h => by simp [keysGo] at h, by simp [keysGo]⟩
  | succ n ih =>
    intro a
    obtain ⟨h1, h2⟩ := ih (a + 1)
    have hh : ∀ e ∈ keysGo l n (a + 1), a ≤ e ∧ keyB e l = true := fun e he => ⟨by have := (h1 e he).1; omega, (h1 e he).2⟩
    simp only [keysGo]
    by_cases c : keyB a l = true
    · rw [if_pos c]
      refine ⟨fun e he => ?_, List.pairwise_cons.2 ⟨fun e he => ?_, h2⟩⟩
      · rcases List.mem_cons.1 he with rfl | he
        · exact ⟨Int.le_refl _, c⟩
        · exact hh e he
      · have := (h1 e he).1; omega
    · rw [if_neg c]
      exact ⟨hh, h2⟩

theorem cad_l2 (p : List Int) (c : List S25) (f : List Int) (hc : c.length ≤ 1048576) (i : Nat) (hi : i < f.length) (hk : keyB (rd f (i : Int)) c = true) (e1 : Ev (fun k => laws_FnCadences.l1 k p c f (wrap64 ((i : Int) + 1))) true) (suf : List S25) :
    ∀ pre : List S25, c = pre ++ suf → Ev (fun k => laws_FnCadences.l2 k p c f (i : Int) (pre.length : Int)) true := by
  induction suf with
  | nil =>
    intro pre h
    have hlen : c.length = pre.length := by rw [h]; simp
    refine ev_tail ?_
    simp only [laws_FnCadences.l2]
    exact ev_neg (by omega) e1
  | cons x t ih =>
    intro pre h
    have hlen : c.length = pre.length + (t.length + 1) := by rw [h]; simp
    have e := ih (pre ++ [x]) (by rw [h]; simp)
    have hx : isOfKeyM (rd f (i : Int)) x.f0 x.f1 = true := List.all_eq_true.1 hk x (by rw [h]; simp)
    have hr : rd_T25 c ((pre.length : Nat) : Int) = x := by rw [h]; exact getD_mid pre x t _
    refine ev_tail ?_
    simp only [laws_FnCadences.l2, hr]
    refine ev_pos (by omega) (ev_pos (by omega) (ev_pos (by omega) (ev_pos (by omega) (Ev.bind (implIsOfKey_ev _ _ _) (ev_pos hx ?_)))))
    rw [wrap_succ (by omega), ← length_snoc pre x]
    exact e
theorem cad_l1 (p : List Int) (hp : p.length ≤ 1048576) (hpa : p.Pairwise (· < ·)) (c : List S25) (hc : c.length ≤ 1048576) (f : List Int) (hf : f.length ≤ 1048576) (hfa : f.Pairwise (· < ·)) (hk : ∀ e ∈ f, keyB e c = true) (suf : List Int) :
    ∀ pre : List Int, f = pre ++ suf → Ev (fun k => laws_FnCadences.l1 k p c f (pre.length : Int)) true := by
  induction suf with
  | nil =>
    intro pre h
    have hlen : f.length = pre.length := by rw [h]; simp
    refine ev_tail ?_
    simp only [laws_FnCadences.l1]
    exact ev_neg (by omega) (Ev.bind (ascends_ev p hp hpa) (ev_pos (by trivial) (Ev.bind (ascends_ev f hf hfa) (Ev.now _))))
  | cons x t ih =>
    intro pre h
    have hlen : f.length = pre.length + (t.length + 1) := by rw [h]; simp
    have e := ih (pre ++ [x]) (by rw [h]; simp)
    have hr : rd f ((pre.length : Nat) : Int) = x := by rw [h]; exact rd_mid pre x t
    refine ev_tail ?_
    simp only [laws_FnCadences.l1]
    refine ev_pos (by omega) (cad_l2 p c f hc pre.length (by omega) (by rw [hr]; exact hk x (by rw [h]; simp)) ?_ c [] rfl)
    rw [wrap_succ (by omega), ← length_snoc pre x]
    exact e
theorem cad_l0 (b : List Int) (hb : b.length ≤ 1048576) (a : Int) (l : List S25) (hl : l.length ≤ 1048576) (p : List Int) (hp : p.length ≤ 1048576) (hpa : p.Pairwise (· < ·))
    (hm : ∀ e ∈ p, ∃ j : Nat, 1 ≤ j ∧ j < l.length ∧ e = (j : Int) ∧ degreeM a (rd_T25 l (j : Int)).f0 (rd_T25 l (j : Int)).f1 = 1) (suf : List Int) :
    ∀ pre : List Int, p = pre ++ suf → Ev (fun k => laws_FnCadences.l0 k b a l p (pre.length : Int)) true := by
  induction suf with
  | nil =>
    intro pre h
    have hlen : p.length = pre.length := by rw [h]; simp
    obtain ⟨c, e1, hc⟩ := drawKeys_ok b hb
    have hk := keys_mem c 15 (-7)
    refine ev_tail ?_
    simp only [laws_FnCadences.l0]
    refine ev_neg (by omega) (Ev.bind e1 (Ev.bind (implKeysFor_ev c) ?_))
    exact cad_l1 p hp hpa c (by omega) (keysM c) (by have := keysGo_length c 15 (-7); unfold keysM; omega) hk.2 (fun e he => (hk.1 e he).2) (keysM c) [] rfl
  | cons x t ih =>
    intro pre h
    have hlen : p.length = pre.length + (t.length + 1) := by rw [h]; simp
    have e := ih (pre ++ [x]) (by rw [h]; simp)
    have hr : rd p ((pre.length : Nat) : Int) = x := by rw [h]; exact rd_mid pre x t
    obtain ⟨j, h1, h2, h3, h4⟩ := hm x (by rw [h]; simp)
    refine ev_tail ?_
    simp only [laws_FnCadences.l0, hr]
    refine ev_pos (by omega) (ev_pos (by omega) (ev_neg (by omega) (ev_neg (by omega) (ev_pos (by omega) (ev_pos (by omega) (Ev.bind (implDegreeOf_ev _ _ _) (ev_pos (by rw [h3]; exact h4) ?_)))))))
    rw [wrap_succ (by omega), ← length_snoc pre x]
    exact e
theorem cad_j2 (b : List Int) (hb : b.length ≤ 1048576) : Ev (fun k => laws_FnCadences.j2 k b) true := by
  obtain ⟨a, l, e1, hl⟩ := drawPhrases_ok b hb
  have hm := ph_mem a l (l.length - 1) 1
  have hp : (phrasesM a l).length ≤ 1048576 := by
    have := colM_len (phG a l) (l.length - 1) 1
    unfold phrasesM; omega
  refine ev_tail ?_
  simp only [laws_FnCadences.j2]
  refine Ev.bind e1 (Ev.bind (implPhrasesOf_ev a l (by omega)) ?_)
  refine cad_l0 b hb a l (by omega) (phrasesM a l) hp hm.2 (fun e he => ?_) (phrasesM a l) [] rfl
  obtain ⟨j, h1, h2, h3, h4⟩ := hm.1 e he
  exact ⟨j, h1, by omega, h3, h4⟩
theorem cad_j1 (b : List Int) (hb : b.length ≤ 1048576) (a r s : Int) (ha : -7 ≤ a ∧ a ≤ 6) : Ev (fun k => laws_FnCadences.j1 k b a (moveM r s 7).2.2 false r s (moveM r s 7).1 (moveM r s 7).2.1) true := by
  have w : wrap64 (a + 1) = a + 1 := wrap_id (by omega) (by omega)
  refine ev_tail ?_
  simp only [laws_FnCadences.j1, w]
  refine ev_neg (by simp) (ev_ite (fun h => ?_) (fun _ => cad_j2 b hb))
  have hc : chordOK r s = true := by
    unfold moveM at h
    split at h
    · rename_i c; exact c.1
    · cases h
  have hm : moveM r s 7 = (modM (wrap64 (r + 7)) 12, s, true) := by unfold moveM; rw [if_pos ⟨hc, by omega, by omega⟩]
  rw [hm]
  refine Ev.bind (implIsOfKey_ev _ _ _) (Ev.bind (implIsOfKey_ev _ _ _) (ev_neg ?_ ?_))
  · rw [key_shift ha hc]; simp
  · exact Ev.bind (implDegreeOf_ev _ _ _) (Ev.bind (implDegreeOf_ev _ _ _) (ev_pos (deg_shift ha hc) (cad_j2 b hb)))
theorem cad_j0 (b : List Int) (hb : b.length ≤ 1048576) (a r s u v : Int) (c : Bool) (hc : c = true → -7 ≤ a ∧ a ≤ 6) : Ev (fun k => laws_FnCadences.j0 k b a (cadM (degreeM a r s) (degreeM a u v) r s) c r s u v) true := by
  refine ev_tail ?_
  simp only [laws_FnCadences.j0, implMoveChord_eq, Option.bind_some]
  refine ev_ite (fun h => ?_) (fun _ => cad_j2 b hb)
  have ha := hc h
  have w : wrap64 (a + 1) = a + 1 := wrap_id (by omega) (by omega)
  refine ev_ite (fun h1 => ev_ite (fun h2 => ?_) (fun _ => cad_j1 b hb a r s ha)) (fun _ => cad_j1 b hb a r s ha)
  have c1 : chordOK r s = true := by
    unfold moveM at h1
    split at h1
    · rename_i c; exact c.1
    · cases h1
  have c2 : chordOK u v = true := by
    unfold moveM at h2
    split at h2
    · rename_i c; exact c.1
    · cases h2
  have m1 : moveM r s 7 = (modM (wrap64 (r + 7)) 12, s, true) := by unfold moveM; rw [if_pos ⟨c1, by omega, by omega⟩]
  have m2 : moveM u v 7 = (modM (wrap64 (u + 7)) 12, v, true) := by unfold moveM; rw [if_pos ⟨c2, by omega, by omega⟩]
  refine Ev.bind (implCadenceOf_ev _ _ _ _ _) ?_
  have q : (cadM (degreeM (wrap64 (a + 1)) (moveM r s 7).1 (moveM r s 7).2.1) (degreeM (wrap64 (a + 1)) (moveM u v 7).1 (moveM u v 7).2.1) (moveM r s 7).1 (moveM r s 7).2.1).toList = (cadM (degreeM a r s) (degreeM a u v) r s).toList := by
    rw [w, m1, m2]
    dsimp only
    rw [deg_shift ha c1, deg_shift ha c2, cad_move c1 (chord_move c1)]
  rw [q]
  simp only [bne_self_eq_false]
  exact cad_j1 b hb a r s ha
theorem FnCadences : ∀ (l0 : List (Int)), (l0.length ≤ maxLen) → (∀ x ∈ l0, (Lit.int .u8 x).wf = true) → ∃ k, laws_FnCadences.f k l0 = some true := by
  intro b _ _
  refine Ev.rounds ?_
  simp only [laws_FnCadences.f, big_ev, Option.bind_some]
  refine ev_ite (fun _ => Ev.now _) (fun h => ?_)
  simp only [decide_eq_true_eq] at h
  have hb : b.length ≤ 1048576 := by omega
  obtain ⟨a, r, s, u, v, e⟩ := drawCadence_ok b hb
  refine Ev.bind e (Ev.bind (implCadenceOf_ev _ _ _ _ _) (Ev.bind (specCadenceOf_ev _ _ _ _ _) (ev_pos rfl (ev_ite (fun h1 => ?_) (fun _ => ?_)))))
  · exact cad_j0 b hb a r s u v _ (fun z => by simp only [decide_eq_true_eq] at z; omega)
  · exact cad_j0 b hb a r s u v false (fun z => by cases z)
end Go.Proofs.Ytlkicjkoejpmbaa.Pure
