/-
KeysFor of the program and of the reference: the same answer.
Conditions: none.
-/
import Derived.Test.YtpdhhpgdjbeaeaaPFnExactKeysForx6
import Derived.Test.YtpdhhpgdjbeaeaaBase
namespace Go.Proofs.Ytpdhhpgdjbeaeaa.Pure
open Go.RowKit Go.Proofs.Ytpdhhpgdjbeaeaa.PFnExactKeysFor Go.Proofs.YtpdhhpgdjbeaeaaW.PrintWords Go.Proofs.YtpdhhpgdjbeaeaaW.PrintLast Go.Proofs.YtpdhhpgdjbeaeaaW.PrintMore Go.Proofs.Ytpdhhpgdjbeaeaa.Base
set_option linter.unusedVariables false
set_option linter.unusedSimpArgs false

theorem l1In_eq (a b c : Int) : spec_l1In.f a b c = some (decide (b ≤ a ∧ a ≤ c)) := by
  unfold spec_l1In.f
  by_cases h1 : b ≤ a <;> by_cases h2 : a ≤ c <;> simp [h1, h2]
theorem InRange_eq (a b c : Int) : impl_InRange.f a b c = some (decide (b ≤ a ∧ a ≤ c)) := by
  unfold impl_InRange.f
  by_cases h1 : b ≤ a <;> by_cases h2 : a ≤ c <;> simp [h1, h2]

def modM (p q : Int) : Int := if 1 ≤ q ∧ q ≤ 1000000000000 then Int.tmod (wrap64 (Int.tmod p q + q)) q else 0
theorem specMod_eq (p q : Int) : spec_Mod.f p q = some (modM p q) := by
  simp only [spec_Mod.f, l1In_eq, Option.bind_some, modM]
  by_cases h : 1 ≤ q ∧ q ≤ 1000000000000
  · rw [if_pos (by simpa using h), if_neg (by omega), if_pos h]
  · rw [if_neg (by simpa using h), if_neg h]
theorem implMod_eq (p q : Int) : impl_Mod.f p q = some (modM p q) := by
  simp only [impl_Mod.f, InRange_eq, Option.bind_some, modM]
  by_cases h : 1 ≤ q ∧ q ≤ 1000000000000
  · rw [if_pos (by simpa using h), if_neg (by omega), if_pos h]
  · rw [if_neg (by simpa using h), if_neg h]

/-- A number behind the last, if it is another. -/
def addN (out : List Int) (n : Int) : List Int := if out.getLast? = some n then out else out ++ [n]
def cp (xs : List Int) : List Int := xs.foldl addN []
theorem cp_snoc (xs : List Int) (n : Int) : cp (xs ++ [n]) = addN (cp xs) n := by simp [cp]
theorem addN_last (out : List Int) (n : Int) : (addN out n).getLast? = some n := by
  unfold addN
  split
  · assumption
  · simp
theorem cp_last (xs : List Int) : (cp xs).getLast? = xs.getLast? := by
  rcases List.eq_nil_or_concat xs with h | ⟨t, n, h⟩
  · subst h; rfl
  · rw [h, List.concat_eq_append, cp_snoc, addN_last]; simp
theorem addN_length (out : List Int) (n : Int) : (addN out n).length ≤ out.length + 1 := by
  unfold addN
  split
  · omega
  · simp
theorem compact_snoc (xs : List Int) (n : Int) : Go.Lib.compact (xs ++ [n]) = if xs.getLast? = some n then Go.Lib.compact xs else Go.Lib.compact xs ++ [n] := by
  have hk : ∀ j, j < xs.length → Go.Lib.keeps (xs ++ [n]).toArray j = Go.Lib.keeps xs.toArray j := by
    intro j hj
    unfold Go.Lib.keeps
    have e1 : (xs ++ [n]).toArray[j]! = xs.toArray[j]! := by
      rw [getElem!_pos (xs ++ [n]).toArray j (by simp; omega), getElem!_pos xs.toArray j (by simpa using hj)]
      simp [List.getElem_append_left hj]
    have e2 : (xs ++ [n]).toArray[j - 1]! = xs.toArray[j - 1]! := by
      rw [getElem!_pos (xs ++ [n]).toArray (j - 1) (by simp; omega), getElem!_pos xs.toArray (j - 1) (by simp; omega)]
      simp [List.getElem_append_left (show j - 1 < xs.length by omega)]
    rw [e1, e2]
  have hv : ∀ j, j < xs.length → (xs ++ [n]).toArray[j]! = xs.toArray[j]! := by
    intro j hj
    rw [getElem!_pos (xs ++ [n]).toArray j (by simp; omega), getElem!_pos xs.toArray j (by simpa using hj)]
    simp [List.getElem_append_left hj]
  have hlast : Go.Lib.keeps (xs ++ [n]).toArray xs.length = decide (¬ xs.getLast? = some n) := by
    unfold Go.Lib.keeps
    refine decide_eq_decide.mpr ?_
    rcases List.eq_nil_or_concat xs with h | ⟨t, m, h⟩
    · subst h; simp
    · rw [List.concat_eq_append] at h
      subst h
      have e1 : (t ++ [m] ++ [n]).toArray[(t ++ [m]).length]! = n := by
        rw [getElem!_pos (t ++ [m] ++ [n]).toArray (t ++ [m]).length (by simp)]
        simp
      have e2 : (t ++ [m] ++ [n]).toArray[(t ++ [m]).length - 1]! = m := by
        rw [getElem!_pos (t ++ [m] ++ [n]).toArray ((t ++ [m]).length - 1) (by simp)]
        simp
      rw [e1, e2]
      simp only [List.length_append, List.length_cons, List.length_nil, List.getLast?_append, List.getLast?_singleton, Option.some_or, Option.some.injEq]
      constructor
      · rintro (h | h)
        · omega
        · exact fun e => h e.symm
      · exact fun h => .inr fun e => h e.symm
  have hfil : (List.range xs.length).filter (Go.Lib.keeps (xs ++ [n]).toArray) = (List.range xs.length).filter (Go.Lib.keeps xs.toArray) :=
    List.filter_congr fun j hj => hk j (List.mem_range.1 hj)
  have hmap : ((List.range xs.length).filter (Go.Lib.keeps xs.toArray)).map ((xs ++ [n]).toArray[·]!) = ((List.range xs.length).filter (Go.Lib.keeps xs.toArray)).map (xs.toArray[·]!) :=
    List.map_congr_left fun j hj => hv j (List.mem_range.1 (List.mem_filter.1 hj).1)
  have hn : (xs ++ [n]).toArray[xs.length]! = n := by
    rw [getElem!_pos (xs ++ [n]).toArray xs.length (by simp)]
    simp
  unfold Go.Lib.compact Go.Lib.compactUpTo
  rw [show (xs ++ [n]).length = xs.length + 1 by simp, List.range_succ, List.filter_append, List.map_append, hfil, hmap]
  by_cases h : xs.getLast? = some n
  · rw [if_pos h]
    simp [hlast, h]
  · rw [if_neg h]
    simp [hlast, h, hn]
theorem compact_cp (xs : List Int) : Go.Lib.compact xs = cp xs := by
  suffices h : ∀ m (xs : List Int), xs.length = m → Go.Lib.compact xs = cp xs from h _ xs rfl
  intro m
  induction m with
  | zero =>
    intro xs h
    obtain rfl := List.length_eq_zero_iff.1 h
    rfl
  | succ m ih =>
    intro xs h
    rcases List.eq_nil_or_concat xs with h' | ⟨t, n, h'⟩
    · subst h'; simp at h
    · rw [List.concat_eq_append] at h'
      subst h'
      rw [compact_snoc, cp_snoc, ih t (by simpa using h), addN, cp_last]

/-- A number into an ascending list. -/
def insN : List Int → Int → List Int
  | [], n => [n]
  | x :: t, n => if x < n then x :: insN t n else if x = n then x :: t else n :: x :: t
theorem insN_mem (l : List Int) (n y : Int) : y ∈ insN l n ↔ y ∈ l ∨ y = n := by
  induction l with
  | nil => simp [insN]
  | cons x t ih =>
    simp only [insN]
    split
    · simp only [List.mem_cons, ih]
      constructor
      · rintro (h | h | h) <;> simp [h]
      · rintro ((h | h) | h) <;> simp [h]
    · split
      · rename_i h; subst h
        simp only [List.mem_cons]
        constructor
        · exact fun h => .inl h
        · rintro (h | h)
          · exact h
          · exact .inl h
      · simp only [List.mem_cons]
        constructor
        · rintro (h | h | h) <;> simp [h]
        · rintro ((h | h) | h) <;> simp [h]
theorem insN_asc (l : List Int) (n : Int) (h : l.Pairwise (· < ·)) : (insN l n).Pairwise (· < ·) := by
  induction l with
  | nil => simp [insN]
  | cons x t ih =>
    obtain ⟨h1, h2⟩ := List.pairwise_cons.1 h
    simp only [insN]
    split
    · rename_i hx
      refine List.pairwise_cons.2 ⟨fun y hy => ?_, ih h2⟩
      rcases (insN_mem t n y).1 hy with hy | hy
      · exact h1 y hy
      · rw [hy]; exact hx
    · split
      · exact h
      · refine List.pairwise_cons.2 ⟨fun y hy => ?_, h⟩
        rcases List.mem_cons.1 hy with hy | hy
        · omega
        · have := h1 y hy; omega
theorem insN_length (l : List Int) (n : Int) : (insN l n).length ≤ l.length + 1 := by
  induction l with
  | nil => simp [insN]
  | cons x t ih =>
    simp only [insN]
    split
    · simp only [List.length_cons]; omega
    · split <;> simp
theorem l8Num_ins0 (n : Int) (suf : List Int) : ∀ pre : List Int, (pre ++ suf).length ≤ 1048576 → Ev (fun k => spec_l8Num.l0 k (pre ++ suf) n (pre.length : Int)) (pre ++ insN suf n) := by
  induction suf with
  | nil =>
    intro pre h
    refine ev_tail ?_
    simp only [spec_l8Num.l0, Option.bind_some, List.append_nil, Int.toNat_natCast, List.nil_append, List.length_nil, List.length_append, List.length_cons, List.length_drop, List.length_take]
    simp only [List.append_nil] at h
    refine ev_neg (by omega) (ev_pos (by omega) (ev_pos (by omega) (ev_pos (by omega) (ev_pos (by omega) (ev_pos (by omega) ?_)))))
    refine ev_eq (Ev.now _) ?_
    simp [insN]
  | cons x t ih =>
    intro pre h
    have hlen : pre.length + (t.length + 1) ≤ 1048576 := by simpa using h
    refine ev_tail ?_
    simp only [spec_l8Num.l0, rd_mid, Option.bind_some, List.nil_append]
    refine ev_pos (by simp; omega) (ev_pos (by omega) ?_)
    by_cases hlt : x < n
    · refine ev_pos hlt ?_
      have e := ih (pre ++ [x]) (by simpa using h)
      rw [wrap_succ (by omega), snoc_cons pre x t, ← length_snoc pre x]
      refine ev_eq e ?_
      simp [insN, hlt]
    · refine ev_neg hlt ?_
      by_cases he : x = n
      · refine ev_pos he (ev_pos (by simp; omega) ?_)
        refine ev_eq (Ev.now _) ?_
        simp only [insN]
        rw [if_neg hlt, if_pos he]
      · refine ev_neg he ?_
        simp only [Int.toNat_natCast, List.length_nil, List.length_append, List.length_cons, List.length_drop, List.length_take]
        refine ev_pos (by omega) (ev_pos (by omega) (ev_pos (by omega) (ev_pos (by omega) ?_)))
        refine ev_eq (Ev.now _) ?_
        simp only [insN]
        rw [if_neg hlt, if_neg he]
        simp
theorem l8Num_ins (l : List Int) (n : Int) (h : l.length ≤ 1048576) : Ev (fun k => spec_l8Num.f k l n) (insN l n) := by
  simp only [spec_l8Num.f]
  exact l8Num_ins0 n l [] (by simpa using h)
/-- The set of a list's numbers, ascending. -/
def setN (l : List Int) : List Int := l.foldl insN []
theorem foldl_insN (l : List Int) : ∀ out : List Int, out.Pairwise (· < ·) → (l.foldl insN out).Pairwise (· < ·) ∧ (∀ y, y ∈ l.foldl insN out ↔ y ∈ out ∨ y ∈ l) ∧ (l.foldl insN out).length ≤ out.length + l.length := by
  induction l with
  | nil => intro out h; exact ⟨h, fun y => by simp, by simp⟩
  | cons x t ih =>
    intro out h
    obtain ⟨h1, h2, h3⟩ := ih (insN out x) (insN_asc out x h)
    have := insN_length out x
    refine ⟨h1, fun y => ?_, by simp only [List.foldl_cons, List.length_cons]; omega⟩
    rw [List.foldl_cons, h2, insN_mem, List.mem_cons]
    constructor
    · rintro ((h | h) | h) <;> simp [h]
    · rintro (h | h | h) <;> simp [h]
theorem setN_asc (l : List Int) : (setN l).Pairwise (· < ·) := (foldl_insN l [] List.Pairwise.nil).1
theorem setN_mem (l : List Int) (y : Int) : y ∈ setN l ↔ y ∈ l := by
  have := (foldl_insN l [] List.Pairwise.nil).2.1 y
  simpa [setN] using this
theorem setN_length (l : List Int) : (setN l).length ≤ l.length := by
  have := (foldl_insN l [] List.Pairwise.nil).2.2
  simpa [setN] using this
/-- Ascending lists of the same numbers are one. -/
theorem asc_ext (a : List Int) : ∀ b : List Int, a.Pairwise (· < ·) → b.Pairwise (· < ·) → (∀ y, y ∈ a ↔ y ∈ b) → a = b := by
  induction a with
  | nil =>
    intro b _ _ h
    cases b with
    | nil => rfl
    | cons y t => have := (h y).2 (by simp); cases this
  | cons x t ih =>
    intro b ha hb h
    cases b with
    | nil => have := (h x).1 (by simp); cases this
    | cons y s =>
      obtain ⟨a1, a2⟩ := List.pairwise_cons.1 ha
      obtain ⟨b1, b2⟩ := List.pairwise_cons.1 hb
      have hx : x = y := by
        rcases List.mem_cons.1 ((h x).1 (by simp)) with e | e
        · exact e
        · rcases List.mem_cons.1 ((h y).2 (by simp)) with f | f
          · exact f.symm
          · have := b1 x e; have := a1 y f; omega
      subst hx
      rw [ih s a2 b2 (fun z => ?_)]
      constructor
      · intro hz
        rcases List.mem_cons.1 ((h z).1 (by simp [hz])) with e | e
        · have := a1 z hz; omega
        · exact e
      · intro hz
        rcases List.mem_cons.1 ((h z).2 (by simp [hz])) with e | e
        · have := b1 z hz; omega
        · exact e
theorem cp_sorted (l : List Int) : l.Pairwise (· ≤ ·) → (cp l).Pairwise (· < ·) ∧ ∀ y, y ∈ cp l ↔ y ∈ l := by
  suffices h : ∀ m (xs : List Int), xs.length = m → xs.Pairwise (· ≤ ·) → (cp xs).Pairwise (· < ·) ∧ ∀ y, y ∈ cp xs ↔ y ∈ xs from h _ l rfl
  intro m
  induction m with
  | zero =>
    intro xs h _
    obtain rfl := List.length_eq_zero_iff.1 h
    exact ⟨List.Pairwise.nil, fun y => by simp [cp]⟩
  | succ m ih =>
    intro xs h hp
    rcases List.eq_nil_or_concat xs with h' | ⟨t, n, h'⟩
    · subst h'; simp at h
    · rw [List.concat_eq_append] at h'
      subst h'
      obtain ⟨p1, p2, p3⟩ := List.pairwise_append.1 hp
      obtain ⟨i1, i2⟩ := ih t (by simpa using h) p1
      have hn : ∀ x ∈ t, x ≤ n := fun x hx => p3 x hx n (by simp)
      rw [cp_snoc]
      unfold addN
      rw [cp_last]
      by_cases e : t.getLast? = some n
      · rw [if_pos e]
        refine ⟨i1, fun y => ?_⟩
        rw [i2, List.mem_append, List.mem_singleton]
        constructor
        · exact fun h => .inl h
        · rintro (h | h)
          · exact h
          · rw [h]; exact List.mem_of_getLast? e
      · rw [if_neg e]
        refine ⟨List.pairwise_append.2 ⟨i1, by simp, fun x hx y hy => ?_⟩, fun y => by simp [i2]⟩
        rw [List.mem_singleton.1 hy]
        have hx' := (i2 x).1 hx
        have h1 := hn x hx'
        rcases Int.lt_or_eq_of_le h1 with h2 | h2
        · exact h2
        · exfalso
          subst h2
          -- x is in t and every later one is at least x: the last is x
          have hne : t ≠ [] := by intro h; subst h; cases hx'
          have hl := List.getLast_mem hne
          have h3 : x ≤ t.getLast hne := by
            obtain ⟨i, hi, hxi⟩ := List.getElem_of_mem hx'
            rw [List.getLast_eq_getElem]
            rcases Nat.lt_or_ge i (t.length - 1) with h4 | h4
            · have := List.pairwise_iff_getElem.1 p1 i (t.length - 1) hi (by omega) h4
              rw [hxi] at this; exact this
            · have : i = t.length - 1 := by omega
              subst this; rw [hxi]; exact Int.le_refl _
          have h4 := hn _ hl
          have : t.getLast hne = x := by omega
          exact e (by rw [List.getLast?_eq_some_getLast hne, this])
theorem sorted_asc (l : List Int) : (ShSort.sorted l).Pairwise (· ≤ ·) := by
  have := List.pairwise_mergeSort (le := fun x y : Int => decide (x ≤ y)) (fun a b c h1 h2 => by simp at *; omega) (fun a b => by simp; omega) l
  exact this.imp (fun h => by simpa using h)
theorem compact_sorted (l : List Int) : Go.Lib.compact (ShSort.sorted l) = setN l := by
  rw [compact_cp]
  obtain ⟨h1, h2⟩ := cp_sorted _ (sorted_asc l)
  exact asc_ext _ _ h1 (setN_asc l) (fun y => by rw [h2, setN_mem]; unfold ShSort.sorted; exact List.mem_mergeSort)

def classesM (l : List Int) : List Int := setN (l.map fun p => modM p 12)
theorem classesM_length (l : List Int) : (classesM l).length ≤ l.length := by
  have := setN_length (l.map fun p => modM p 12)
  simpa [classesM] using this
theorem sortCompact (k : Nat) (l : List Int) (h : l.length ≤ 1048576) : ((slices_Sort_int_int.f l).bind fun t => (slices_Compact_int_int.f k t).bind fun u => some u) = some (setN l) := by
  simp only [slices_Sort_int_int.f, slices_Compact_int_int.f]
  rw [if_pos (by omega), Option.bind_some, Option.bind_some, compact_sorted]
theorem implClasses_l0 (suf : List Int) : ∀ (pre out : List Int), (pre ++ suf).length ≤ 1048576 → out.length = pre.length → Ev (fun k => impl_ClassesOf.l0 k out (pre ++ suf) ((pre ++ suf).length : Int) (pre.length : Int)) (setN (out ++ suf.map fun p => modM p 12)) := by
  induction suf with
  | nil =>
    intro pre out h ho
    refine ev_tail ?_
    simp only [impl_ClassesOf.l0]
    refine ev_neg (by simp) ?_
    simp only [List.append_nil, List.length_append, List.length_nil] at h
    have hs := fun k => sortCompact k out (by omega)
    simp only [hs, List.map_nil, List.append_nil]
    exact Ev.now _
  | cons x t ih =>
    intro pre out h ho
    have e := ih (pre ++ [x]) (out ++ [modM x 12]) (by simpa using h) (by simp [ho])
    simp only [List.length_append, List.length_cons] at h
    refine ev_tail ?_
    simp only [impl_ClassesOf.l0]
    refine ev_pos (by simp; omega) (ev_pos (by omega) (ev_pos (by simp; omega) ?_))
    rw [rd_mid]
    refine ev_val (implMod_eq x 12) (ev_pos (by omega) ?_)
    rw [wrap_succ (by omega), snoc_cons pre x t, ← length_snoc pre x]
    refine ev_eq e ?_
    simp
theorem implClassesOf_ev (l : List Int) (h : l.length ≤ 1048576) : Ev (fun k => impl_ClassesOf.f k l) (classesM l) := by
  simp only [impl_ClassesOf.f]
  exact implClasses_l0 l [] [] (by simpa using h) rfl

def chordOK (a b : Int) : Bool := decide (0 ≤ a ∧ a ≤ 11 ∧ 1 ≤ b ∧ b ≤ 5)
theorem specIsChord_eq (a b : Int) : spec_IsChord.f a b = some (chordOK a b) := by
  simp only [spec_IsChord.f, l1In_eq, Option.bind_some, chordOK]
  by_cases h1 : 0 ≤ a <;> by_cases h2 : a ≤ 11 <;> by_cases h3 : 1 ≤ b <;> by_cases h4 : b ≤ 5 <;> simp [h1, h2, h3, h4]
theorem implIsChord_eq (a b : Int) : impl_IsChord.f a b = some (chordOK a b) := by
  simp only [impl_IsChord.f, InRange_eq, Option.bind_some, chordOK]
  by_cases h1 : 0 ≤ a <;> by_cases h2 : a ≤ 11 <;> by_cases h3 : 1 ≤ b <;> by_cases h4 : b ≤ 5 <;> simp [h1, h2, h3, h4]

def tabT : List (List Int) := [[0, 4, 7], [0, 3, 7], [0, 3, 6], [0, 4, 8], [0, 4, 7, 10]]
def halvesT (kd : Int) : List Int := rd_L2 tabT (kd - 1)
theorem halvesT_facts {kd : Int} (h : 1 ≤ kd ∧ kd ≤ 5) : (halvesT kd).length ≤ 4 ∧ ∀ x ∈ halvesT kd, 0 ≤ x ∧ x ≤ 10 := by
  have : kd = 1 ∨ kd = 2 ∨ kd = 3 ∨ kd = 4 ∨ kd = 5 := by omega
  rcases this with rfl | rfl | rfl | rfl | rfl <;> exact ⟨by decide, by decide⟩
def tonesM (r kd : Int) : List Int := if chordOK r kd = true then classesM ((halvesT kd).map fun h => r + h) else []
theorem chordOK_facts {a b : Int} (h : chordOK a b = true) : (0 ≤ a ∧ a ≤ 11) ∧ 1 ≤ b ∧ b ≤ 5 := by
  unfold chordOK at h
  simp only [decide_eq_true_eq] at h
  omega
theorem modM_nonneg {p : Int} (h : 0 ≤ p) (h2 : p ≤ 1000000) : modM p 12 = Int.tmod p 12 := by
  unfold modM
  rw [if_pos (by omega), Int.tmod_eq_emod_of_nonneg h, wrap_id (by omega) (by omega), Int.tmod_eq_emod_of_nonneg (by omega)]
  omega
theorem tonesM_length (r kd : Int) : (tonesM r kd).length ≤ 4 := by
  unfold tonesM
  split
  · rename_i h
    have h1 := classesM_length ((halvesT kd).map fun h => r + h)
    have h2 := (halvesT_facts (chordOK_facts h).2).1
    rw [List.length_map] at h1
    omega
  · simp
theorem specTones_l0 (r kd : Int) (hr : 0 ≤ r ∧ r ≤ 11) (suf : List Int) : ∀ (pre out : List Int), (pre ++ suf).length ≤ 1048576 → out.length ≤ pre.length → (∀ x ∈ suf, 0 ≤ x ∧ x ≤ 10) → Ev (fun k => spec_TonesOf.l0 k out (pre ++ suf) (pre.length : Int) r kd) (((suf.map fun h => r + h).map fun p => modM p 12).foldl insN out) := by
  induction suf with
  | nil =>
    intro pre out h ho _
    refine ev_tail ?_
    simp only [spec_TonesOf.l0]
    exact ev_neg (by simp) (Ev.now _)
  | cons x t ih =>
    intro pre out h ho hx
    have hxx := hx x (by simp)
    have hi := insN_length out (modM (r + x) 12)
    have e := ih (pre ++ [x]) (insN out (modM (r + x) 12)) (by simpa using h) (by simp; omega) (fun y hy => hx y (by simp [hy]))
    simp only [List.length_append, List.length_cons] at h
    refine ev_tail ?_
    simp only [spec_TonesOf.l0]
    refine ev_pos (by simp; omega) (ev_pos (by omega) ?_)
    rw [rd_mid, wrap_id (n := r + x) (by omega) (by omega), ← modM_nonneg (by omega) (by omega)]
    refine Ev.bind (l8Num_ins out _ (by omega)) ?_
    rw [wrap_succ (by omega), snoc_cons pre x t, ← length_snoc pre x]
    exact e
theorem spec_halves_eq {kd : Int} (h : 1 ≤ kd ∧ kd ≤ 5) : spec_l22Halves.f kd = some (halvesT kd) := by
  unfold spec_l22Halves.f
  rw [Option.bind_some, wrap_id (by omega) (by omega), if_pos (by omega), if_pos (by simp; omega)]
  rfl
theorem specTonesOf_ev (r kd : Int) : Ev (fun k => spec_TonesOf.f k r kd) (tonesM r kd) := by
  simp only [spec_TonesOf.f, Option.bind_some]
  refine ev_val (specIsChord_eq r kd) (ev_ite (fun h => ?_) (fun h => ?_))
  · obtain ⟨h1, h2⟩ := chordOK_facts h
    obtain ⟨h3, h4⟩ := halvesT_facts h2
    refine ev_val (spec_halves_eq h2) ?_
    rw [tonesM, if_pos h]
    exact specTones_l0 r kd h1 (halvesT kd) [] [] (by simp; omega) (by simp) h4
  · rw [tonesM, if_neg h]; exact Ev.now _
theorem implTones_l0 (r kd : Int) (hr : 0 ≤ r ∧ r ≤ 11) (suf : List Int) : ∀ (pre out : List Int), (pre ++ suf).length ≤ 1048576 → out.length = pre.length → (∀ x ∈ suf, 0 ≤ x ∧ x ≤ 10) → Ev (fun k => impl_TonesOf.l0 k out (pre ++ suf) ((pre ++ suf).length : Int) (pre.length : Int) r kd) (classesM (out ++ suf.map fun h => r + h)) := by
  induction suf with
  | nil =>
    intro pre out h ho _
    refine ev_tail ?_
    simp only [impl_TonesOf.l0]
    refine ev_neg (by simp) ?_
    simp only [List.append_nil, List.length_append, List.length_nil] at h
    rw [List.map_nil, List.append_nil]
    exact Ev.bind (implClassesOf_ev out (by omega)) (Ev.now _)
  | cons x t ih =>
    intro pre out h ho hx
    have hxx := hx x (by simp)
    have e := ih (pre ++ [x]) (out ++ [r + x]) (by simpa using h) (by simp [ho]) (fun y hy => hx y (by simp [hy]))
    simp only [List.length_append, List.length_cons] at h
    refine ev_tail ?_
    simp only [impl_TonesOf.l0]
    refine ev_pos (by simp; omega) (ev_pos (by omega) (ev_pos (by simp; omega) (ev_pos (by omega) ?_)))
    rw [rd_mid, wrap_id (n := r + x) (by omega) (by omega), wrap_succ (by omega), snoc_cons pre x t, ← length_snoc pre x]
    refine ev_eq e ?_
    simp
theorem implTonesOf_ev (r kd : Int) : Ev (fun k => impl_TonesOf.f k r kd) (tonesM r kd) := by
  simp only [impl_TonesOf.f, Option.bind_some]
  refine ev_val (implIsChord_eq r kd) (ev_ite (fun h => ?_) (fun h => ?_))
  · obtain ⟨h1, h2⟩ := chordOK_facts h
    obtain ⟨h3, h4⟩ := halvesT_facts h2
    rw [tonesM, if_pos h, wrap_id (n := kd - 1) (by omega) (by omega)]
    refine ev_pos (by omega) (ev_pos (by simp; omega) ?_)
    exact implTones_l0 r kd h1 (halvesT kd) [] [] (by simp; omega) rfl h4
  · rw [tonesM, if_neg h]; exact Ev.now _

def keyOK (k : Int) : Bool := decide (-7 ≤ k ∧ k ≤ 7)
theorem specIsKey_eq (k : Int) : spec_IsKey.f k = some (keyOK k) := by
  simp only [spec_IsKey.f, l1In_eq, Option.bind_some, keyOK]
theorem implIsKey_eq (k : Int) : impl_IsKey.f k = some (keyOK k) := by
  simp only [impl_IsKey.f, InRange_eq, Option.bind_some, keyOK]
def tonicM (k : Int) : Int := if keyOK k = true then modM (wrap64 (7 * k)) 12 else -1
theorem specTonicOf_eq (k : Int) : spec_TonicOf.f k = some (tonicM k) := by
  simp only [spec_TonicOf.f, specIsKey_eq, specMod_eq, Option.bind_some, tonicM]
  by_cases h : keyOK k = true <;> simp [h]
theorem implTonicOf_eq (k : Int) : impl_TonicOf.f k = some (tonicM k) := by
  simp only [impl_TonicOf.f, implIsKey_eq, implMod_eq, Option.bind_some, tonicM]
  by_cases h : keyOK k = true <;> simp [h]

/-- Where x stands first in a list, counted from i; -1: nowhere. -/
def idxI : List Int → Int → Int → Int
  | [], _, _ => -1
  | y :: t, x, i => if x = y then i else idxI t x (i + 1)
theorem idxI_bd (l : List Int) (x : Int) : ∀ i, 0 ≤ i → -1 ≤ idxI l x i ∧ idxI l x i < i + l.length + 1 := by
  induction l with
  | nil => intro i h; simp [idxI]; omega
  | cons y t ih =>
    intro i h
    simp only [idxI]
    split
    · simp; omega
    · have := ih (i + 1) (by omega)
      simp only [List.length_cons]
      omega
theorem Index_l0 (x : Int) (suf : List Int) : ∀ pre : List Int, (pre ++ suf).length ≤ 35184372088832 → Ev (fun k => slices_Index_int_int.l0 k (pre ++ suf) x ((pre ++ suf).length : Int) (pre.length : Int)) (idxI suf x (pre.length : Int)) := by
  induction suf with
  | nil =>
    intro pre h
    refine ev_tail ?_
    simp only [slices_Index_int_int.l0]
    exact ev_neg (by simp) (Ev.now _)
  | cons y t ih =>
    intro pre h
    have e := ih (pre ++ [y]) (by simpa using h)
    simp only [List.length_append, List.length_cons] at h
    refine ev_tail ?_
    simp only [slices_Index_int_int.l0, idxI]
    refine ev_pos (by simp; omega) (ev_pos (by omega) (ev_pos (by simp; omega) ?_))
    rw [rd_mid]
    by_cases hy : x = y
    · rw [if_pos hy]
      exact ev_pos hy (Ev.now _)
    · rw [if_neg hy]
      refine ev_neg hy ?_
      rw [wrap_succ (by omega), snoc_cons pre y t, ← length_snoc pre y]
      simpa using e
theorem Index_ev (l : List Int) (x : Int) (h : l.length ≤ 35184372088832) : Ev (fun k => slices_Index_int_int.f k l x) (idxI l x 0) := by
  simp only [slices_Index_int_int.f]
  exact Index_l0 x l [] (by simpa using h)

def scaleM : List Int := [0, 2, 4, 5, 7, 9, 11]
def degreeM (k a b : Int) : Int := if keyOK k = true ∧ chordOK a b = true then idxI scaleM (modM (wrap64 (a - tonicM k)) 12) 0 + 1 else 0
theorem specDegree_l0 (k0 a b : Int) (suf : List Int) : ∀ pre : List Int, scaleM = pre ++ suf → Ev (fun k => spec_DegreeOf.l0 k k0 scaleM (pre.length : Int) a b) (idxI suf (modM (wrap64 (a - tonicM k0)) 12) (pre.length : Int) + 1) := by
  induction suf with
  | nil =>
    intro pre h
    have hl : pre.length = 7 := by have := congrArg List.length h; simpa [scaleM] using this.symm
    refine ev_tail ?_
    simp only [spec_DegreeOf.l0]
    exact ev_neg (by omega) (Ev.now _)
  | cons y t ih =>
    intro pre h
    have e := ih (pre ++ [y]) (by simpa using h)
    have hl : pre.length + (t.length + 1) = 7 := by have := congrArg List.length h; simpa [scaleM] using this.symm
    refine ev_tail ?_
    simp only [spec_DegreeOf.l0, specTonicOf_eq, specMod_eq, Option.bind_some, idxI]
    refine ev_pos (by omega) (ev_pos (by omega) (ev_pos (by simp [scaleM]; omega) ?_))
    have hr : rd scaleM (pre.length : Int) = y := by rw [h, rd_mid]
    rw [hr, wrap_succ (by omega)]
    by_cases hy : modM (wrap64 (a - tonicM k0)) 12 = y
    · rw [if_pos hy]
      exact ev_pos hy.symm (Ev.now _)
    · rw [if_neg hy]
      refine ev_neg (fun h => hy h.symm) ?_
      rw [← length_snoc pre y]
      simpa using e
theorem specDegreeOf_ev (k0 a b : Int) : Ev (fun k => spec_DegreeOf.f k k0 a b) (degreeM k0 a b) := by
  simp only [spec_DegreeOf.f, specIsKey_eq, specIsChord_eq, Option.bind_some, degreeM]
  by_cases hk : keyOK k0 = true
  · refine ev_pos hk (ev_tail ?_)
    simp only [spec_DegreeOf.j0]
    by_cases hc : chordOK a b = true
    · rw [if_pos ⟨hk, hc⟩]
      refine ev_neg (by simp [hc]) ?_
      exact specDegree_l0 k0 a b scaleM [] rfl
    · rw [if_neg (fun h => hc h.2)]
      exact ev_pos (by simpa using hc) (Ev.now _)
  · rw [if_neg (fun h => hk h.1)]
    refine ev_neg hk (ev_tail ?_)
    simp only [spec_DegreeOf.j0]
    exact ev_pos (by trivial) (Ev.now _)

theorem modM12 (p : Int) : 0 ≤ modM p 12 ∧ modM p 12 ≤ 11 := by
  unfold modM
  rw [if_pos (by omega)]
  have h1 : -11 ≤ Int.tmod p 12 ∧ Int.tmod p 12 ≤ 11 := by
    rcases Int.le_total 0 p with h | h
    · rw [Int.tmod_eq_emod_of_nonneg h]; omega
    · have e := Int.neg_tmod (-p) 12
      rw [Int.neg_neg] at e
      rw [e, Int.tmod_eq_emod_of_nonneg (by omega)]; omega
  generalize Int.tmod p 12 = m at h1 ⊢
  rw [wrap_id (by omega) (by omega), Int.tmod_eq_emod_of_nonneg (by omega)]
  omega
theorem tonesM_bd (r kd : Int) : ∀ x ∈ tonesM r kd, 0 ≤ x ∧ x ≤ 11 := by
  intro x hx
  unfold tonesM at hx
  split at hx
  · unfold classesM at hx
    rw [setN_mem] at hx
    obtain ⟨y, _, rfl⟩ := List.mem_map.1 hx
    exact modM12 y
  · cases hx
theorem inScale_eq (a0 c : Int) : inScale a0 c = decide (0 ≤ idxI scaleM (modM (wrap64 (c - tonicM a0)) 12) 0) := by
  have h1 := inScale_some a0 c
  have t : PFnExactKeysFor.tonicM a0 = tonicM a0 := by
    have h := tonic_some a0
    rw [implTonicOf_eq] at h
    exact (Option.some.inj h).symm
  have m : ∀ x, PFnExactKeysFor.modM x = modM x 12 := fun x => by
    have h := modM_some x
    rw [implMod_eq] at h
    exact (Option.some.inj h).symm
  rw [t, m] at h1
  obtain ⟨K, hK⟩ := Index_ev scaleM (modM (wrap64 (c - tonicM a0)) 12) (by simp [scaleM])
  have h2 := at_rounds (g := fun k => slices_Contains_int_int.f k scaleL (modM (wrap64 (c - tonicM a0)) 12)) (fun k => slices_Contains_int_int.mono _ _ k) (show 8 ≤ 8 + K by omega) h1
  have h3 := hK (8 + K) (by omega)
  change (slices_Index_int_int.f (8 + K) scaleM _).bind _ = _ at h2
  dsimp only at h3
  rw [h3] at h2
  exact (Option.some.inj h2).symm
theorem degree_zero (a0 x : Int) (hx : 0 ≤ x ∧ x ≤ 11) : degreeM a0 x 1 = 0 ↔ (keyOK a0 && inScale a0 x) = false := by
  have hb := idxI_bd scaleM (modM (wrap64 (x - tonicM a0)) 12) 0 (by omega)
  have hc : chordOK x 1 = true := by unfold chordOK; exact decide_eq_true (by omega)
  unfold degreeM
  rw [inScale_eq]
  by_cases hk : keyOK a0 = true
  · rw [if_pos ⟨hk, hc⟩, hk, Bool.true_and, decide_eq_false_iff_not]
    omega
  · rw [if_neg (fun z => hk z.1), Bool.eq_false_iff.mpr hk]
    simp
def isOfKeyM (a0 r kd : Int) : Bool := (tonesM r kd).all (fun c => keyOK a0 && inScale a0 c) && (keyOK a0 && chordOK r kd)
theorem specKey_l0 (a0 r kd : Int) (suf : List Int) : ∀ pre : List Int, (pre ++ suf).length ≤ 1000 → (∀ x ∈ suf, 0 ≤ x ∧ x ≤ 11) → Ev (fun k => spec_IsOfKey.l0 k a0 (pre ++ suf) (pre.length : Int) r kd) (suf.all (fun c => keyOK a0 && inScale a0 c) && (keyOK a0 && chordOK r kd)) := by
  induction suf with
  | nil =>
    intro pre h hx
    refine ev_tail ?_
    simp only [spec_IsOfKey.l0, specIsKey_eq, specIsChord_eq, Option.bind_some]
    refine ev_neg (by simp) (ev_ite (fun h1 => ?_) (fun h1 => ?_))
    · exact ev_eq (Ev.now _) (by simp [h1])
    · exact ev_eq (Ev.now _) (by simp [h1])
  | cons x t ih =>
    intro pre h hx
    have e := ih (pre ++ [x]) (by simpa using h) (fun y hy => hx y (List.mem_cons_of_mem _ hy))
    have hz := degree_zero a0 x (hx x (by simp))
    simp only [List.length_append, List.length_cons] at h
    refine ev_tail ?_
    simp only [spec_IsOfKey.l0]
    refine ev_pos (by simp; omega) (ev_pos (by omega) ?_)
    rw [rd_mid, wrap_succ (by omega), snoc_cons pre x t, ← length_snoc pre x, List.all_cons]
    refine Ev.bind (specDegreeOf_ev a0 x 1) (ev_ite (fun h0 => ?_) (fun h0 => ?_))
    · rw [hz.1 h0]; exact Ev.now _
    · have : (keyOK a0 && inScale a0 x) = true := by
        cases hq : (keyOK a0 && inScale a0 x)
        · exact absurd (hz.2 hq) h0
        · rfl
      rw [this, Bool.true_and]; exact e
theorem specIsOfKey_ev (a0 r kd : Int) : Ev (fun k => spec_IsOfKey.f k a0 r kd) (isOfKeyM a0 r kd) := by
  simp only [spec_IsOfKey.f, isOfKeyM]
  have := tonesM_length r kd
  exact Ev.bind (specTonesOf_ev r kd) (specKey_l0 a0 r kd (tonesM r kd) [] (by simp; omega) (tonesM_bd r kd))
theorem implIsOfKey_ev (a0 r kd : Int) : Ev (fun k => impl_IsOfKey.f k a0 r kd) (isOfKeyM a0 r kd) := by
  simp only [impl_IsOfKey.f, isOfKeyM]
  have hl := tonesM_length r kd
  refine ev_val (implIsKey_eq a0) (ev_ite (fun hk => ?_) (fun hk => ev_eq (Ev.now _) (by simp [hk])))
  refine ev_val (implIsChord_eq r kd) (ev_ite (fun hc => ?_) (fun hc => ev_eq (Ev.now _) (by simp [hc])))
  refine Ev.bind (implTonesOf_ev r kd) (ev_pos (by omega) (ev_eq (Ev.now _) ?_))
  rw [hk, hc]
  simp [List.all_eq_not_any_not]

theorem eqIntS_l0 (suf : List Int) : ∀ pre : List Int, (pre ++ suf).length ≤ 35184372088832 → Ev (fun k => laws_eqIntS.l0 k (pre ++ suf) (pre ++ suf) (pre.length : Int)) true := by
  induction suf with
  | nil =>
    intro pre h
    refine ev_tail ?_
    simp only [laws_eqIntS.l0]
    exact ev_neg (by simp) (Ev.now true)
  | cons x t ih =>
    intro pre h
    have e := ih (pre ++ [x]) (by simpa using h)
    simp only [List.length_append, List.length_cons] at h
    refine ev_tail ?_
    simp only [laws_eqIntS.l0]
    refine ev_pos (by simp; omega) (ev_pos (by omega) (ev_pos (by simp; omega) (ev_pos (by trivial) ?_)))
    rw [wrap_succ (by omega), snoc_cons pre x t, ← length_snoc pre x]
    exact e
theorem eqIntS_ev (l : List Int) (h : l.length ≤ 35184372088832) : Ev (fun k => laws_eqIntS.f k l l) true := by
  simp only [laws_eqIntS.f]
  refine ev_pos (by trivial) ?_
  exact eqIntS_l0 l [] (by simpa using h)

theorem markIntS_l0 (suf : List Int) : ∀ (pre : List Int) (m : Int), (pre ++ suf).length ≤ 35184372088832 → 0 ≤ m → m + suf.length ≤ 9223372036854775807 → Ev (fun k => laws_markIntS.l0 k (pre ++ suf) m (pre.length : Int)) (m + suf.length, pre ++ marks suf.length m) := by
  induction suf with
  | nil =>
    intro pre m h h0 h1
    refine ev_tail ?_
    simp only [laws_markIntS.l0]
    refine ev_neg (by simp) ?_
    simpa [marks] using Ev.now _
  | cons y t ih =>
    intro pre m h h0 h1
    simp only [List.length_cons] at h1
    have e := ih (pre ++ [m]) (m + 1) (by simpa using h) (by omega) (by omega)
    simp only [List.length_append, List.length_cons] at h
    refine ev_tail ?_
    simp only [laws_markIntS.l0]
    refine ev_pos (by simp; omega) (ev_pos (by omega) ?_)
    rw [set_mid, wrap_succ (by omega), wrap_id (n := m + 1) (by omega) (by omega), snoc_cons pre m t, ← length_snoc pre m]
    refine ev_eq e ?_
    simp only [marks, List.length_cons, List.append_assoc, List.singleton_append]
    congr 1
    omega
theorem markIntS_ev (l : List Int) (m : Int) (h : l.length ≤ 35184372088832) (h0 : 0 ≤ m) (h1 : m + l.length ≤ 9223372036854775807) : Ev (fun k => laws_markIntS.f k l m) (m + l.length, marks l.length m) := by
  simp only [laws_markIntS.f]
  exact markIntS_l0 l [] m (by simpa using h) h0 h1

theorem heldIntS_l0 (n : Nat) : ∀ (pre : List Int) (m : Int), pre.length + n ≤ 35184372088832 → 0 ≤ m → m + n ≤ 9223372036854775807 → Ev (fun k => laws_heldIntS.l0 k (pre ++ marks n m) m (pre.length : Int)) (m + n) := by
  induction n with
  | zero =>
    intro pre m h h0 h1
    refine ev_tail ?_
    simp only [laws_heldIntS.l0]
    refine ev_neg (by simp [marks]) ?_
    simpa using Ev.now m
  | succ n ih =>
    intro pre m h h0 h1
    have e := ih (pre ++ [m]) (m + 1) (by simp; omega) (by omega) (by omega)
    refine ev_tail ?_
    simp only [laws_heldIntS.l0, marks]
    refine ev_pos (by simp [marks_length]; omega) (ev_pos (by omega) (ev_pos (rd_mid pre m _) ?_))
    rw [wrap_succ (by omega), wrap_id (n := m + 1) (by omega) (by omega), snoc_cons pre m (marks n (m + 1)), ← length_snoc pre m]
    exact ev_eq e (by omega)
theorem heldIntS_ev (n : Nat) (m : Int) (h : n ≤ 35184372088832) (h0 : 0 ≤ m) (h1 : m + n ≤ 9223372036854775807) : Ev (fun k => laws_heldIntS.f k (marks n m) m) (m + n) := by
  simp only [laws_heldIntS.f]
  exact heldIntS_l0 n [] m (by simpa using h) h0 h1

def cvChord (x : S28) : S30 := ⟨x.f0, x.f1⟩
theorem rdLChord (pre : List S28) (x : S28) (t : List S28) : rd_T28 (pre ++ x :: t) ((pre.length : Nat) : Int) = x := getD_mid pre x t z28
theorem rdIChord (pre : List S30) (x : S30) (t : List S30) : rd_T30 (pre ++ x :: t) ((pre.length : Nat) : Int) = x := getD_mid pre x t z30
theorem toChordS_l0 (suf : List S28) : ∀ pre : List S28, (pre ++ suf).length ≤ 1048576 → Ev (fun k => laws_toChordS.l0 k (pre ++ suf) (pre.map cvChord ++ List.replicate suf.length z30) (pre.length : Int)) ((pre ++ suf).map cvChord) := by
  induction suf with
  | nil =>
    intro pre h
    refine ev_tail ?_
    simp only [laws_toChordS.l0]
    refine ev_neg (by simp) ?_
    exact ev_eq (Ev.now _) (by simp)
  | cons x t ih =>
    intro pre h
    have e := ih (pre ++ [x]) (by simpa using h)
    simp only [List.length_append, List.length_cons] at h
    refine ev_tail ?_
    simp only [laws_toChordS.l0, laws_toChord.f, Option.bind_some]
    refine ev_pos (by simp; omega) (ev_pos (by omega) (ev_pos (by simp; omega) ?_))
    rw [rdLChord, List.length_cons, List.replicate_succ]
    have e1 : (pre.map cvChord ++ z30 :: List.replicate t.length z30).set ((pre.length : Nat) : Int).toNat (⟨x.f0, x.f1⟩ : S30) = (pre ++ [x]).map cvChord ++ List.replicate t.length z30 := by
      simp [cvChord]
    rw [e1, wrap_succ (by omega), snoc_cons pre x t, ← length_snoc pre x]
    exact e
theorem toChordS_ev (l : List S28) (h : l.length ≤ 1048576) : Ev (fun k => laws_toChordS.f k l) (l.map cvChord) := by
  simp only [laws_toChordS.f]
  refine ev_pos (by omega) (ev_pos (by omega) ?_)
  exact toChordS_l0 l [] (by simpa using h)

theorem eqChordS_l0 (suf : List S30) : ∀ pre : List S30, (pre ++ suf).length ≤ 1048576 → Ev (fun k => laws_eqChordS.l0 k (pre ++ suf) (pre ++ suf) (pre.length : Int)) true := by
  induction suf with
  | nil =>
    intro pre h
    refine ev_tail ?_
    simp only [laws_eqChordS.l0]
    exact ev_neg (by simp) (Ev.now true)
  | cons x t ih =>
    intro pre h
    have e := ih (pre ++ [x]) (by simpa using h)
    simp only [List.length_append, List.length_cons] at h
    refine ev_tail ?_
    simp only [laws_eqChordS.l0, laws_eqChord.f, if_true, Option.bind_some]
    refine ev_pos (by simp; omega) (ev_pos (by omega) (ev_pos (by simp; omega) ?_))
    rw [wrap_succ (by omega), snoc_cons pre x t, ← length_snoc pre x]
    exact e
theorem eqChordS_ev (l : List S30) (h : l.length ≤ 1048576) : Ev (fun k => laws_eqChordS.f k l l) true := by
  simp only [laws_eqChordS.f]
  refine ev_pos (by trivial) ?_
  exact eqChordS_l0 l [] (by simpa using h)

def marksChord : Nat → Int → List S30
  | 0, _ => []
  | n + 1, m => ⟨m, m + 1⟩ :: marksChord n (m + 1 + 1)
theorem marksChord_length (n : Nat) : ∀ m, (marksChord n m).length = n := by
  induction n with
  | zero => intro m; rfl
  | succ n ih => intro m; simp [marksChord, ih]
theorem markChordS_l0 (suf : List S30) : ∀ (pre : List S30) (m : Int), (pre ++ suf).length ≤ 8388608 → 0 ≤ m → m ≤ 1099511627776 - 2 * suf.length → Ev (fun k => laws_markChordS.l0 k (pre ++ suf) m (pre.length : Int)) (m + 2 * suf.length, pre ++ marksChord suf.length m) := by
  induction suf with
  | nil =>
    intro pre m h h0 h1
    refine ev_tail ?_
    simp only [laws_markChordS.l0]
    refine ev_neg (by simp) (ev_eq (Ev.now _) (by simp [marksChord]))
  | cons y t ih =>
    intro pre m h h0 h1
    simp only [List.length_cons] at h1
    have e := ih (pre ++ [⟨m, m + 1⟩]) (m + 1 + 1) (by simpa using h) (by omega) (by omega)
    simp only [List.length_append, List.length_cons] at h
    refine ev_tail ?_
    simp only [laws_markChordS.l0, Option.bind_some, set_mid, rdIChord]
    refine ev_pos (by simp; omega) (ev_pos (by omega) ?_)
    rw [wrap_id (n := m + 1) (by omega) (by omega), wrap_id (n := m + 1 + 1) (by omega) (by omega), wrap_succ (by omega), snoc_cons pre _ t, ← length_snoc pre (⟨m, m + 1⟩ : S30)]
    refine ev_eq e ?_
    simp only [marksChord, List.length_cons, List.append_assoc, List.singleton_append]
    congr 1
    omega
theorem markChordS_ev (l : List S30) (m : Int) (h : l.length ≤ 8388608) (h0 : 0 ≤ m) (h1 : m ≤ 1099511627776 - 2 * l.length) : Ev (fun k => laws_markChordS.f k l m) (m + 2 * l.length, marksChord l.length m) := by
  simp only [laws_markChordS.f]
  exact markChordS_l0 l [] m (by simpa using h) h0 h1

theorem szChordS_some (l : List S28) (h : l.length ≤ maxLen) : ∃ r, laws_szChordS.f l 1048576 = some r ∧ (¬ r < 0 → l.length ≤ 1048576) := by
  have hm : maxLen = 9223372036854775807 := rfl
  unfold laws_szChordS.f
  rw [wrap_id (by omega) (by omega)]
  by_cases h0 : (1048576 : Int) - (l.length : Int) < 0
  · exact ⟨-1, by rw [if_pos h0], fun h => absurd (by omega) h⟩
  · exact ⟨_, by rw [if_neg h0], fun _ => by omega⟩

/-! ### the keys of chords -/
def keyB (a : Int) (l : List S30) : Bool := l.all fun x => isOfKeyM a x.f0 x.f1
def keysGo (l : List S30) : Nat → Int → List Int
  | 0, _ => []
  | n + 1, a => (if keyB a l = true then [a] else []) ++ keysGo l n (a + 1)
def keysM (l : List S30) : List Int := keysGo l 15 (-7)
theorem keysGo_length (l : List S30) (n : Nat) : ∀ a, (keysGo l n a).length ≤ n := by
  induction n with
  | zero => intro a; simp [keysGo]
  | succ n ih =>
    intro a
    have := ih (a + 1)
    simp only [keysGo, List.length_append]
    split <;> simp <;> omega
theorem keyAll_ev (a : Int) (l : List S30) : ∃ K, ∀ k, K ≤ k → ∀ x ∈ l, impl_IsOfKey.f k a x.f0 x.f1 = some (isOfKeyM a x.f0 x.f1) := by
  induction l with
  | nil => exact ⟨0, fun k _ x hx => by cases hx⟩
  | cons y t ih =>
    obtain ⟨K, h⟩ := ih
    obtain ⟨K', h'⟩ := implIsOfKey_ev a y.f0 y.f1
    refine ⟨max K K', fun k hk x hx => ?_⟩
    rcases List.mem_cons.1 hx with rfl | hx
    · exact h' k (by omega)
    · exact h k (by omega) x hx
theorem keyAny_ev (a : Int) (l : List S30) : Ev (fun k => keyAny k a l) (!(keyB a l)) := by
  obtain ⟨K, h⟩ := keyAll_ev a l
  refine ⟨K, fun k hk => ?_⟩
  have h := h k hk
  show keyAny k a l = _
  unfold keyAny
  rw [if_pos (by rw [List.all_eq_true]; intro x hx; rw [h x hx]; rfl)]
  congr 1
  unfold keyB
  rw [Bool.eq_iff_iff, List.any_eq_true, Bool.not_eq_true', List.all_eq_false]
  constructor
  · rintro ⟨x, hx, hv⟩; rw [h x hx] at hv; exact ⟨x, hx, by simpa using hv⟩
  · rintro ⟨x, hx, hv⟩; exact ⟨x, hx, by rw [h x hx]; simpa using hv⟩
theorem specKeys_l1 (l : List S30) (hl : l.length ≤ 1048576) (a : Int) (out : List Int) (ho : out.length ≤ 100) {r1 r2 : List Int} (e1 : Ev (fun k => spec_KeysFor.l0 k l (out ++ [a]) (wrap64 (a + 1))) r1) (e2 : Ev (fun k => spec_KeysFor.l0 k l out (wrap64 (a + 1))) r2) (suf : List S30) :
    ∀ (pre : List S30) (b : Bool), l = pre ++ suf → Ev (fun k => spec_KeysFor.l1 k l out a b (pre.length : Int)) (if (b && suf.all fun x => isOfKeyM a x.f0 x.f1) = true then r1 else r2) := by
  induction suf with
  | nil =>
    intro pre b h
    have hlen : l.length = pre.length := by rw [h]; simp
    refine ev_tail ?_
    simp only [spec_KeysFor.l1, List.all_nil, Bool.and_true]
    refine ev_neg (by omega) (ev_ite (fun hb => ev_pos (by omega) ?_) (fun hb => ?_))
    · rw [if_pos hb]; exact e1
    · rw [if_neg hb]; exact e2
  | cons x t ih =>
    intro pre b h
    have hlen : l.length = pre.length + (t.length + 1) := by rw [h]; simp
    have hr : rd_T30 l ((pre.length : Nat) : Int) = x := by rw [h]; exact getD_mid pre x t _
    have e := fun b => ih (pre ++ [x]) b (by rw [h]; simp)
    refine ev_tail ?_
    simp only [spec_KeysFor.l1, hr]
    rw [wrap_succ (by omega), ← length_snoc pre x]
    refine ev_pos (by omega) (ev_ite (fun hb => ev_pos (by omega) (Ev.bind (specIsOfKey_ev a x.f0 x.f1) (ev_eq (e _) ?_))) (fun hb => ev_eq (e false) ?_))
    · rw [hb, Bool.true_and, List.all_cons]
    · rw [Bool.eq_false_iff.mpr hb, Bool.false_and, Bool.false_and]
theorem specKeys_l0 (l : List S30) (hl : l.length ≤ 1048576) (n : Nat) : ∀ (a : Int) (out : List Int), a + n = 8 → -7 ≤ a → out.length + n ≤ 100 → Ev (fun k => spec_KeysFor.l0 k l out a) (out ++ keysGo l n a) := by
  induction n with
  | zero =>
    intro a out ha _ ho
    refine ev_tail ?_
    simp only [spec_KeysFor.l0, keysGo, List.append_nil]
    exact ev_neg (by omega) (Ev.now _)
  | succ n ih =>
    intro a out ha h0 ho
    have w : wrap64 (a + 1) = a + 1 := wrap_id (by omega) (by omega)
    have e1 := ih (a + 1) (out ++ [a]) (by omega) (by omega) (by simp; omega)
    have e2 := ih (a + 1) out (by omega) (by omega) (by omega)
    refine ev_tail ?_
    simp only [spec_KeysFor.l0]
    refine ev_pos (by omega) (ev_eq (specKeys_l1 l hl a out (by omega) (by rw [w]; exact e1) (by rw [w]; exact e2) l [] true rfl) ?_)
    rw [Bool.true_and, show (l.all fun x => isOfKeyM a x.f0 x.f1) = keyB a l from rfl]
    simp only [keysGo]
    by_cases hb : keyB a l = true
    · rw [if_pos hb, if_pos hb, List.append_assoc]
    · rw [if_neg hb, if_neg hb, List.nil_append]
theorem specKeysFor_ev (l : List S30) (hl : l.length ≤ 1048576) : Ev (fun k => spec_KeysFor.f k l) (keysM l) := by
  simp only [spec_KeysFor.f]
  exact specKeys_l0 l hl 15 (-7) [] (by omega) (by omega) (by simp)
theorem implKeys_l0 (l : List S30) (n : Nat) : ∀ (a : Int) (out : List Int), a + n = 8 → -7 ≤ a → out.length + n ≤ 100 → Ev (fun k => impl_KeysFor.l0 k l a out) (out ++ keysGo l n a) := by
  induction n with
  | zero =>
    intro a out ha _ ho
    refine ev_tail ?_
    simp only [impl_KeysFor.l0, keysGo, List.append_nil]
    exact ev_neg (by omega) (Ev.now _)
  | succ n ih =>
    intro a out ha h0 ho
    have w : wrap64 (a + 1) = a + 1 := wrap_id (by omega) (by omega)
    have e1 := ih (a + 1) (out ++ [a]) (by omega) (by omega) (by simp; omega)
    have e2 := ih (a + 1) out (by omega) (by omega) (by omega)
    refine ev_tail ?_
    simp only [impl_KeysFor.l0, w]
    refine ev_pos (by omega) (Ev.bind (keyAny_ev a l) (ev_ite (fun hb => ?_) (fun hb => ev_pos (by omega) ?_)))
    · simp only [keysGo]
      rw [if_neg (by simpa using hb), List.nil_append]
      exact e2
    · simp only [keysGo]
      rw [if_pos (by simpa using hb), ← List.append_assoc]
      exact e1
theorem implKeysFor_ev (l : List S30) : Ev (fun k => impl_KeysFor.f k l) (keysM l) := by
  simp only [impl_KeysFor.f]
  exact implKeys_l0 l 15 (-7) [] (by omega) (by omega) (by simp)

theorem FnExactKeysFor : ∀ (l0 : List (S28)), (l0.length ≤ maxLen) → (∀ x ∈ l0, ((Lit.int .i64 x.f0).wf = true) ∧ ((Lit.int .i64 x.f1).wf = true)) → ∃ k, laws_FnExactKeysFor.f k l0 = some true := by
  intro l hl _
  refine Ev.rounds ?_
  simp only [laws_FnExactKeysFor.f]
  obtain ⟨r, hr, hb⟩ := szChordS_some l hl
  refine ev_val hr (ev_ite (fun _ => Ev.now _) (fun h => ?_))
  have hn := hb h
  have hm : (l.map cvChord).length ≤ 1048576 := by rw [List.length_map]; exact hn
  have ho : (keysM (l.map cvChord)).length ≤ 15 := keysGo_length _ _ _
  have t1 := toChordS_ev l hn
  have e1 := eqIntS_ev (keysM (l.map cvChord)) (by omega)
  have i1 := implKeysFor_ev (l.map cvChord)
  have m1 := markIntS_ev (keysM (l.map cvChord)) 1 (by omega) (by omega) (by omega)
  have d1 := heldIntS_ev (keysM (l.map cvChord)).length 1 (by omega) (by omega) (by omega)
  refine Ev.bind t1 (Ev.bind (specKeysFor_ev _ hm) (Ev.bind t1 (Ev.bind i1 (Ev.bind e1 (ev_pos (by trivial) ?_)))))
  refine Ev.bind t1 (Ev.bind (eqChordS_ev _ hm) (ev_pos (by trivial) ?_))
  refine Ev.bind (markChordS_ev _ 1 (by omega) (by omega) (by omega)) (ev_neg (by simp; omega) (Ev.bind e1 (ev_tail ?_)))
  simp only [laws_FnExactKeysFor.j0]
  refine ev_neg (by simp) (Ev.bind m1 (Ev.bind d1 (ev_neg (by omega) (ev_pos (by trivial) ?_))))
  exact Ev.bind t1 (Ev.bind i1 (Ev.bind e1 (ev_pos (by trivial) (Ev.bind d1 (ev_neg (by omega) (ev_pos (by trivial) (Ev.now _)))))))
end Go.Proofs.Ytpdhhpgdjbeaeaa.Pure
