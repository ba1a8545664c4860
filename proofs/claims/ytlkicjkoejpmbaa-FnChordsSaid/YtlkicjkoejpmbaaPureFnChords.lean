/-
Chords are found from their tones, and stay what they are when moved: the law answers true for whatever bytes it draws from.
Conditions: none.
-/
import Derived.Test.YtlkicjkoejpmbaaPFnChordsx15
import Derived.Test.YtlkicjkoejpmbaaBase
namespace Go.Proofs.Ytlkicjkoejpmbaa.Pure
open Go.RowKit Go.Proofs.Ytlkicjkoejpmbaa.PFnChords Go.Proofs.YtlkicjkoejpmbaaW.PrintWords Go.Proofs.YtlkicjkoejpmbaaW.PrintLast Go.Proofs.YtlkicjkoejpmbaaW.PrintMore Go.Proofs.Ytlkicjkoejpmbaa.Base
set_option linter.unusedVariables false
set_option linter.unusedSimpArgs false

theorem l1In_eq (a b c : Int) : spec_l1In.f a b c = some (decide (b ≤ a ∧ a ≤ c)) := by
  unfold spec_l1In.f
  by_cases h1 : b ≤ a <;> by_cases h2 : a ≤ c <;> simp [h1, h2]
theorem InRange_eq (a b c : Int) : impl_InRange.f a b c = some (decide (b ≤ a ∧ a ≤ c)) := by
  unfold impl_InRange.f
  by_cases h1 : b ≤ a <;> by_cases h2 : a ≤ c <;> simp [h1, h2]

def modM (p q : Int) : Int := if 1 ≤ q ∧ q ≤ 1000000000000 then Int.tmod (wrap64 (Int.tmod p q + q)) q else 0
theorem implMod_eq (p q : Int) : impl_Mod.f p q = some (modM p q) := by
  simp only [impl_Mod.f, InRange_eq, Option.bind_some, modM]
  by_cases h : 1 ≤ q ∧ q ≤ 1000000000000
  · rw [if_pos (by simpa using h), if_neg (by omega), if_pos h]
  · rw [if_neg (by simpa using h), if_neg h]

/-- A number behind the last, if it is another. -/
def addN (out : List Int) (n : Int) : List Int := if out.getLast? = some n then out else out ++ [n]
def cp (xs : List Int) : List Int := xs.foldl addN []
theorem cp_snoc (xs : List Int) (n : Int) : cp (xs ++ [n]) = addN (cp xs) n := by simp [cp]
theorem addN_last (out : List Int) (n : Int) : (addN out n).getLast? = some n := by
  unfold addN
  split
  · assumption
  · simp
theorem cp_last (xs : List Int) : (cp xs).getLast? = xs.getLast? := by
  rcases List.eq_nil_or_concat xs with h | ⟨t, n, h⟩
  · subst h; rfl
  · rw [h, List.concat_eq_append, cp_snoc, addN_last]; simp
theorem compact_snoc (xs : List Int) (n : Int) : Go.Lib.compact (xs ++ [n]) = if xs.getLast? = some n then Go.Lib.compact xs else Go.Lib.compact xs ++ [n] := by
  have hk : ∀ j, j < xs.length → Go.Lib.keeps (xs ++ [n]).toArray j = Go.Lib.keeps xs.toArray j := by
    intro j hj
    unfold Go.Lib.keeps
    have e1 : (xs ++ [n]).toArray[j]! = xs.toArray[j]! := by
      rw [getElem!_pos (xs ++ [n]).toArray j (by simp; omega), getElem!_pos xs.toArray j (by simpa using hj)]
      simp [List.getElem_append_left hj]
    have e2 : (xs ++ [n]).toArray[j - 1]! = xs.toArray[j - 1]! := by
      rw [getElem!_pos (xs ++ [n]).toArray (j - 1) (by simp; omega), getElem!_pos xs.toArray (j - 1) (by simp; omega)]
      simp [List.getElem_append_left (show j - 1 < xs.length by omega)]
    rw [e1, e2]
  have hv : ∀ j, j < xs.length → (xs ++ [n]).toArray[j]! = xs.toArray[j]! := by
    intro j hj
    rw [getElem!_pos (xs ++ [n]).toArray j (by simp; omega), getElem!_pos xs.toArray j (by simpa using hj)]
    simp [List.getElem_append_left hj]
  have hlast : Go.Lib.keeps (xs ++ [n]).toArray xs.length = decide (¬ xs.getLast? = some n) := by
    unfold Go.Lib.keeps
    refine decide_eq_decide.mpr ?_
    rcases List.eq_nil_or_concat xs with h | ⟨t, m, h⟩
    · subst h; simp
    · rw [List.concat_eq_append] at h
      subst h
      have e1 : (t ++ [m] ++ [n]).toArray[(t ++ [m]).length]! = n := by
        rw [getElem!_pos (t ++ [m] ++ [n]).toArray (t ++ [m]).length (by simp)]
        simp
      have e2 : (t ++ [m] ++ [n]).toArray[(t ++ [m]).length - 1]! = m := by
        rw [getElem!_pos (t ++ [m] ++ [n]).toArray ((t ++ [m]).length - 1) (by simp)]
        simp
      rw [e1, e2]
      simp only [List.length_append, List.length_cons, List.length_nil, List.getLast?_append, List.getLast?_singleton, Option.some_or, Option.some.injEq]
      constructor
      · rintro (h | h)
        · omega
        · exact fun e => h e.symm
      · exact fun h => .inr fun e => h e.symm
  have hfil : (List.range xs.length).filter (Go.Lib.keeps (xs ++ [n]).toArray) = (List.range xs.length).filter (Go.Lib.keeps xs.toArray) :=
    List.filter_congr fun j hj => hk j (List.mem_range.1 hj)
  have hmap : ((List.range xs.length).filter (Go.Lib.keeps xs.toArray)).map ((xs ++ [n]).toArray[·]!) = ((List.range xs.length).filter (Go.Lib.keeps xs.toArray)).map (xs.toArray[·]!) :=
    List.map_congr_left fun j hj => hv j (List.mem_range.1 (List.mem_filter.1 hj).1)
  have hn : (xs ++ [n]).toArray[xs.length]! = n := by
    rw [getElem!_pos (xs ++ [n]).toArray xs.length (by simp)]
    simp
  unfold Go.Lib.compact Go.Lib.compactUpTo
  rw [show (xs ++ [n]).length = xs.length + 1 by simp, List.range_succ, List.filter_append, List.map_append, hfil, hmap]
  by_cases h : xs.getLast? = some n
  · rw [if_pos h]
    simp [hlast, h]
  · rw [if_neg h]
    simp [hlast, h, hn]
theorem compact_cp (xs : List Int) : Go.Lib.compact xs = cp xs := by
  suffices h : ∀ m (xs : List Int), xs.length = m → Go.Lib.compact xs = cp xs from h _ xs rfl
  intro m
  induction m with
  | zero =>
    intro xs h
    obtain rfl := List.length_eq_zero_iff.1 h
    rfl
  | succ m ih =>
    intro xs h
    rcases List.eq_nil_or_concat xs with h' | ⟨t, n, h'⟩
    · subst h'; simp at h
    · rw [List.concat_eq_append] at h'
      subst h'
      rw [compact_snoc, cp_snoc, ih t (by simpa using h), addN, cp_last]

/-- A number into an ascending list. -/
def insN : List Int → Int → List Int
  | [], n => [n]
  | x :: t, n => if x < n then x :: insN t n else if x = n then x :: t else n :: x :: t
theorem insN_mem (l : List Int) (n y : Int) : y ∈ insN l n ↔ y ∈ l ∨ y = n := by
  induction l with
  | nil => simp [insN]
  | cons x t ih =>
    simp only [insN]
    split
    · simp only [List.mem_cons, ih]
      constructor
      · rintro (h | h | h) <;> simp [h]
      · rintro ((h | h) | h) <;> simp [h]
    · split
      · rename_i h; subst h
        simp only [List.mem_cons]
        constructor
        · exact fun h => .inl h
        · rintro (h | h)
          · exact h
          · exact .inl h
      · simp only [List.mem_cons]
        constructor
        · rintro (h | h | h) <;> simp [h]
        · rintro ((h | h) | h) <;> simp [h]
theorem insN_asc (l : List Int) (n : Int) (h : l.Pairwise (· < ·)) : (insN l n).Pairwise (· < ·) := by
  induction l with
  | nil => simp [insN]
  | cons x t ih =>
    obtain ⟨h1, h2⟩ := List.pairwise_cons.1 h
    simp only [insN]
    split
    · rename_i hx
      refine List.pairwise_cons.2 ⟨fun y hy => ?_, ih h2⟩
      rcases (insN_mem t n y).1 hy with hy | hy
      · exact h1 y hy
      · rw [hy]; exact hx
    · split
      · exact h
      · refine List.pairwise_cons.2 ⟨fun y hy => ?_, h⟩
        rcases List.mem_cons.1 hy with hy | hy
        · omega
        · have := h1 y hy; omega
theorem insN_length (l : List Int) (n : Int) : (insN l n).length ≤ l.length + 1 := by
  induction l with
  | nil => simp [insN]
  | cons x t ih =>
    simp only [insN]
    split
    · simp only [List.length_cons]; omega
    · split <;> simp
theorem l8Num_ins0 (n : Int) (suf : List Int) : ∀ pre : List Int, (pre ++ suf).length ≤ 1048576 → Ev (fun k => spec_l8Num.l0 k (pre ++ suf) n (pre.length : Int)) (pre ++ insN suf n) := by
  induction suf with
  | nil =>
    intro pre h
    refine ev_tail ?_
    simp only [spec_l8Num.l0, Option.bind_some, List.append_nil, Int.toNat_natCast, List.nil_append, List.length_nil, List.length_append, List.length_cons, List.length_drop, List.length_take]
    simp only [List.append_nil] at h
    refine ev_neg (by omega) (ev_pos (by omega) (ev_pos (by omega) (ev_pos (by omega) (ev_pos (by omega) (ev_pos (by omega) ?_)))))
    refine ev_eq (Ev.now _) ?_
    simp [insN]
  | cons x t ih =>
    intro pre h
    have hlen : pre.length + (t.length + 1) ≤ 1048576 := by simpa using h
    refine ev_tail ?_
    simp only [spec_l8Num.l0, rd_mid, Option.bind_some, List.nil_append]
    refine ev_pos (by simp; omega) (ev_pos (by omega) ?_)
    by_cases hlt : x < n
    · refine ev_pos hlt ?_
      have e := ih (pre ++ [x]) (by simpa using h)
      rw [wrap_succ (by omega), snoc_cons pre x t, ← length_snoc pre x]
      refine ev_eq e ?_
      simp [insN, hlt]
    · refine ev_neg hlt ?_
      by_cases he : x = n
      · refine ev_pos he (ev_pos (by simp; omega) ?_)
        refine ev_eq (Ev.now _) ?_
        simp only [insN]
        rw [if_neg hlt, if_pos he]
      · refine ev_neg he ?_
        simp only [Int.toNat_natCast, List.length_nil, List.length_append, List.length_cons, List.length_drop, List.length_take]
        refine ev_pos (by omega) (ev_pos (by omega) (ev_pos (by omega) (ev_pos (by omega) ?_)))
        refine ev_eq (Ev.now _) ?_
        simp only [insN]
        rw [if_neg hlt, if_neg he]
        simp
theorem l8Num_ins (l : List Int) (n : Int) (h : l.length ≤ 1048576) : Ev (fun k => spec_l8Num.f k l n) (insN l n) := by
  simp only [spec_l8Num.f]
  exact l8Num_ins0 n l [] (by simpa using h)
/-- The set of a list's numbers, ascending. -/
def setN (l : List Int) : List Int := l.foldl insN []
theorem foldl_insN (l : List Int) : ∀ out : List Int, out.Pairwise (· < ·) → (l.foldl insN out).Pairwise (· < ·) ∧ (∀ y, y ∈ l.foldl insN out ↔ y ∈ out ∨ y ∈ l) ∧ (l.foldl insN out).length ≤ out.length + l.length := by
  induction l with
  | nil => intro out h; exact ⟨h, fun y => by simp, by simp⟩
  | cons x t ih =>
    intro out h
    obtain ⟨h1, h2, h3⟩ := ih (insN out x) (insN_asc out x h)
    have := insN_length out x
    refine ⟨h1, fun y => ?_, by simp only [List.foldl_cons, List.length_cons]; omega⟩
    rw [List.foldl_cons, h2, insN_mem, List.mem_cons]
    constructor
    · rintro ((h | h) | h) <;> simp [h]
    · rintro (h | h | h) <;> simp [h]
theorem setN_asc (l : List Int) : (setN l).Pairwise (· < ·) := (foldl_insN l [] List.Pairwise.nil).1
theorem setN_mem (l : List Int) (y : Int) : y ∈ setN l ↔ y ∈ l := by
  have := (foldl_insN l [] List.Pairwise.nil).2.1 y
  simpa [setN] using this
theorem setN_length (l : List Int) : (setN l).length ≤ l.length := by
  have := (foldl_insN l [] List.Pairwise.nil).2.2
  simpa [setN] using this
/-- Ascending lists of the same numbers are one. -/
theorem asc_ext (a : List Int) : ∀ b : List Int, a.Pairwise (· < ·) → b.Pairwise (· < ·) → (∀ y, y ∈ a ↔ y ∈ b) → a = b := by
  induction a with
  | nil =>
    intro b _ _ h
    cases b with
    | nil => rfl
    | cons y t => have := (h y).2 (by simp); cases this
  | cons x t ih =>
    intro b ha hb h
    cases b with
    | nil => have := (h x).1 (by simp); cases this
    | cons y s =>
      obtain ⟨a1, a2⟩ := List.pairwise_cons.1 ha
      obtain ⟨b1, b2⟩ := List.pairwise_cons.1 hb
      have hx : x = y := by
        rcases List.mem_cons.1 ((h x).1 (by simp)) with e | e
        · exact e
        · rcases List.mem_cons.1 ((h y).2 (by simp)) with f | f
          · exact f.symm
          · have := b1 x e; have := a1 y f; omega
      subst hx
      rw [ih s a2 b2 (fun z => ?_)]
      constructor
      · intro hz
        rcases List.mem_cons.1 ((h z).1 (by simp [hz])) with e | e
        · have := a1 z hz; omega
        · exact e
      · intro hz
        rcases List.mem_cons.1 ((h z).2 (by simp [hz])) with e | e
        · have := b1 z hz; omega
        · exact e
theorem cp_sorted (l : List Int) : l.Pairwise (· ≤ ·) → (cp l).Pairwise (· < ·) ∧ ∀ y, y ∈ cp l ↔ y ∈ l := by
  suffices h : ∀ m (xs : List Int), xs.length = m → xs.Pairwise (· ≤ ·) → (cp xs).Pairwise (· < ·) ∧ ∀ y, y ∈ cp xs ↔ y ∈ xs from h _ l rfl
  intro m
  induction m with
  | zero =>
    intro xs h _
    obtain rfl := List.length_eq_zero_iff.1 h
    exact ⟨List.Pairwise.nil, fun y => by simp [cp]⟩
  | succ m ih =>
    intro xs h hp
    rcases List.eq_nil_or_concat xs with h' | ⟨t, n, h'⟩
    · subst h'; simp at h
    · rw [List.concat_eq_append] at h'
      subst h'
      obtain ⟨p1, p2, p3⟩ := List.pairwise_append.1 hp
      obtain ⟨i1, i2⟩ := ih t (by simpa using h) p1
      have hn : ∀ x ∈ t, x ≤ n := fun x hx => p3 x hx n (by simp)
      rw [cp_snoc]
      unfold addN
      rw [cp_last]
      by_cases e : t.getLast? = some n
      · rw [if_pos e]
        refine ⟨i1, fun y => ?_⟩
        rw [i2, List.mem_append, List.mem_singleton]
        constructor
        · exact fun h => .inl h
        · rintro (h | h)
          · exact h
          · rw [h]; exact List.mem_of_getLast? e
      · rw [if_neg e]
        refine ⟨List.pairwise_append.2 ⟨i1, by simp, fun x hx y hy => ?_⟩, fun y => by simp [i2]⟩
        rw [List.mem_singleton.1 hy]
        have hx' := (i2 x).1 hx
        have h1 := hn x hx'
        rcases Int.lt_or_eq_of_le h1 with h2 | h2
        · exact h2
        · exfalso
          subst h2
          -- x is in t and every later one is at least x: the last is x
          have hne : t ≠ [] := by intro h; subst h; cases hx'
          have hl := List.getLast_mem hne
          have h3 : x ≤ t.getLast hne := by
            obtain ⟨i, hi, hxi⟩ := List.getElem_of_mem hx'
            rw [List.getLast_eq_getElem]
            rcases Nat.lt_or_ge i (t.length - 1) with h4 | h4
            · have := List.pairwise_iff_getElem.1 p1 i (t.length - 1) hi (by omega) h4
              rw [hxi] at this; exact this
            · have : i = t.length - 1 := by omega
              subst this; rw [hxi]; exact Int.le_refl _
          have h4 := hn _ hl
          have : t.getLast hne = x := by omega
          exact e (by rw [List.getLast?_eq_some_getLast hne, this])
theorem sorted_asc (l : List Int) : (ShSort.sorted l).Pairwise (· ≤ ·) := by
  have := List.pairwise_mergeSort (le := fun x y : Int => decide (x ≤ y)) (fun a b c h1 h2 => by simp at *; omega) (fun a b => by simp; omega) l
  exact this.imp (fun h => by simpa using h)
theorem compact_sorted (l : List Int) : Go.Lib.compact (ShSort.sorted l) = setN l := by
  rw [compact_cp]
  obtain ⟨h1, h2⟩ := cp_sorted _ (sorted_asc l)
  exact asc_ext _ _ h1 (setN_asc l) (fun y => by rw [h2, setN_mem]; unfold ShSort.sorted; exact List.mem_mergeSort)

def classesM (l : List Int) : List Int := setN (l.map fun p => modM p 12)
theorem classesM_length (l : List Int) : (classesM l).length ≤ l.length := by
  have := setN_length (l.map fun p => modM p 12)
  simpa [classesM] using this
theorem sortCompact (k : Nat) (l : List Int) (h : l.length ≤ 1048576) : ((slices_Sort_int_int.f l).bind fun t => (slices_Compact_int_int.f k t).bind fun u => some u) = some (setN l) := by
  simp only [slices_Sort_int_int.f, slices_Compact_int_int.f]
  rw [if_pos (by omega), Option.bind_some, Option.bind_some, compact_sorted]
theorem implClasses_l0 (suf : List Int) : ∀ (pre out : List Int), (pre ++ suf).length ≤ 1048576 → out.length = pre.length → Ev (fun k => impl_ClassesOf.l0 k out (pre ++ suf) ((pre ++ suf).length : Int) (pre.length : Int)) (setN (out ++ suf.map fun p => modM p 12)) := by
  induction suf with
  | nil =>
    intro pre out h ho
    refine ev_tail ?_
    simp only [impl_ClassesOf.l0]
    refine ev_neg (by simp) ?_
    simp only [List.append_nil, List.length_append, List.length_nil] at h
    have hs := fun k => sortCompact k out (by omega)
    simp only [hs, List.map_nil, List.append_nil]
    exact Ev.now _
  | cons x t ih =>
    intro pre out h ho
    have e := ih (pre ++ [x]) (out ++ [modM x 12]) (by simpa using h) (by simp [ho])
    simp only [List.length_append, List.length_cons] at h
    refine ev_tail ?_
    simp only [impl_ClassesOf.l0]
    refine ev_pos (by simp; omega) (ev_pos (by omega) (ev_pos (by simp; omega) ?_))
    rw [rd_mid]
    refine ev_val (implMod_eq x 12) (ev_pos (by omega) ?_)
    rw [wrap_succ (by omega), snoc_cons pre x t, ← length_snoc pre x]
    refine ev_eq e ?_
    simp
theorem implClassesOf_ev (l : List Int) (h : l.length ≤ 1048576) : Ev (fun k => impl_ClassesOf.f k l) (classesM l) := by
  simp only [impl_ClassesOf.f]
  exact implClasses_l0 l [] [] (by simpa using h) rfl

def chordOK (a b : Int) : Bool := decide (0 ≤ a ∧ a ≤ 11 ∧ 1 ≤ b ∧ b ≤ 5)
theorem specIsChord_eq (a b : Int) : spec_IsChord.f a b = some (chordOK a b) := by
  simp only [spec_IsChord.f, l1In_eq, Option.bind_some, chordOK]
  by_cases h1 : 0 ≤ a <;> by_cases h2 : a ≤ 11 <;> by_cases h3 : 1 ≤ b <;> by_cases h4 : b ≤ 5 <;> simp [h1, h2, h3, h4]
theorem implIsChord_eq (a b : Int) : impl_IsChord.f a b = some (chordOK a b) := by
  simp only [impl_IsChord.f, InRange_eq, Option.bind_some, chordOK]
  by_cases h1 : 0 ≤ a <;> by_cases h2 : a ≤ 11 <;> by_cases h3 : 1 ≤ b <;> by_cases h4 : b ≤ 5 <;> simp [h1, h2, h3, h4]

def tabT : List (List Int) := [[0, 4, 7], [0, 3, 7], [0, 3, 6], [0, 4, 8], [0, 4, 7, 10]]
def halvesT (kd : Int) : List Int := rd_L2 tabT (kd - 1)
theorem halvesT_facts {kd : Int} (h : 1 ≤ kd ∧ kd ≤ 5) : (halvesT kd).length ≤ 4 ∧ ∀ x ∈ halvesT kd, 0 ≤ x ∧ x ≤ 10 := by
  have : kd = 1 ∨ kd = 2 ∨ kd = 3 ∨ kd = 4 ∨ kd = 5 := by omega
  rcases this with rfl | rfl | rfl | rfl | rfl <;> exact ⟨by decide, by decide⟩
def tonesM (r kd : Int) : List Int := if chordOK r kd = true then classesM ((halvesT kd).map fun h => r + h) else []
theorem chordOK_facts {a b : Int} (h : chordOK a b = true) : (0 ≤ a ∧ a ≤ 11) ∧ 1 ≤ b ∧ b ≤ 5 := by
  unfold chordOK at h
  simp only [decide_eq_true_eq] at h
  omega
theorem modM_nonneg {p : Int} (h : 0 ≤ p) (h2 : p ≤ 1000000) : modM p 12 = Int.tmod p 12 := by
  unfold modM
  rw [if_pos (by omega), Int.tmod_eq_emod_of_nonneg h, wrap_id (by omega) (by omega), Int.tmod_eq_emod_of_nonneg (by omega)]
  omega
theorem tonesM_length (r kd : Int) : (tonesM r kd).length ≤ 4 := by
  unfold tonesM
  split
  · rename_i h
    have h1 := classesM_length ((halvesT kd).map fun h => r + h)
    have h2 := (halvesT_facts (chordOK_facts h).2).1
    rw [List.length_map] at h1
    omega
  · simp
theorem specTones_l0 (r kd : Int) (hr : 0 ≤ r ∧ r ≤ 11) (suf : List Int) : ∀ (pre out : List Int), (pre ++ suf).length ≤ 1048576 → out.length ≤ pre.length → (∀ x ∈ suf, 0 ≤ x ∧ x ≤ 10) → Ev (fun k => spec_TonesOf.l0 k out (pre ++ suf) (pre.length : Int) r kd) (((suf.map fun h => r + h).map fun p => modM p 12).foldl insN out) := by
  induction suf with
  | nil =>
    intro pre out h ho _
    refine ev_tail ?_
    simp only [spec_TonesOf.l0]
    exact ev_neg (by simp) (Ev.now _)
  | cons x t ih =>
    intro pre out h ho hx
    have hxx := hx x (by simp)
    have hi := insN_length out (modM (r + x) 12)
    have e := ih (pre ++ [x]) (insN out (modM (r + x) 12)) (by simpa using h) (by simp; omega) (fun y hy => hx y (by simp [hy]))
    simp only [List.length_append, List.length_cons] at h
    refine ev_tail ?_
    simp only [spec_TonesOf.l0]
    refine ev_pos (by simp; omega) (ev_pos (by omega) ?_)
    rw [rd_mid, wrap_id (n := r + x) (by omega) (by omega), ← modM_nonneg (by omega) (by omega)]
    refine Ev.bind (l8Num_ins out _ (by omega)) ?_
    rw [wrap_succ (by omega), snoc_cons pre x t, ← length_snoc pre x]
    exact e
theorem spec_halves_eq {kd : Int} (h : 1 ≤ kd ∧ kd ≤ 5) : spec_l22Halves.f kd = some (halvesT kd) := by
  unfold spec_l22Halves.f
  rw [Option.bind_some, wrap_id (by omega) (by omega), if_pos (by omega), if_pos (by simp; omega)]
  rfl
theorem specTonesOf_ev (r kd : Int) : Ev (fun k => spec_TonesOf.f k r kd) (tonesM r kd) := by
  simp only [spec_TonesOf.f, Option.bind_some]
  refine ev_val (specIsChord_eq r kd) (ev_ite (fun h => ?_) (fun h => ?_))
  · obtain ⟨h1, h2⟩ := chordOK_facts h
    obtain ⟨h3, h4⟩ := halvesT_facts h2
    refine ev_val (spec_halves_eq h2) ?_
    rw [tonesM, if_pos h]
    exact specTones_l0 r kd h1 (halvesT kd) [] [] (by simp; omega) (by simp) h4
  · rw [tonesM, if_neg h]; exact Ev.now _
theorem implTones_l0 (r kd : Int) (hr : 0 ≤ r ∧ r ≤ 11) (suf : List Int) : ∀ (pre out : List Int), (pre ++ suf).length ≤ 1048576 → out.length = pre.length → (∀ x ∈ suf, 0 ≤ x ∧ x ≤ 10) → Ev (fun k => impl_TonesOf.l0 k out (pre ++ suf) ((pre ++ suf).length : Int) (pre.length : Int) r kd) (classesM (out ++ suf.map fun h => r + h)) := by
  induction suf with
  | nil =>
    intro pre out h ho _
    refine ev_tail ?_
    simp only [impl_TonesOf.l0]
    refine ev_neg (by simp) ?_
    simp only [List.append_nil, List.length_append, List.length_nil] at h
    rw [List.map_nil, List.append_nil]
    exact Ev.bind (implClassesOf_ev out (by omega)) (Ev.now _)
  | cons x t ih =>
    intro pre out h ho hx
    have hxx := hx x (by simp)
    have e := ih (pre ++ [x]) (out ++ [r + x]) (by simpa using h) (by simp [ho]) (fun y hy => hx y (by simp [hy]))
    simp only [List.length_append, List.length_cons] at h
    refine ev_tail ?_
    simp only [impl_TonesOf.l0]
    refine ev_pos (by simp; omega) (ev_pos (by omega) (ev_pos (by simp; omega) (ev_pos (by omega) ?_)))
    rw [rd_mid, wrap_id (n := r + x) (by omega) (by omega), wrap_succ (by omega), snoc_cons pre x t, ← length_snoc pre x]
    refine ev_eq e ?_
    simp
theorem implTonesOf_ev (r kd : Int) : Ev (fun k => impl_TonesOf.f k r kd) (tonesM r kd) := by
  simp only [impl_TonesOf.f, Option.bind_some]
  refine ev_val (implIsChord_eq r kd) (ev_ite (fun h => ?_) (fun h => ?_))
  · obtain ⟨h1, h2⟩ := chordOK_facts h
    obtain ⟨h3, h4⟩ := halvesT_facts h2
    rw [tonesM, if_pos h, wrap_id (n := kd - 1) (by omega) (by omega)]
    refine ev_pos (by omega) (ev_pos (by simp; omega) ?_)
    exact implTones_l0 r kd h1 (halvesT kd) [] [] (by simp; omega) rfl h4
  · rw [tonesM, if_neg h]; exact Ev.now _

theorem implEqual_l0 (sa : List Int) : ∀ (pa pb sb : List Int), pa.length = pb.length → sa.length = sb.length → (pa ++ sa).length ≤ 35184372088832 → Ev (fun k => slices_Equal_int_int.l0 k (pa ++ sa) (pb ++ sb) ((pa ++ sa).length : Int) (pa.length : Int)) (decide (sa = sb)) := by
  induction sa with
  | nil =>
    intro pa pb sb h1 h2 h
    obtain rfl : sb = [] := List.length_eq_zero_iff.1 (by simpa using h2.symm)
    refine ev_tail ?_
    simp only [slices_Equal_int_int.l0]
    exact ev_neg (by simp) (ev_eq (Ev.now _) (by simp))
  | cons x t ih =>
    intro pa pb sb h1 h2 h
    cases sb with
    | nil => simp at h2
    | cons y s =>
      have e := ih (pa ++ [x]) (pb ++ [y]) s (by simp [h1]) (by simpa using h2) (by simpa using h)
      simp only [List.length_append, List.length_cons] at h h2
      refine ev_tail ?_
      simp only [slices_Equal_int_int.l0]
      refine ev_pos (by simp; omega) (ev_pos (by omega) (ev_pos (by simp; omega) (ev_pos (by simp; omega) ?_)))
      have r2 : rd (pb ++ y :: s) (pa.length : Int) = y := by rw [h1]; exact rd_mid pb y s
      rw [rd_mid, r2]
      refine ev_ite (fun c => ?_) (fun c => ?_)
      · rw [wrap_succ (by omega), snoc_cons pa x t, snoc_cons pb y s, ← length_snoc pa x]
        refine ev_eq e (decide_eq_decide.2 ?_)
        subst c; simp
      · exact ev_eq (Ev.now _) (decide_eq_false (by simp [c])).symm
theorem implEqual_ev (a b : List Int) (h : a.length ≤ 35184372088832) : Ev (fun k => slices_Equal_int_int.f k a b) (decide (a = b)) := by
  simp only [slices_Equal_int_int.f]
  refine ev_ite (fun c => ?_) (fun c => ?_)
  · exact implEqual_l0 a [] [] b rfl (by omega) (by simpa using h)
  · exact ev_eq (Ev.now _) (decide_eq_false (fun e => c (by rw [e]))).symm
/-- The roots from r on, n of them; then what stands behind. -/
def chRow (cl : List Int) (kd : Int) (fin : Int × Int × Bool) : Nat → Int → Int × Int × Bool
  | 0, _ => fin
  | n + 1, r => if tonesM r kd = cl then (r, kd, true) else chRow cl kd fin n (r + 1)
def chAll (cl : List Int) : Nat → Int → Int × Int × Bool
  | 0, _ => (0, 0, false)
  | n + 1, kd => chRow cl kd (chAll cl n (kd + 1)) 12 0
def chordM (cl : List Int) : Int × Int × Bool := chAll cl 5 1
theorem implChord_l1 (cl : List Int) (kd : Int) (fin : Int × Int × Bool) (hk : 1 ≤ kd ∧ kd ≤ 5) (hf : Ev (fun k => impl_ChordOf.l0 k cl (kd + 1)) fin) : ∀ (n : Nat) (r : Int), r + n = 12 → 0 ≤ r → Ev (fun k => impl_ChordOf.l1 k cl kd r) (chRow cl kd fin n r) := by
  intro n
  induction n with
  | zero =>
    intro r h h0
    refine ev_tail ?_
    simp only [impl_ChordOf.l1, chRow]
    refine ev_neg (by omega) ?_
    rw [wrap_id (by omega) (by omega)]
    exact hf
  | succ n ih =>
    intro r h h0
    have e := ih (r + 1) (by omega) (by omega)
    have hl := tonesM_length r kd
    refine ev_tail ?_
    simp only [impl_ChordOf.l1, chRow]
    refine ev_pos (by omega) (Ev.bind (implTonesOf_ev r kd) (Ev.bind (implEqual_ev _ _ (by omega)) ?_))
    refine ev_ite (fun c => ?_) (fun c => ?_)
    · rw [if_pos (by simpa using c)]; exact Ev.now _
    · rw [if_neg (by simpa using c), wrap_id (by omega) (by omega)]; exact e
theorem implChord_l0 (cl : List Int) : ∀ (n : Nat) (kd : Int), kd + n = 6 → 1 ≤ kd → Ev (fun k => impl_ChordOf.l0 k cl kd) (chAll cl n kd) := by
  intro n
  induction n with
  | zero =>
    intro kd h h0
    refine ev_tail ?_
    simp only [impl_ChordOf.l0, chAll]
    exact ev_neg (by omega) (Ev.now _)
  | succ n ih =>
    intro kd h h0
    have e := ih (kd + 1) (by omega) (by omega)
    refine ev_tail ?_
    simp only [impl_ChordOf.l0, chAll]
    exact ev_pos (by omega) (implChord_l1 cl kd _ (by omega) e 12 0 (by omega) (by omega))
theorem implChordOf_ev (cl : List Int) : Ev (fun k => impl_ChordOf.f k cl) (chordM cl) := by
  simp only [impl_ChordOf.f]
  exact implChord_l0 cl 5 1 (by omega) (by omega)

theorem i12 {a : Int} (h0 : 0 ≤ a) (h1 : a ≤ 11) : a = 0 ∨ a = 1 ∨ a = 2 ∨ a = 3 ∨ a = 4 ∨ a = 5 ∨ a = 6 ∨ a = 7 ∨ a = 8 ∨ a = 9 ∨ a = 10 ∨ a = 11 := by omega
theorem i5 {a : Int} (h0 : 1 ≤ a) (h1 : a ≤ 5) : a = 1 ∨ a = 2 ∨ a = 3 ∨ a = 4 ∨ a = 5 := by omega
def textRoot : List ByteArray := [⟨#[99]⟩, ⟨#[99, 35]⟩, ⟨#[100]⟩, ⟨#[100, 35]⟩, ⟨#[101]⟩, ⟨#[102]⟩, ⟨#[102, 35]⟩, ⟨#[103]⟩, ⟨#[103, 35]⟩, ⟨#[97]⟩, ⟨#[97, 35]⟩, ⟨#[98]⟩]
def textKind : List ByteArray := [⟨#[]⟩, ⟨#[109]⟩, ⟨#[111]⟩, ⟨#[43]⟩, ⟨#[55]⟩]
def textM (a b : Int) : ByteArray := if chordOK a b = true then rdOf ByteArray.empty textRoot a ++ rdOf ByteArray.empty textKind (b - 1) else ⟨#[]⟩
theorem textSize {a b : Int} (h : chordOK a b = true) : (rdOf ByteArray.empty textRoot a).size + (rdOf ByteArray.empty textKind (b - 1)).size ≤ 9223372036854775807 := by
  simp only [chordOK, decide_eq_true_eq] at h
  have ha : (rdOf ByteArray.empty textRoot a).size ≤ 2 := by
    rcases i12 h.1 h.2.1 with rfl | rfl | rfl | rfl | rfl | rfl | rfl | rfl | rfl | rfl | rfl | rfl <;> decide
  have hb : (rdOf ByteArray.empty textKind (b - 1)).size ≤ 1 := by
    rcases i5 h.2.2.1 h.2.2.2 with rfl | rfl | rfl | rfl | rfl <;> decide
  omega
theorem implChordText_eq (a b : Int) : impl_ChordText.f a b = some (textM a b) := by
  simp only [impl_ChordText.f, implIsChord_eq, Option.bind_some, textM]
  by_cases h : chordOK a b = true
  · have hs := textSize h
    have h' := h
    simp only [chordOK, decide_eq_true_eq] at h'
    have hw : wrap64 (b - 1) = b - 1 := wrap_id (by omega) (by omega)
    rw [if_pos h, if_pos (by omega), if_pos (by simp; omega), hw, if_pos (by omega), if_pos (by simp; omega)]
    refine Eq.trans (if_pos hs) ?_
    rw [if_pos h]
    rfl
  · rw [if_neg h, if_neg h]

def moveM (a b h : Int) : Int × Int × Bool := if chordOK a b = true ∧ -100 ≤ h ∧ h ≤ 100 then (modM (wrap64 (a + h)) 12, b, true) else (0, 0, false)
theorem implMoveChord_eq (a b h : Int) : impl_MoveChord.f a b h = some (moveM a b h) := by
  simp only [impl_MoveChord.f, implIsChord_eq, InRange_eq, implMod_eq, Option.bind_some, moveM]
  by_cases h1 : chordOK a b = true <;> by_cases h2 : -100 ≤ h ∧ h ≤ 100 <;> simp [h1, h2]

def evOK (e : S82) : Bool := decide (0 ≤ e.f0 ∧ e.f0 ≤ 2000 ∧ 1 ≤ e.f1 ∧ e.f1 ≤ 96 ∧ 21 ≤ e.f2 ∧ e.f2 ≤ 108 ∧ 1 ≤ e.f3 ∧ e.f3 ≤ 4)
/-- In order: by At, then by Voice, then by Pitch. -/
def evLt (a b : S82) : Bool := decide (a.f0 < b.f0 ∨ (a.f0 = b.f0 ∧ (a.f3 < b.f3 ∨ (a.f3 = b.f3 ∧ a.f2 < b.f2))))
def scC (l : List S82) (i : Int) : Bool := evOK (rd_T82 l i) && (decide (i ≤ 0) || evLt (rd_T82 l (i - 1)) (rd_T82 l i))
def scoreM (l : List S82) : Bool := allF (scC l) (decide ((l.length : Int) ≤ 40)) l.length 0
theorem l8Ok_eq (e : S82) : spec_l8Ok.f e.f0 e.f1 e.f2 e.f3 = some (evOK e) := by
  simp only [spec_l8Ok.f, l1In_eq, Option.bind_some, evOK]
  by_cases h1 : 0 ≤ e.f0 ∧ e.f0 ≤ 2000 <;> by_cases h2 : 1 ≤ e.f1 ∧ e.f1 ≤ 96 <;> by_cases h3 : 21 ≤ e.f2 ∧ e.f2 ≤ 108 <;> simp [h1, h2, h3, and_assoc] <;> omega
theorem l8Before_eq (a b : S82) : spec_l8Before.f a.f0 a.f1 a.f2 a.f3 b.f0 b.f1 b.f2 b.f3 = some (evLt a b) := by
  simp only [spec_l8Before.f, evLt]
  by_cases h1 : a.f0 = b.f0
  · rw [if_pos h1]
    by_cases h2 : a.f3 = b.f3
    · rw [if_pos h2]; congr 1; exact decide_eq_decide.mpr (by omega)
    · rw [if_neg h2]; congr 1; exact decide_eq_decide.mpr (by omega)
  · rw [if_neg h1]; congr 1; exact decide_eq_decide.mpr (by omega)
theorem specIsScore_ev (l : List S82) (h : l.length ≤ 1048576) : Ev (fun k => spec_IsScore.f k l) (scoreM l) := by
  simp only [spec_IsScore.f]
  refine ev_all (L := fun k i => spec_IsScore.l0 k l i) (n := l.length) (fun i hi => ?_) ?_ l.length 0 (by omega)
  · have w1 : Aside0 (wrap64 ((i : Int) + 1) = (i : Int) + 1) := ⟨wrap_id (by omega) (by omega)⟩
    have w2 : Aside0 (wrap64 ((i : Int) - 1) = (i : Int) - 1) := ⟨wrap_id (by omega) (by omega)⟩
    constructor
    · intro hc r e
      simp only [scC, Bool.and_eq_true] at hc
      obtain ⟨h1, h2⟩ := hc
      refine ev_tail ?_
      simp only [spec_IsScore.l0, l8Ok_eq, l8Before_eq, Option.bind_some, w1.out, w2.out]
      refine ev_pos (by omega) (ev_pos (by omega) (ev_pos h1 (ev_ite (fun h0 => ?_) (fun _ => e))))
      rw [decide_eq_false (by omega), Bool.false_or] at h2
      exact ev_pos (by omega) (ev_pos (by omega) (ev_pos h2 e))
    · intro hc
      simp only [scC, Bool.and_eq_false_iff] at hc
      refine ev_tail ?_
      simp only [spec_IsScore.l0, l8Ok_eq, l8Before_eq, Option.bind_some, w1.out, w2.out]
      refine ev_pos (by omega) (ev_pos (by omega) (ev_ite (fun h1 => ?_) (fun _ => Ev.now _)))
      rcases hc with hc | hc
      · rw [hc] at h1; exact absurd h1 (by simp)
      · simp only [Bool.or_eq_false_iff, decide_eq_false_iff_not] at hc
        exact ev_pos (by omega) (ev_pos (by omega) (ev_pos (by omega) (ev_neg (by rw [hc.2]; simp) (Ev.now _))))
  · refine ev_tail ?_
    simp only [spec_IsScore.l0]
    exact ev_neg (by omega) (Ev.now _)
theorem cmp_eq (a b : Int) : cmp_Compare_int.f a b = some (if a < b then -1 else if a > b then 1 else 0) := by
  simp only [cmp_Compare_int.f, cmp_isNaN_int.f, Option.bind_some, bne_self_eq_false, Bool.false_eq_true, if_false]
  by_cases h1 : a < b
  · rw [if_pos h1, if_pos h1]
  · rw [if_neg h1, if_neg h1]
    by_cases h2 : a > b
    · rw [if_pos h2, if_pos h2]
    · rw [if_neg h2, if_neg h2]
theorem or_ev (a b c : Int) : Ev (fun k => cmp_Or_int.f k [a, b, c]) (if a = 0 then (if b = 0 then (if c = 0 then 0 else c) else b) else a) := by
  simp only [cmp_Or_int.f]
  have r0 : rd [a, b, c] 0 = a := rfl
  have r1 : rd [a, b, c] 1 = b := rfl
  have r2 : rd [a, b, c] 2 = c := rfl
  have w0 : wrap64 ((0 : Int) + 1) = 1 := by unfold wrap64; omega
  have w1 : wrap64 ((1 : Int) + 1) = 2 := by unfold wrap64; omega
  have w2 : wrap64 ((2 : Int) + 1) = 3 := by unfold wrap64; omega
  refine ev_tail ?_
  simp only [cmp_Or_int.l0, r0, w0]
  refine ev_pos (by simp) (ev_pos (by omega) (ev_pos (by simp) (ev_ite (fun h0 => ?_) (fun h0 => ?_))))
  · rw [if_pos h0]
    refine ev_tail ?_
    simp only [cmp_Or_int.l0, r1, w1]
    refine ev_pos (by simp) (ev_pos (by omega) (ev_pos (by simp) (ev_ite (fun h1 => ?_) (fun h1 => ?_))))
    · rw [if_pos h1]
      refine ev_tail ?_
      simp only [cmp_Or_int.l0, r2, w2]
      refine ev_pos (by simp) (ev_pos (by omega) (ev_pos (by simp) (ev_ite (fun h2 => ?_) (fun h2 => ?_))))
      · rw [if_pos h2]
        refine ev_tail ?_
        simp only [cmp_Or_int.l0]
        exact ev_neg (by simp) (Ev.now _)
      · rw [if_neg h2]; exact Ev.now _
    · rw [if_neg h1]; exact Ev.now _
  · rw [if_neg h0]; exact Ev.now _
theorem eventOrder_ev (a b : S82) : ∃ r, Ev (fun k => impl_eventOrder.f k a.f0 a.f1 a.f2 a.f3 b.f0 b.f1 b.f2 b.f3) r ∧ (evLt a b = true ↔ r < 0) := by
  simp only [impl_eventOrder.f, cmp_eq, Option.bind_some]
  refine ⟨_, Ev.bind (or_ev _ _ _) (Ev.now _), ?_⟩
  simp only [evLt, decide_eq_true_eq]
  repeat' split
  all_goals omega
theorem implIsScore_ev (l : List S82) (h : l.length ≤ 1048576) : Ev (fun k => impl_IsScore.f k l) (scoreM l) := by
  simp only [impl_IsScore.f]
  refine ev_all (L := fun k i => impl_IsScore.l0 k l l (l.length : Int) i) (n := l.length) (fun i hi => ?_) ?_ l.length 0 (by omega)
  · have w1 : Aside0 (wrap64 ((i : Int) + 1) = (i : Int) + 1) := ⟨wrap_id (by omega) (by omega)⟩
    have w2 : Aside0 (wrap64 ((i : Int) - 1) = (i : Int) - 1) := ⟨wrap_id (by omega) (by omega)⟩
    obtain ⟨q, hq, hl⟩ := eventOrder_ev (rd_T82 l ((i : Int) - 1)) (rd_T82 l (i : Int))
    constructor
    · intro hc r e
      simp only [scC, Bool.and_eq_true, evOK, decide_eq_true_eq] at hc
      obtain ⟨h1, h2⟩ := hc
      refine ev_tail ?_
      simp only [impl_IsScore.l0, InRange_eq, Option.bind_some, w1.out, w2.out]
      refine ev_pos (by omega) (ev_pos (by omega) (ev_pos (by omega) (ev_pos (by simp; omega) (ev_pos (by simp; omega) (ev_pos (by simp; omega) (ev_pos (by simp; omega) (ev_ite (fun h0 => ?_) (fun _ => e))))))))
      rw [decide_eq_false (by omega), Bool.false_or] at h2
      have := hl.mp h2
      exact ev_pos (by omega) (ev_pos (by omega) (Ev.bind hq (ev_neg (by omega) e)))
    · intro hc
      refine ev_tail ?_
      simp only [impl_IsScore.l0, InRange_eq, Option.bind_some, w1.out, w2.out]
      refine ev_pos (by omega) (ev_pos (by omega) (ev_pos (by omega) (ev_ite (fun h1 => ev_ite (fun h2 => ev_ite (fun h3 => ev_ite (fun h4 => ?_) (fun _ => Ev.now _)) (fun _ => Ev.now _)) (fun _ => Ev.now _)) (fun _ => Ev.now _))))
      simp only [decide_eq_true_eq] at h1 h2 h3 h4
      simp only [scC, Bool.and_eq_false_iff] at hc
      rcases hc with hc | hc
      · simp only [evOK, decide_eq_false_iff_not] at hc
        exact absurd ⟨h1.1, h1.2, h2.1, h2.2, h3.1, h3.2, h4.1, h4.2⟩ hc
      · simp only [Bool.or_eq_false_iff, decide_eq_false_iff_not] at hc
        have : ¬ q < 0 := fun hlt => by rw [hl.mpr hlt] at hc; exact absurd hc.2 (by simp)
        exact ev_pos (by omega) (ev_pos (by omega) (ev_pos (by omega) (Ev.bind hq (ev_pos (by omega) (Ev.now _)))))
  · refine ev_tail ?_
    simp only [impl_IsScore.l0]
    exact ev_neg (by omega) (Ev.now _)
/-- Does an event sound at a tick? -/
def sounds (e : S82) (t : Int) : Bool := decide (e.f0 ≤ t ∧ t < wrap64 (e.f0 + e.f1))
theorem sounds_eq (e : S82) (t : Int) : impl_Event_sounds.f e.f0 e.f1 e.f2 e.f3 t = some (sounds e t) := by
  simp only [impl_Event_sounds.f, sounds]
  by_cases h : e.f0 ≤ t
  · rw [if_pos h]; simp [h]
  · rw [if_neg h]; simp [h]

def sdAll (l : List S82) (t : Int) (i : Int) (out : List Int) : List Int := if sounds (rd_T82 l i) t = true then out ++ [(rd_T82 l i).f2] else out
def soundsM (l : List S82) (t : Int) : List Int := if scoreM l = true then setN (foldM (sdAll l t) l.length 0 []) else []
theorem sdAll_length (l : List S82) (t : Int) (d : Nat) : ∀ (i : Nat) (out : List Int), (foldM (sdAll l t) d i out).length ≤ out.length + d := by
  induction d with
  | zero => intro i out; simp [foldM]
  | succ d ih =>
    intro i out
    simp only [foldM]
    have := ih (i + 1) (sdAll l t (i : Int) out)
    have h : (sdAll l t (i : Int) out).length ≤ out.length + 1 := by unfold sdAll; split <;> simp
    omega
theorem soundsM_length (l : List S82) (t : Int) : (soundsM l t).length ≤ l.length := by
  unfold soundsM
  split
  · have h1 := setN_length (foldM (sdAll l t) l.length 0 [])
    have h2 := sdAll_length l t l.length 0 []
    simp only [List.length_nil] at h2
    omega
  · simp
theorem implSoundsAt_ev (l : List S82) (t : Int) (h : l.length ≤ 1048576) : Ev (fun k => impl_SoundsAt.f k l t) (soundsM l t) := by
  simp only [impl_SoundsAt.f, soundsM, Option.bind_some]
  refine Ev.bind (implIsScore_ev l h) (ev_ite (fun hsc => ?_) (fun hsc => ?_))
  · rw [if_pos hsc]
    refine ev_fold (L := fun k p i => impl_SoundsAt.l0 k t p l (l.length : Int) i) (st := sdAll l t) (fin := setN) (n := l.length) (s0 := 0) (fun i out => out.length ≤ i) (fun i out _ hi ho => ?_) (fun i p _ hi ho r e => ?_) (fun p ho => ?_) l.length 0 [] (by omega) (by omega) (by simp)
    · unfold sdAll
      split
      · simp only [List.length_append, List.length_cons, List.length_nil]; omega
      · omega
    · have w1 : Aside0 (wrap64 ((i : Int) + 1) = (i : Int) + 1) := ⟨wrap_id (by omega) (by omega)⟩
      refine ev_tail ?_
      simp only [impl_SoundsAt.l0, w1.out]
      refine ev_pos (by omega) (ev_pos (by omega) (ev_pos (by omega) (ev_val (sounds_eq _ t) ?_)))
      unfold sdAll at e
      refine ev_ite (fun c => ?_) (fun c => ?_)
      · rw [if_pos c] at e; exact ev_pos (by omega) e
      · rw [if_neg c] at e; exact e
    · refine ev_tail ?_
      simp only [impl_SoundsAt.l0]
      refine ev_neg (by omega) ?_
      have hs := fun k => sortCompact k p (by omega)
      simp only [hs]
      exact Ev.now _
  · rw [if_neg hsc]
    exact Ev.now _

theorem modM12 (p : Int) : 0 ≤ modM p 12 ∧ modM p 12 ≤ 11 := by
  unfold modM
  rw [if_pos (by omega)]
  have h1 : -11 ≤ Int.tmod p 12 ∧ Int.tmod p 12 ≤ 11 := by
    rcases Int.le_total 0 p with h | h
    · rw [Int.tmod_eq_emod_of_nonneg h]; omega
    · have e := Int.neg_tmod (-p) 12
      rw [Int.neg_neg] at e
      rw [e, Int.tmod_eq_emod_of_nonneg (by omega)]; omega
  generalize Int.tmod p 12 = m at h1 ⊢
  rw [wrap_id (by omega) (by omega), Int.tmod_eq_emod_of_nonneg (by omega)]
  omega
/-! ### draws -/
/-- Where a reader of draws stands: inside its bytes. -/
def Rd (b : List Int) (i : Int) : Prop := 0 ≤ i ∧ i ≤ (b.length : Int) ∧ b.length ≤ 1048576
theorem and255 (x : Int) : 0 ≤ Go.bits .and .i64 x 255 ∧ Go.bits .and .i64 x 255 ≤ 255 := by
  have h : (BitVec.ofInt IntKind.i64.bits x &&& BitVec.ofInt IntKind.i64.bits 255).toNat ≤ 255 := by
    rw [BitVec.toNat_and]; exact Nat.le_trans Nat.and_le_right (by decide)
  show 0 ≤ IntKind.i64.wrap ((BitVec.ofInt IntKind.i64.bits x &&& BitVec.ofInt IntKind.i64.bits 255).toNat : Int) ∧ IntKind.i64.wrap ((BitVec.ofInt IntKind.i64.bits x &&& BitVec.ofInt IntKind.i64.bits 255).toNat : Int) ≤ 255
  generalize (BitVec.ofInt IntKind.i64.bits x &&& BitVec.ofInt IntKind.i64.bits 255).toNat = n at h ⊢
  simp only [i64_w]
  rw [wrap_id (by omega) (by omega)]
  omega
theorem new_l0 (b : List Int) (hb : b.length ≤ 1048576) (d : Nat) : ∀ (i : Nat) (h : Int), i + d = b.length → ∃ h', Ev (fun k => spec_l1New.l0 k b h (i : Int)) (b, 0, h') := by
  induction d with
  | zero =>
    intro i h hi
    refine ⟨h, ev_tail ?_⟩
    simp only [spec_l1New.l0]
    exact ev_neg (by omega) (Ev.now _)
  | succ d ih =>
    intro i h hi
    by_cases h4 : (i : Int) < 4000
    · obtain ⟨h', e⟩ := ih (i + 1) (Go.bits .and .i64 (wrap64 ((wrap64 ((wrap64 (h * 137)) + (wrap64 (rd b (i : Int))))) + 11)) 1073741823) (by omega)
      refine ⟨h', ev_tail ?_⟩
      simp only [spec_l1New.l0]
      refine ev_pos (by omega) (ev_pos h4 (ev_pos (by omega) ?_))
      rw [wrap_succ (by omega)]
      exact e
    · refine ⟨h, ev_tail ?_⟩
      simp only [spec_l1New.l0]
      exact ev_pos (by omega) (ev_neg h4 (Ev.now _))
theorem new_ok (b : List Int) (hb : b.length ≤ 1048576) : ∃ h', Ev (fun k => spec_l1New.f k b) (b, 0, h') := by
  obtain ⟨h', e⟩ := new_l0 b hb b.length 0 (wrap64 (193017 + (b.length : Int))) (by omega)
  exact ⟨h', by simp only [spec_l1New.f]; exact e⟩
theorem Rd.zero {b : List Int} (hb : b.length ≤ 1048576) : Rd b 0 := ⟨by omega, by omega, hb⟩
theorem byte_ok {b : List Int} {i : Int} (h : Rd b i) (s : Int) : ∃ x i' s', spec_l1Byte.f b i s = some (x, i', s') ∧ (0 ≤ x ∧ x ≤ 255) ∧ Rd b i' := by
  obtain ⟨h1, h2, h3⟩ := h
  unfold spec_l1Byte.f
  by_cases c : i < (b.length : Int)
  · rw [if_pos c, if_pos h1]
    exact ⟨_, _, _, rfl, and255 _, by rw [wrap_id (by omega) (by omega)]; exact ⟨by omega, by omega, h3⟩⟩
  · rw [if_neg c]
    exact ⟨_, _, _, rfl, and255 _, h1, h2, h3⟩
theorem below_ok {b : List Int} {i : Int} (h : Rd b i) (s n : Int) : ∃ x i' s', spec_l1Below.f b i s n = some (x, i', s') ∧ (0 ≤ x ∧ (0 < n → x < n) ∧ (n ≤ 0 → x = 0)) ∧ Rd b i' := by
  unfold spec_l1Below.f
  by_cases c0 : n ≤ 0
  · rw [if_pos c0]
    exact ⟨_, _, _, rfl, ⟨by omega, fun z => by omega, fun _ => rfl⟩, h⟩
  · rw [if_neg c0]
    by_cases c1 : n ≤ 256
    · rw [if_pos c1]
      obtain ⟨x, i', s', e, hx, h'⟩ := byte_ok h s
      rw [e]
      simp only [Option.bind_some]
      rw [if_neg (by omega)]
      exact ⟨_, _, _, rfl, ⟨Int.tmod_nonneg _ hx.1, fun _ => Int.tmod_lt_of_pos _ (by omega), fun z => absurd z c0⟩, h'⟩
    · rw [if_neg c1]
      obtain ⟨x, i1, s1, e1, hx, h1⟩ := byte_ok h s
      obtain ⟨y, i2, s2, e2, hy, h2⟩ := byte_ok h1 s1
      obtain ⟨z, i3, s3, e3, hz, h3⟩ := byte_ok h2 s2
      rw [e1]
      simp only [Option.bind_some, e2, e3]
      rw [if_neg (by omega)]
      refine ⟨_, _, _, rfl, ⟨Int.tmod_nonneg _ ?_, fun _ => Int.tmod_lt_of_pos _ (by omega), fun z => absurd z c0⟩, h3⟩
      rw [wrap_id (n := x * 65536) (by omega) (by omega), wrap_id (n := y * 256) (by omega) (by omega), wrap_id (n := x * 65536 + y * 256) (by omega) (by omega), wrap_id (by omega) (by omega)]
      omega

theorem int_ok {b : List Int} {i : Int} (h : Rd b i) (s : Int) (l : List Int) (hl : 0 < l.length) : ∃ v i' s', spec_l1Int.f b i s l = some (v, i', s') ∧ v ∈ l ∧ Rd b i' := by
  obtain ⟨x, i', s', e, ⟨h0, h1, _⟩, h'⟩ := below_ok h s (l.length : Int)
  have h1 := h1 (by omega)
  unfold spec_l1Int.f
  rw [e]
  simp only [Option.bind_some]
  rw [if_pos h0, if_pos h1]
  refine ⟨_, _, _, rfl, ?_, h'⟩
  have hx : x.toNat < l.length := by omega
  have : rd l x = l[x.toNat] := by simp [rd, List.getD, hx]
  rw [this]
  exact List.getElem_mem hx

theorem once_ok {b : List Int} {i : Int} (h : Rd b i) (s n : Int) : ∃ c i' s', spec_l1Once.f b i s n = some (c, i', s') ∧ Rd b i' := by
  obtain ⟨x, i', s', e, _, h'⟩ := below_ok h s n
  unfold spec_l1Once.f
  rw [e]
  exact ⟨_, _, _, rfl, h'⟩

theorem l22Draw_ok {b : List Int} {i : Int} (h : Rd b i) (s : Int) : ∃ r t i' s', spec_l22Draw.f b i s = some (r, t, i', s') ∧ chordOK r t = true ∧ Rd b i' := by
  obtain ⟨x, i1, s1, e1, ⟨x0, x1, _⟩, h1⟩ := below_ok h s 12
  obtain ⟨y, i2, s2, e2, ⟨y0, y1, _⟩, h2⟩ := below_ok h1 s1 5
  have x1 := x1 (by omega)
  have y1 := y1 (by omega)
  unfold spec_l22Draw.f
  rw [e1]
  simp only [Option.bind_some, e2]
  refine ⟨_, _, _, _, rfl, ?_, h2⟩
  rw [wrap_id (by omega) (by omega)]
  unfold chordOK
  exact decide_eq_true (by omega)
theorem l22Any_ok {b : List Int} {i : Int} (h : Rd b i) (s : Int) : ∃ r t i' s', spec_l22Any.f b i s = some (r, t, i', s') ∧ Rd b i' := by
  obtain ⟨r, t, i1, s1, e1, _, h1⟩ := l22Draw_ok h s
  obtain ⟨x, i2, s2, e2, _, h2⟩ := below_ok h1 s1 9
  obtain ⟨v, i3, s3, e3, _, h3⟩ := int_ok h2 s2 [-1, 11, 12] (by decide)
  obtain ⟨u, i4, s4, e4, _, h4⟩ := int_ok h2 s2 [0, 5, 6] (by decide)
  unfold spec_l22Any.f
  rw [e1]
  simp only [Option.bind_some, e2, e3, e4]
  by_cases c0 : x = 0
  · rw [if_pos c0]; exact ⟨_, _, _, _, rfl, h3⟩
  · rw [if_neg c0]
    by_cases c1 : x = 1
    · rw [if_pos c1]; exact ⟨_, _, _, _, rfl, h4⟩
    · rw [if_neg c1]; exact ⟨_, _, _, _, rfl, h2⟩

theorem ascends_ev (l : List Int) (hl : l.length ≤ 1048576) (h : l.Pairwise (· < ·)) : Ev (fun k => laws_ascends.f k l) true := by
  simp only [laws_ascends.f]
  by_cases h0 : l.length = 0
  · refine ev_tail ?_
    simp only [laws_ascends.l0]
    exact ev_neg (by omega) (Ev.now _)
  · have e := ev_all_from (L := fun k i => laws_ascends.l0 k l i) (c := fun _ => true) (fin := true) (n := l.length) (s := 1) (fun i hi hn => ⟨fun _ r e => ?_, fun z => by cases z⟩) ?_ (l.length - 1) 1 (by omega) (by omega)
    · have q : ∀ d i, allF (fun _ => true) true d i = true := fun d => by
        induction d with
        | zero => intro i; rfl
        | succ d ih => intro i; simp only [allF, Bool.true_and]; exact ih _
      rw [q] at e
      exact e
    · have w1 : wrap64 ((i : Int) + 1) = (i : Int) + 1 := wrap_id (by omega) (by omega)
      have w2 : wrap64 ((i : Int) - 1) = ((i - 1 : Nat) : Int) := by rw [wrap_id (by omega) (by omega)]; omega
      refine ev_tail ?_
      simp only [laws_ascends.l0, w1, w2]
      refine ev_pos (by omega) (ev_pos (by omega) (ev_pos (by omega) (ev_pos (by omega) (ev_neg ?_ e))))
      have := List.pairwise_iff_getElem.1 h (i - 1) i (by omega) hn (by omega)
      rw [rd_nat, rd_nat, List.getD_eq_getElem?_getD, List.getD_eq_getElem?_getD, List.getElem?_eq_getElem hn, List.getElem?_eq_getElem (show i - 1 < l.length by omega)]
      simp only [Option.getD_some]
      omega
    · refine ev_tail ?_
      simp only [laws_ascends.l0]
      exact ev_neg (by omega) (Ev.now _)
theorem big_ev (l : List Int) : laws_big.f l = some (decide ((l.length : Int) > 1048576)) := rfl

theorem sameInts_l0 (suf : List Int) : ∀ pre : List Int, (pre ++ suf).length ≤ 1048576 → Ev (fun k => laws_sameInts.l0 k (pre ++ suf) (pre ++ suf) (pre.length : Int)) true := by
  induction suf with
  | nil =>
    intro pre h
    refine ev_tail ?_
    simp only [laws_sameInts.l0]
    exact ev_neg (by simp) (Ev.now _)
  | cons x t ih =>
    intro pre h
    have e := ih (pre ++ [x]) (by simpa using h)
    simp only [List.length_append, List.length_cons] at h
    refine ev_tail ?_
    simp only [laws_sameInts.l0]
    refine ev_pos (by simp; omega) (ev_pos (by omega) (ev_pos (by simp; omega) (ev_pos (by trivial) ?_)))
    rw [wrap_succ (by omega), snoc_cons pre x t, ← length_snoc pre x]
    exact e
theorem sameInts_ev (l : List Int) (h : l.length ≤ 1048576) : Ev (fun k => laws_sameInts.f k l l) true := by
  simp only [laws_sameInts.f]
  exact ev_pos (by trivial) (sameInts_l0 l [] (by simpa using h))

theorem modM_emod {p : Int} (h1 : -1000000 ≤ p) (h2 : p ≤ 1000000) : modM p 12 = p % 12 := by
  unfold modM
  rw [if_pos (by omega)]
  rcases Int.le_total 0 p with h | h
  · rw [Int.tmod_eq_emod_of_nonneg h, wrap_id (by omega) (by omega), Int.tmod_eq_emod_of_nonneg (by omega)]
    omega
  · have e := Int.neg_tmod (-p) 12
    rw [Int.neg_neg] at e
    have e2 : Int.tmod (-p) 12 = (-p) % 12 := Int.tmod_eq_emod_of_nonneg (by omega)
    rw [e, e2, wrap_id (by omega) (by omega), Int.tmod_eq_emod_of_nonneg (by omega)]
    omega

/-! ### an event put into a list -/
def insEv : List S82 → S82 → List S82
  | [], e => [e]
  | x :: t, e => if evLt x e = true then x :: insEv t e else e :: x :: t
theorem insEv_length (l : List S82) (e : S82) : (insEv l e).length = l.length + 1 := by
  induction l with
  | nil => rfl
  | cons x t ih =>
    simp only [insEv]
    split
    · simp [ih]
    · simp
theorem put_l0 (e : S82) (suf : List S82) : ∀ pre : List S82, (pre ++ suf).length ≤ 1048576 → Ev (fun k => spec_l8Put.l0 k (pre ++ suf) (pre.length : Int) e.f0 e.f1 e.f2 e.f3) (pre ++ insEv suf e) := by
  induction suf with
  | nil =>
    intro pre h
    refine ev_tail ?_
    simp only [spec_l8Put.l0, Option.bind_some, List.append_nil, Int.toNat_natCast, List.nil_append, List.length_nil, List.length_append, List.length_cons, List.length_drop, List.length_take]
    simp only [List.append_nil] at h
    refine ev_neg (by omega) (ev_pos (by omega) (ev_pos (by omega) (ev_pos (by omega) (ev_pos (by omega) (ev_pos (by omega) ?_)))))
    exact ev_eq (Ev.now _) (by simp [insEv])
  | cons x t ih =>
    intro pre h
    have hlen : pre.length + (t.length + 1) ≤ 1048576 := by simpa using h
    have hr : rd_T82 (pre ++ x :: t) ((pre.length : Nat) : Int) = x := getD_mid pre x t _
    refine ev_tail ?_
    simp only [spec_l8Put.l0, hr, l8Before_eq, Option.bind_some, List.nil_append]
    refine ev_pos (by simp; omega) (ev_pos (by omega) (ev_ite (fun hlt => ?_) (fun hlt => ?_)))
    · have e1 := ih (pre ++ [x]) (by simpa using h)
      rw [wrap_succ (by omega), snoc_cons pre x t, ← length_snoc pre x]
      exact ev_eq e1 (by simp [insEv, hlt])
    · simp only [Int.toNat_natCast, List.length_nil, List.length_append, List.length_cons, List.length_drop, List.length_take]
      refine ev_pos (by omega) (ev_pos (by omega) (ev_pos (by omega) (ev_pos (by omega) ?_)))
      exact ev_eq (Ev.now _) (by simp only [insEv]; rw [if_neg hlt]; simp)
def putEv (l : List S82) (e : S82) : List S82 × Bool := if scoreM (insEv l e) = true then (insEv l e, true) else (l, false)
theorem putEv_length (l : List S82) (e : S82) : (putEv l e).1.length ≤ l.length + 1 := by
  have := insEv_length l e
  unfold putEv
  split
  · show (insEv l e).length ≤ _; omega
  · show l.length ≤ _; omega
theorem putEvent_ev (l : List S82) (e : S82) (h : l.length ≤ 1000000) : Ev (fun k => spec_PutEvent.f k l e.f0 e.f1 e.f2 e.f3) (putEv l e) := by
  have hl := insEv_length l e
  simp only [spec_PutEvent.f, spec_l8Put.f, Option.bind_some, List.nil_append, List.length_nil, putEv]
  refine Ev.bind (put_l0 e l [] (by simp; omega)) (Ev.bind (specIsScore_ev _ (by simp; omega)) (ev_ite (fun hs => ?_) (fun hs => ev_pos (by omega) ?_)))
  · simp only [List.nil_append] at hs ⊢
    rw [if_pos hs]; exact Ev.now _
  · simp only [List.nil_append] at hs ⊢
    rw [if_neg hs]; exact Ev.now _

theorem chordOK_bd {a b : Int} (h : chordOK a b = true) : (0 ≤ a ∧ a ≤ 11) ∧ 1 ≤ b ∧ b ≤ 5 := by
  unfold chordOK at h
  simp only [decide_eq_true_eq] at h
  omega
/-! ### draws -/
theorem drawTones_ok (b : List Int) (hb : b.length ≤ 1048576) : ∃ r t, Ev (fun k => spec_DrawTonesOf.f k b) (r, t) := by
  obtain ⟨s0, e0⟩ := new_ok b hb
  obtain ⟨r, t, i1, s1, e1, _⟩ := l22Any_ok (Rd.zero hb) s0
  refine ⟨r, t, ?_⟩
  have e2 : Ev (fun k => spec_DrawIsChord.f k b) (r, t) := by
    simp only [spec_DrawIsChord.f]
    refine Ev.bind e0 ?_
    simp only [e1, Option.bind_some]
    exact Ev.now _
  simp only [spec_DrawTonesOf.f]
  exact Ev.bind e2 (Ev.now _)
theorem drawMove_ok (b : List Int) (hb : b.length ≤ 1048576) : ∃ r t h, Ev (fun k => spec_DrawMoveChord.f k b) (r, t, h) := by
  obtain ⟨s0, e0⟩ := new_ok b hb
  obtain ⟨r, t, i1, s1, e1, h1⟩ := l22Any_ok (Rd.zero hb) s0
  obtain ⟨v, i2, s2, e2, _, _⟩ := int_ok h1 s1 [0, 1, 7, -5, 12, 100, -100, 101] (by decide)
  refine ⟨r, t, v, ?_⟩
  simp only [spec_DrawMoveChord.f]
  refine Ev.bind e0 ?_
  simp only [e1, e2, Option.bind_some]
  exact Ev.now _
theorem l22Pitches_l0 (suf : List Int) : ∀ (pre out : List Int) {b : List Int} {i : Int} (h : Rd b i) (s : Int), (pre ++ suf).length ≤ 1000 → out.length ≤ pre.length →
    ∃ l i' s', Ev (fun k => spec_l22Pitches.l0 k (pre ++ suf) out (pre.length : Int) b i s) (l, i', s') ∧ l.length ≤ (pre ++ suf).length + 1 ∧ Rd b i' := by
  induction suf with
  | nil =>
    intro pre out b i h s hl ho
    obtain ⟨c, i1, s1, e1, h1⟩ := once_ok h s 4
    obtain ⟨x, i2, s2, e2, _, h2⟩ := below_ok h1 s1 12
    have hp : pre.length ≤ 1000 := by simpa using hl
    cases c with
    | true =>
      refine ⟨out ++ [wrap64 (60 + x)], i2, s2, ev_tail ?_, by simp; omega, h2⟩
      simp only [spec_l22Pitches.l0, e1, e2, Option.bind_some]
      exact ev_neg (by simp) (ev_pos (by trivial) (ev_pos (by omega) (Ev.now _)))
    | false =>
      refine ⟨out, i1, s1, ev_tail ?_, by simp; omega, h1⟩
      simp only [spec_l22Pitches.l0, e1, e2, Option.bind_some]
      exact ev_neg (by simp) (ev_neg (by simp) (Ev.now _))
  | cons x t ih =>
    intro pre out b i h s hl ho
    obtain ⟨y, i1, s1, e1, _, h1⟩ := below_ok h s 2
    obtain ⟨l, i2, s2, e2, hl2, h2⟩ := ih (pre ++ [x]) (out ++ [wrap64 (x + wrap64 (12 * wrap64 (4 + y)))]) h1 s1 (by simpa using hl) (by simp; omega)
    refine ⟨l, i2, s2, ev_tail ?_, by simpa using hl2, h2⟩
    simp only [List.length_append, List.length_cons] at hl
    simp only [spec_l22Pitches.l0, e1, Option.bind_some]
    refine ev_pos (by simp; omega) (ev_pos (by omega) (ev_pos (by omega) ?_))
    rw [rd_mid, wrap_succ (by omega), snoc_cons pre x t, ← length_snoc pre x]
    exact e2
theorem l22Pitches_ok {b : List Int} {i : Int} (h : Rd b i) (s : Int) : ∃ l i' s', Ev (fun k => spec_l22Pitches.f k b i s) (l, i', s') ∧ l.length ≤ 10 ∧ Rd b i' := by
  obtain ⟨r, t, i1, s1, e1, _, h1⟩ := l22Draw_ok h s
  have ht := tonesM_length r t
  obtain ⟨l, i2, s2, e2, hl2, h2⟩ := l22Pitches_l0 (tonesM r t) [] [] h1 s1 (by simp; omega) (by simp)
  refine ⟨l, i2, s2, ?_, by simp at hl2; omega, h2⟩
  simp only [spec_l22Pitches.f, e1, Option.bind_some]
  exact Ev.bind (specTonesOf_ev r t) e2
theorem drawClasses_ok (b : List Int) (hb : b.length ≤ 1048576) : ∃ l, Ev (fun k => spec_DrawClassesOf.f k b) l ∧ l.length ≤ 11 := by
  obtain ⟨s0, e0⟩ := new_ok b hb
  obtain ⟨l, i1, s1, e1, hl, h1⟩ := l22Pitches_ok (Rd.zero hb) s0
  obtain ⟨c, i2, s2, e2, h2⟩ := once_ok h1 s1 4
  obtain ⟨v, i3, s3, e3, _, _⟩ := int_ok h2 s2 [-1, 0, 1, 1000000000, -1000000000, 1000000001, 1000000, 1000001, 9223372036854775807, -9223372036854775808] (by decide)
  cases c with
  | true =>
    refine ⟨l ++ [v], ?_, by simp; omega⟩
    simp only [spec_DrawClassesOf.f]
    refine Ev.bind e0 (Ev.bind e1 ?_)
    simp only [e2, spec_l4Raw.f, e3, Option.bind_some]
    exact ev_pos (by trivial) (ev_pos (by omega) (Ev.now _))
  | false =>
    refine ⟨l, ?_, by omega⟩
    simp only [spec_DrawClassesOf.f]
    refine Ev.bind e0 (Ev.bind e1 ?_)
    simp only [e2, spec_l4Raw.f, e3, Option.bind_some]
    exact ev_neg (by simp) (Ev.now _)
theorem drawChordAt_l0 (suf : List Int) : ∀ (pre : List Int) (l : List S82) {b : List Int} {i : Int} (h : Rd b i) (s : Int), (pre ++ suf).length ≤ 1000 → l.length ≤ pre.length →
    ∃ l' t, Ev (fun k => spec_DrawChordAt.l0 k (pre ++ suf) l (pre.length : Int) b i s) (l', t) ∧ l'.length ≤ (pre ++ suf).length := by
  induction suf with
  | nil =>
    intro pre l b i h s hp hl
    obtain ⟨v, i1, s1, e1, _, _⟩ := int_ok h s [0, 6, 12, 24, 30] (by decide)
    refine ⟨l, v, ev_tail ?_, by simpa using hl⟩
    simp only [spec_DrawChordAt.l0, e1, Option.bind_some]
    exact ev_neg (by simp) (Ev.now _)
  | cons x t ih =>
    intro pre l b i h s hp hl
    obtain ⟨y, i1, s1, e1, _, h1⟩ := below_ok h s 2
    have hlen : pre.length + (t.length + 1) ≤ 1000 := by simpa using hp
    have e2 := putEvent_ev l ⟨wrap64 (6 * y), 24, x, wrap64 (1 + Int.tmod (pre.length : Int) 4)⟩ (by omega)
    have h2 := putEv_length l ⟨wrap64 (6 * y), 24, x, wrap64 (1 + Int.tmod (pre.length : Int) 4)⟩
    obtain ⟨l', t', e3, h3⟩ := ih (pre ++ [x]) (putEv l ⟨wrap64 (6 * y), 24, x, wrap64 (1 + Int.tmod (pre.length : Int) 4)⟩).1 h1 s1 (by simpa using hp) (by simp; omega)
    refine ⟨l', t', ev_tail ?_, by simpa using h3⟩
    simp only [spec_DrawChordAt.l0, e1, Option.bind_some]
    refine ev_pos (by simp; omega) (ev_pos (by omega) ?_)
    rw [rd_mid, wrap_succ (by omega), snoc_cons pre x t, ← length_snoc pre x]
    exact Ev.bind e2 e3
theorem drawChordAt_ok (b : List Int) (hb : b.length ≤ 1048576) : ∃ l t, Ev (fun k => spec_DrawChordAt.f k b) (l, t) ∧ l.length ≤ 1000 := by
  obtain ⟨s0, e0⟩ := new_ok b hb
  obtain ⟨p, i1, s1, e1, hp, h1⟩ := l22Pitches_ok (Rd.zero hb) s0
  obtain ⟨l, t, e2, h2⟩ := drawChordAt_l0 p [] [] h1 s1 (by simp; omega) (by simp)
  refine ⟨l, t, ?_, by simp at h2; omega⟩
  simp only [spec_DrawChordAt.f]
  exact Ev.bind e0 (Ev.bind e1 e2)
/-! ### the law -/
theorem found_fin : ∀ (r : Fin 12) (s : Fin 5), (chordM (tonesM ((r.val : Nat) : Int) (((s.val : Nat) : Int) + 1))).2.2 = true ∧ tonesM (chordM (tonesM ((r.val : Nat) : Int) (((s.val : Nat) : Int) + 1))).1 (chordM (tonesM ((r.val : Nat) : Int) (((s.val : Nat) : Int) + 1))).2.1 = tonesM ((r.val : Nat) : Int) (((s.val : Nat) : Int) + 1) ∧
    (s.val ≠ 3 → (chordM (tonesM ((r.val : Nat) : Int) (((s.val : Nat) : Int) + 1))).1 = ((r.val : Nat) : Int) ∧ (chordM (tonesM ((r.val : Nat) : Int) (((s.val : Nat) : Int) + 1))).2.1 = ((s.val : Nat) : Int) + 1) ∧ (textM ((r.val : Nat) : Int) (((s.val : Nat) : Int) + 1)).toList ≠ ([] : List UInt8) := by decide +kernel
theorem found {r s : Int} (hc : chordOK r s = true) : (chordM (tonesM r s)).2.2 = true ∧ tonesM (chordM (tonesM r s)).1 (chordM (tonesM r s)).2.1 = tonesM r s ∧ (s ≠ 4 → (chordM (tonesM r s)).1 = r ∧ (chordM (tonesM r s)).2.1 = s) ∧ (textM r s).toList ≠ ([] : List UInt8) := by
  obtain ⟨⟨h1, h2⟩, h3, h4⟩ := chordOK_bd hc
  have h := found_fin ⟨r.toNat, by omega⟩ ⟨(s - 1).toNat, by omega⟩
  dsimp only at h
  rw [show ((r.toNat : Nat) : Int) = r by omega, show (((s - 1).toNat : Nat) : Int) + 1 = s by omega] at h
  exact ⟨h.1, h.2.1, fun z => h.2.2.1 (by omega), h.2.2.2⟩
theorem row_found (cl : List Int) (kd : Int) (fin : Int × Int × Bool) (hf : fin.2.2 = true → tonesM fin.1 fin.2.1 = cl) (n : Nat) : ∀ r, (chRow cl kd fin n r).2.2 = true → tonesM (chRow cl kd fin n r).1 (chRow cl kd fin n r).2.1 = cl := by
  induction n with
  | zero => intro r h; exact hf h
  | succ n ih =>
    intro r h
    simp only [chRow] at h ⊢
    by_cases c : tonesM r kd = cl
    · rw [if_pos c]; exact c
    · rw [if_neg c] at h ⊢; exact ih _ h
theorem all_found (cl : List Int) (n : Nat) : ∀ kd, (chAll cl n kd).2.2 = true → tonesM (chAll cl n kd).1 (chAll cl n kd).2.1 = cl := by
  induction n with
  | zero => intro kd h; simp [chAll] at h
  | succ n ih => intro kd h; exact row_found cl kd _ (ih (kd + 1)) 12 0 h
theorem tonesM_asc (r s : Int) : (tonesM r s).Pairwise (· < ·) := by
  unfold tonesM
  split
  · exact setN_asc _
  · exact List.Pairwise.nil
theorem classesM_bd (l : List Int) : ∀ x ∈ classesM l, 0 ≤ x ∧ x ≤ 11 := by
  intro x hx
  unfold classesM at hx
  rw [setN_mem] at hx
  obtain ⟨y, _, rfl⟩ := List.mem_map.1 hx
  exact modM12 y
theorem ch_l0 (b : List Int) (hb : b.length ≤ 1048576) (c : List Int) (hc : c.length ≤ 1048576) (ha : c.Pairwise (· < ·)) (hm : ∀ x ∈ c, 0 ≤ x ∧ x ≤ 11) (suf : List Int) : ∀ pre : List Int, c = pre ++ suf → Ev (fun k => laws_FnChords.l0 k b c (pre.length : Int)) true := by
  induction suf with
  | nil =>
    intro pre h
    have hlen : c.length = pre.length := by rw [h]; simp
    obtain ⟨l, t, e1, hl⟩ := drawChordAt_ok b hb
    have hs := soundsM_length l t
    have hk := classesM_length (soundsM l t)
    have i1 : Ev (fun k => impl_ChordAt.f k l t) (chordM (classesM (soundsM l t))) := by
      simp only [impl_ChordAt.f]
      exact Ev.bind (implSoundsAt_ev _ t (by omega)) (Ev.bind (implClassesOf_ev _ (by omega)) (Ev.bind (implChordOf_ev _) (Ev.now _)))
    refine ev_tail ?_
    simp only [laws_FnChords.l0]
    refine ev_neg (by omega) (Ev.bind e1 (Ev.bind i1 (Ev.bind (ascends_ev c hc ha) (ev_pos (by trivial) (ev_ite (fun hz => ?_) (fun _ => Ev.now _))))))
    have hf := all_found (classesM (soundsM l t)) 5 1 hz
    have ht := tonesM_length (chordM (classesM (soundsM l t))).1 (chordM (classesM (soundsM l t))).2.1
    refine Ev.bind (implTonesOf_ev _ _) (Ev.bind (implSoundsAt_ev l t (by omega)) (Ev.bind (implClassesOf_ev _ (by omega)) ?_))
    rw [show tonesM (chordM (classesM (soundsM l t))).1 (chordM (classesM (soundsM l t))).2.1 = classesM (soundsM l t) from hf]
    exact Ev.bind (sameInts_ev _ (by omega)) (Ev.now _)
  | cons x t ih =>
    intro pre h
    have hlen : c.length = pre.length + (t.length + 1) := by rw [h]; simp
    have e := ih (pre ++ [x]) (by rw [h]; simp)
    have hr : rd c ((pre.length : Nat) : Int) = x := by rw [h]; exact rd_mid pre x t
    have hx := hm x (by rw [h]; simp)
    refine ev_tail ?_
    simp only [laws_FnChords.l0, hr]
    refine ev_pos (by omega) (ev_pos (by omega) (ev_neg (by omega) (ev_neg (by omega) ?_)))
    rw [wrap_succ (by omega), ← length_snoc pre x]
    exact e
theorem ch_j1 (b : List Int) (hb : b.length ≤ 1048576) : Ev (fun k => laws_FnChords.j1 k b) true := by
  obtain ⟨l, e1, hl⟩ := drawClasses_ok b hb
  have hk := classesM_length l
  refine ev_tail ?_
  simp only [laws_FnChords.j1]
  exact Ev.bind e1 (Ev.bind (implClassesOf_ev l (by omega)) (ch_l0 b hb (classesM l) (by omega) (setN_asc _) (classesM_bd l) (classesM l) [] rfl))
theorem ch_j0 (b : List Int) (hb : b.length ≤ 1048576) : Ev (fun k => laws_FnChords.j0 k b) true := by
  obtain ⟨r, s, h, e1⟩ := drawMove_ok b hb
  refine ev_tail ?_
  simp only [laws_FnChords.j0, implMoveChord_eq, Option.bind_some]
  refine Ev.bind e1 (ev_ite (fun hm => ?_) (fun _ => ch_j1 b hb))
  dsimp only at hm ⊢
  have hc : chordOK r s = true ∧ -100 ≤ h ∧ h ≤ 100 := by
    unfold moveM at hm
    split at hm
    · assumption
    · cases hm
  obtain ⟨⟨h1, h2⟩, h3, h4⟩ := chordOK_bd hc.1
  have m1 : moveM r s h = ((r + h) % 12, s, true) := by
    unfold moveM
    rw [if_pos hc, wrap_id (by omega) (by omega), modM_emod (by omega) (by omega)]
  have hc2 : chordOK ((r + h) % 12) s = true := by unfold chordOK; exact decide_eq_true (by omega)
  have m2 : moveM ((r + h) % 12) s (wrap64 (-h)) = (r, s, true) := by
    rw [wrap_id (n := -h) (by omega) (by omega)]
    unfold moveM
    rw [if_pos ⟨hc2, by omega, by omega⟩, wrap_id (by omega) (by omega), modM_emod (by omega) (by omega), show ((r + h) % 12 + -h) % 12 = r by omega]
  rw [m1]
  dsimp only
  rw [m2]
  exact ev_pos (by trivial) (ev_neg (by simp) (ev_pos rfl (ch_j1 b hb)))
theorem FnChords : ∀ (l0 : List (Int)), (l0.length ≤ maxLen) → (∀ x ∈ l0, (Lit.int .u8 x).wf = true) → ∃ k, laws_FnChords.f k l0 = some true := by
  intro b _ _
  refine Ev.rounds ?_
  simp only [laws_FnChords.f, big_ev, Option.bind_some]
  refine ev_ite (fun _ => Ev.now _) (fun h => ?_)
  simp only [decide_eq_true_eq] at h
  have hb : b.length ≤ 1048576 := by omega
  obtain ⟨r, s, e⟩ := drawTones_ok b hb
  have ht := tonesM_length r s
  refine Ev.bind e (Ev.bind (implTonesOf_ev r s) ?_)
  simp only [implIsChord_eq, specIsChord_eq, implChordText_eq, Option.bind_some, bne_self_eq_false]
  refine ev_neg (by simp) (ev_ite (fun hc => ?_) (fun hc => ?_))
  · obtain ⟨f1, f2, f3, f4⟩ := found hc
    refine Ev.bind (implChordOf_ev _) (ev_pos f1 (Ev.bind (implTonesOf_ev _ _) ?_))
    rw [f2]
    refine Ev.bind (sameInts_ev _ (by omega)) (ev_pos (by trivial) (Ev.bind (ascends_ev _ (by omega) (tonesM_asc r s)) (ev_pos (by trivial) (ev_neg f4 (ev_ite (fun _ => ch_j0 b hb) (fun h4 => ?_))))))
    obtain ⟨g1, g2⟩ := f3 h4
    exact ev_neg (by rw [g1, g2]; simp) (ch_j0 b hb)
  · have t0 : tonesM r s = [] := by unfold tonesM; rw [if_neg hc]
    have x0 : textM r s = ⟨#[]⟩ := by unfold textM; rw [if_neg hc]
    rw [t0, x0]
    exact ev_neg (by simp) (ev_pos (by decide +kernel) (ch_j0 b hb))
end Go.Proofs.Ytlkicjkoejpmbaa.Pure
