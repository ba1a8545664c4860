/-
CadenceOf of the program and of the reference: the same answer.
Conditions: none.
-/
import Derived.Test.YtoigficcabmoeaaPFnExactCadenceOfx4
import Derived.Test.YtoigficcabmoeaaBase
namespace Go.Proofs.Ytoigficcabmoeaa.Pure
open Go.RowKit Go.Proofs.Ytoigficcabmoeaa.PFnExactCadenceOf Go.Proofs.YtoigficcabmoeaaW.PrintWords Go.Proofs.YtoigficcabmoeaaW.PrintLast Go.Proofs.YtoigficcabmoeaaW.PrintMore Go.Proofs.Ytoigficcabmoeaa.Base
set_option linter.unusedVariables false
set_option linter.unusedSimpArgs false

theorem l1In_eq (a b c : Int) : spec_l1In.f a b c = some (decide (b ≤ a ∧ a ≤ c)) := by
  unfold spec_l1In.f
  by_cases h1 : b ≤ a <;> by_cases h2 : a ≤ c <;> simp [h1, h2]
theorem InRange_eq (a b c : Int) : impl_InRange.f a b c = some (decide (b ≤ a ∧ a ≤ c)) := by
  unfold impl_InRange.f
  by_cases h1 : b ≤ a <;> by_cases h2 : a ≤ c <;> simp [h1, h2]

def chordOK (a b : Int) : Bool := decide (0 ≤ a ∧ a ≤ 11 ∧ 1 ≤ b ∧ b ≤ 5)
theorem specIsChord_eq (a b : Int) : spec_IsChord.f a b = some (chordOK a b) := by
  simp only [spec_IsChord.f, l1In_eq, Option.bind_some, chordOK]
  by_cases h1 : 0 ≤ a <;> by_cases h2 : a ≤ 11 <;> by_cases h3 : 1 ≤ b <;> by_cases h4 : b ≤ 5 <;> simp [h1, h2, h3, h4]
theorem implIsChord_eq (a b : Int) : impl_IsChord.f a b = some (chordOK a b) := by
  simp only [impl_IsChord.f, InRange_eq, Option.bind_some, chordOK]
  by_cases h1 : 0 ≤ a <;> by_cases h2 : a ≤ 11 <;> by_cases h3 : 1 ≤ b <;> by_cases h4 : b ≤ 5 <;> simp [h1, h2, h3, h4]

def modM (p q : Int) : Int := if 1 ≤ q ∧ q ≤ 1000000000000 then Int.tmod (wrap64 (Int.tmod p q + q)) q else 0
theorem specMod_eq (p q : Int) : spec_Mod.f p q = some (modM p q) := by
  simp only [spec_Mod.f, l1In_eq, Option.bind_some, modM]
  by_cases h : 1 ≤ q ∧ q ≤ 1000000000000
  · rw [if_pos (by simpa using h), if_neg (by omega), if_pos h]
  · rw [if_neg (by simpa using h), if_neg h]
theorem implMod_eq (p q : Int) : impl_Mod.f p q = some (modM p q) := by
  simp only [impl_Mod.f, InRange_eq, Option.bind_some, modM]
  by_cases h : 1 ≤ q ∧ q ≤ 1000000000000
  · rw [if_pos (by simpa using h), if_neg (by omega), if_pos h]
  · rw [if_neg (by simpa using h), if_neg h]

def keyOK (k : Int) : Bool := decide (-7 ≤ k ∧ k ≤ 7)
theorem specIsKey_eq (k : Int) : spec_IsKey.f k = some (keyOK k) := by
  simp only [spec_IsKey.f, l1In_eq, Option.bind_some, keyOK]
theorem implIsKey_eq (k : Int) : impl_IsKey.f k = some (keyOK k) := by
  simp only [impl_IsKey.f, InRange_eq, Option.bind_some, keyOK]
def tonicM (k : Int) : Int := if keyOK k = true then modM (wrap64 (7 * k)) 12 else -1
theorem specTonicOf_eq (k : Int) : spec_TonicOf.f k = some (tonicM k) := by
  simp only [spec_TonicOf.f, specIsKey_eq, specMod_eq, Option.bind_some, tonicM]
  by_cases h : keyOK k = true <;> simp [h]
theorem implTonicOf_eq (k : Int) : impl_TonicOf.f k = some (tonicM k) := by
  simp only [impl_TonicOf.f, implIsKey_eq, implMod_eq, Option.bind_some, tonicM]
  by_cases h : keyOK k = true <;> simp [h]

/-- Where x stands first in a list, counted from i; -1: nowhere. -/
def idxI : List Int → Int → Int → Int
  | [], _, _ => -1
  | y :: t, x, i => if x = y then i else idxI t x (i + 1)
theorem idxI_bd (l : List Int) (x : Int) : ∀ i, 0 ≤ i → -1 ≤ idxI l x i ∧ idxI l x i < i + l.length + 1 := by
  induction l with
  | nil => intro i h; simp [idxI]; omega
  | cons y t ih =>
    intro i h
    simp only [idxI]
    split
    · simp; omega
    · have := ih (i + 1) (by omega)
      simp only [List.length_cons]
      omega
theorem Index_l0 (x : Int) (suf : List Int) : ∀ pre : List Int, (pre ++ suf).length ≤ 35184372088832 → Ev (fun k => slices_Index_int_int.l0 k (pre ++ suf) x ((pre ++ suf).length : Int) (pre.length : Int)) (idxI suf x (pre.length : Int)) := by
  induction suf with
  | nil =>
    intro pre h
    refine ev_tail ?_
    simp only [slices_Index_int_int.l0]
    exact ev_neg (by simp) (Ev.now _)
  | cons y t ih =>
    intro pre h
    have e := ih (pre ++ [y]) (by simpa using h)
    simp only [List.length_append, List.length_cons] at h
    refine ev_tail ?_
    simp only [slices_Index_int_int.l0, idxI]
    refine ev_pos (by simp; omega) (ev_pos (by omega) (ev_pos (by simp; omega) ?_))
    rw [rd_mid]
    by_cases hy : x = y
    · rw [if_pos hy]
      exact ev_pos hy (Ev.now _)
    · rw [if_neg hy]
      refine ev_neg hy ?_
      rw [wrap_succ (by omega), snoc_cons pre y t, ← length_snoc pre y]
      simpa using e
theorem Index_ev (l : List Int) (x : Int) (h : l.length ≤ 35184372088832) : Ev (fun k => slices_Index_int_int.f k l x) (idxI l x 0) := by
  simp only [slices_Index_int_int.f]
  exact Index_l0 x l [] (by simpa using h)

def scaleM : List Int := [0, 2, 4, 5, 7, 9, 11]
def degreeM (k a b : Int) : Int := if keyOK k = true ∧ chordOK a b = true then idxI scaleM (modM (wrap64 (a - tonicM k)) 12) 0 + 1 else 0
theorem specDegree_l0 (k0 a b : Int) (suf : List Int) : ∀ pre : List Int, scaleM = pre ++ suf → Ev (fun k => spec_DegreeOf.l0 k k0 scaleM (pre.length : Int) a b) (idxI suf (modM (wrap64 (a - tonicM k0)) 12) (pre.length : Int) + 1) := by
  induction suf with
  | nil =>
    intro pre h
    have hl : pre.length = 7 := by have := congrArg List.length h; simpa [scaleM] using this.symm
    refine ev_tail ?_
    simp only [spec_DegreeOf.l0]
    exact ev_neg (by omega) (Ev.now _)
  | cons y t ih =>
    intro pre h
    have e := ih (pre ++ [y]) (by simpa using h)
    have hl : pre.length + (t.length + 1) = 7 := by have := congrArg List.length h; simpa [scaleM] using this.symm
    refine ev_tail ?_
    simp only [spec_DegreeOf.l0, specTonicOf_eq, specMod_eq, Option.bind_some, idxI]
    refine ev_pos (by omega) (ev_pos (by omega) (ev_pos (by simp [scaleM]; omega) ?_))
    have hr : rd scaleM (pre.length : Int) = y := by rw [h, rd_mid]
    rw [hr, wrap_succ (by omega)]
    by_cases hy : modM (wrap64 (a - tonicM k0)) 12 = y
    · rw [if_pos hy]
      exact ev_pos hy.symm (Ev.now _)
    · rw [if_neg hy]
      refine ev_neg (fun h => hy h.symm) ?_
      rw [← length_snoc pre y]
      simpa using e
theorem specDegreeOf_ev (k0 a b : Int) : Ev (fun k => spec_DegreeOf.f k k0 a b) (degreeM k0 a b) := by
  simp only [spec_DegreeOf.f, specIsKey_eq, specIsChord_eq, Option.bind_some, degreeM]
  by_cases hk : keyOK k0 = true
  · refine ev_pos hk (ev_tail ?_)
    simp only [spec_DegreeOf.j0]
    by_cases hc : chordOK a b = true
    · rw [if_pos ⟨hk, hc⟩]
      refine ev_neg (by simp [hc]) ?_
      exact specDegree_l0 k0 a b scaleM [] rfl
    · rw [if_neg (fun h => hc h.2)]
      exact ev_pos (by simpa using hc) (Ev.now _)
  · rw [if_neg (fun h => hk h.1)]
    refine ev_neg hk (ev_tail ?_)
    simp only [spec_DegreeOf.j0]
    exact ev_pos (by trivial) (Ev.now _)
theorem implDegreeOf_ev (k0 a b : Int) : Ev (fun k => impl_DegreeOf.f k k0 a b) (degreeM k0 a b) := by
  simp only [impl_DegreeOf.f, implIsKey_eq, implIsChord_eq, Option.bind_some, degreeM]
  by_cases hk : keyOK k0 = true
  · refine ev_pos hk (ev_tail ?_)
    simp only [impl_DegreeOf.j0, implTonicOf_eq, implMod_eq, Option.bind_some, impl_scale.f]
    by_cases hc : chordOK a b = true
    · rw [if_pos ⟨hk, hc⟩]
      refine ev_neg (by simp [hc]) ?_
      have hb := idxI_bd scaleM (modM (wrap64 (a - tonicM k0)) 12) 0 (by omega)
      have hl : scaleM.length = 7 := rfl
      refine Ev.bind (Index_ev scaleM _ (by simp [scaleM])) ?_
      rw [wrap_id (by omega) (by omega)]
      exact Ev.now _
    · rw [if_neg (fun h => hc h.2)]
      exact ev_pos (by simpa using hc) (Ev.now _)
  · rw [if_neg (fun h => hk h.1)]
    refine ev_neg hk (ev_tail ?_)
    simp only [impl_DegreeOf.j0]
    exact ev_pos (by trivial) (Ev.now _)

def cad2 (a b : Int) (x : Bool) : ByteArray := if x = true then ⟨#[104, 97, 108, 102]⟩ else if a = 5 ∧ b = 6 then ⟨#[98, 114, 111, 107, 101, 110]⟩ else ⟨#[]⟩
def cad1 (a b r s : Int) (x : Bool) : ByteArray := if x = true then ⟨#[112, 108, 97, 103, 97, 108]⟩ else cad2 a b (chordOK r s && (b == 5))
def cad0 (a b r s : Int) (x : Bool) : ByteArray := if x = true then ⟨#[102, 117, 108, 108]⟩ else cad1 a b r s ((a == 4) && (b == 1))
def cadM (a b r s : Int) : ByteArray := cad0 a b r s ((a == 5) && (b == 1) && ((s == 1) || (s == 5)))
theorem specCad_j2 (a b : Int) (x : Bool) : Ev (fun k => spec_CadenceOf.j2 k a b x) (cad2 a b x) := by
  refine ev_tail ?_
  simp only [spec_CadenceOf.j2, cad2]
  refine ev_ite (fun h => ?_) (fun h => ev_ite (fun h1 => ev_ite (fun h2 => ?_) (fun h2 => ?_)) (fun h1 => ?_))
  · rw [if_pos h]; exact Ev.now _
  · rw [if_neg h, if_pos ⟨h1, h2⟩]; exact Ev.now _
  · rw [if_neg h, if_neg (fun z => h2 z.2)]; exact Ev.now _
  · rw [if_neg h, if_neg (fun z => h1 z.1)]; exact Ev.now _
theorem specCad_j1 (a b r s : Int) (x : Bool) : Ev (fun k => spec_CadenceOf.j1 k a b x r s) (cad1 a b r s x) := by
  refine ev_tail ?_
  simp only [spec_CadenceOf.j1, cad1, specIsChord_eq, Option.bind_some]
  refine ev_ite (fun h => ?_) (fun h => ev_ite (fun h1 => ?_) (fun h1 => ?_))
  · rw [if_pos h]; exact Ev.now _
  · rw [if_neg h, h1, Bool.true_and]; exact specCad_j2 a b (b == 5)
  · rw [if_neg h, Bool.eq_false_iff.mpr h1, Bool.false_and]; exact specCad_j2 a b false
theorem specCad_j0 (a b r s : Int) (x : Bool) : Ev (fun k => spec_CadenceOf.j0 k a b x r s) (cad0 a b r s x) := by
  refine ev_tail ?_
  simp only [spec_CadenceOf.j0, cad0]
  refine ev_ite (fun h => ?_) (fun h => ev_ite (fun h1 => ?_) (fun h1 => ?_))
  · rw [if_pos h]; exact Ev.now _
  · rw [if_neg h, show (a == 4) = true by simpa using h1, Bool.true_and]; exact specCad_j1 a b r s (b == 1)
  · rw [if_neg h, show (a == 4) = false by simpa using h1, Bool.false_and]; exact specCad_j1 a b r s false
theorem specCadenceOf_ev (k0 r s u v : Int) : Ev (fun k => spec_CadenceOf.f k k0 r s u v) (cadM (degreeM k0 r s) (degreeM k0 u v) r s) := by
  simp only [spec_CadenceOf.f, cadM]
  refine Ev.bind (specDegreeOf_ev k0 r s) (Ev.bind (specDegreeOf_ev k0 u v) ?_)
  refine ev_ite (fun h1 => ev_ite (fun h2 => ev_ite (fun h3 => ?_) (fun h3 => ?_)) (fun h2 => ?_)) (fun h1 => ?_)
  · rw [show (degreeM k0 r s == 5) = true by simpa using h1, show (degreeM k0 u v == 1) = true by simpa using h2, show (s == 1) = true by simpa using h3]; exact specCad_j0 _ _ r s true
  · rw [show (degreeM k0 r s == 5) = true by simpa using h1, show (degreeM k0 u v == 1) = true by simpa using h2, show (s == 1) = false by simpa using h3]; exact specCad_j0 _ _ r s (s == 5)
  · rw [show (degreeM k0 r s == 5) = true by simpa using h1, show (degreeM k0 u v == 1) = false by simpa using h2]; exact specCad_j0 _ _ r s false
  · rw [show (degreeM k0 r s == 5) = false by simpa using h1]; exact specCad_j0 _ _ r s false
theorem implCad_j2 (a b : Int) (x : Bool) : Ev (fun k => impl_CadenceOf.j2 k a b x) (cad2 a b x) := by
  refine ev_tail ?_
  simp only [impl_CadenceOf.j2, cad2]
  refine ev_ite (fun h => ?_) (fun h => ev_ite (fun h1 => ev_ite (fun h2 => ?_) (fun h2 => ?_)) (fun h1 => ?_))
  · rw [if_pos h]; exact Ev.now _
  · rw [if_neg h, if_pos ⟨h1, h2⟩]; exact Ev.now _
  · rw [if_neg h, if_neg (fun z => h2 z.2)]; exact Ev.now _
  · rw [if_neg h, if_neg (fun z => h1 z.1)]; exact Ev.now _
theorem implCad_j1 (a b r s : Int) (x : Bool) : Ev (fun k => impl_CadenceOf.j1 k a b x r s) (cad1 a b r s x) := by
  refine ev_tail ?_
  simp only [impl_CadenceOf.j1, cad1, implIsChord_eq, Option.bind_some]
  refine ev_ite (fun h => ?_) (fun h => ev_ite (fun h1 => ?_) (fun h1 => ?_))
  · rw [if_pos h]; exact Ev.now _
  · rw [if_neg h, h1, Bool.true_and]; exact implCad_j2 a b (b == 5)
  · rw [if_neg h, Bool.eq_false_iff.mpr h1, Bool.false_and]; exact implCad_j2 a b false
theorem implCad_j0 (a b r s : Int) (x : Bool) : Ev (fun k => impl_CadenceOf.j0 k a b x r s) (cad0 a b r s x) := by
  refine ev_tail ?_
  simp only [impl_CadenceOf.j0, cad0]
  refine ev_ite (fun h => ?_) (fun h => ev_ite (fun h1 => ?_) (fun h1 => ?_))
  · rw [if_pos h]; exact Ev.now _
  · rw [if_neg h, show (a == 4) = true by simpa using h1, Bool.true_and]; exact implCad_j1 a b r s (b == 1)
  · rw [if_neg h, show (a == 4) = false by simpa using h1, Bool.false_and]; exact implCad_j1 a b r s false
theorem implCadenceOf_ev (k0 r s u v : Int) : Ev (fun k => impl_CadenceOf.f k k0 r s u v) (cadM (degreeM k0 r s) (degreeM k0 u v) r s) := by
  simp only [impl_CadenceOf.f, cadM]
  refine Ev.bind (implDegreeOf_ev k0 r s) (Ev.bind (implDegreeOf_ev k0 u v) ?_)
  refine ev_ite (fun h1 => ev_ite (fun h2 => ev_ite (fun h3 => ?_) (fun h3 => ?_)) (fun h2 => ?_)) (fun h1 => ?_)
  · rw [show (degreeM k0 r s == 5) = true by simpa using h1, show (degreeM k0 u v == 1) = true by simpa using h2, show (s == 1) = true by simpa using h3]; exact implCad_j0 _ _ r s true
  · rw [show (degreeM k0 r s == 5) = true by simpa using h1, show (degreeM k0 u v == 1) = true by simpa using h2, show (s == 1) = false by simpa using h3]; exact implCad_j0 _ _ r s (s == 5)
  · rw [show (degreeM k0 r s == 5) = true by simpa using h1, show (degreeM k0 u v == 1) = false by simpa using h2]; exact implCad_j0 _ _ r s false
  · rw [show (degreeM k0 r s == 5) = false by simpa using h1]; exact implCad_j0 _ _ r s false

theorem FnExactCadenceOf : ∀ (a0 : Int) (a1_0 : Int) (a1_1 : Int) (a2_0 : Int) (a2_1 : Int), (Lit.int .i64 a0).wf = true → (Lit.int .i64 a1_0).wf = true → (Lit.int .i64 a1_1).wf = true → (Lit.int .i64 a2_0).wf = true → (Lit.int .i64 a2_1).wf = true → ∃ k, laws_FnExactCadenceOf.f k a0 a1_0 a1_1 a2_0 a2_1 = some true := by
  intro k r s u v _ _ _ _ _
  refine Ev.rounds ?_
  simp only [laws_FnExactCadenceOf.f, laws_toChord.f, Option.bind_some]
  exact Ev.bind (specCadenceOf_ev k r s u v) (Ev.bind (implCadenceOf_ev k r s u v) (ev_pos (by trivial) (Ev.now _)))
end Go.Proofs.Ytoigficcabmoeaa.Pure
