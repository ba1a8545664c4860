/-
PhrasesOf of the program and of the reference: the same answer.
Conditions: none.
-/
import Derived.Test.YtnaoogkklkhpnaaPFnExactPhrasesOfx8
import Derived.Test.YtnaoogkklkhpnaaBase
namespace Go.Proofs.Ytnaoogkklkhpnaa.Pure
open Go.RowKit Go.Proofs.Ytnaoogkklkhpnaa.PFnExactPhrasesOf Go.Proofs.YtnaoogkklkhpnaaW.PrintWords Go.Proofs.YtnaoogkklkhpnaaW.PrintLast Go.Proofs.YtnaoogkklkhpnaaW.PrintMore Go.Proofs.Ytnaoogkklkhpnaa.Base
set_option linter.unusedVariables false
set_option linter.unusedSimpArgs false

theorem l1In_eq (a b c : Int) : spec_l1In.f a b c = some (decide (b ≤ a ∧ a ≤ c)) := by
  unfold spec_l1In.f
  by_cases h1 : b ≤ a <;> by_cases h2 : a ≤ c <;> simp [h1, h2]
theorem InRange_eq (a b c : Int) : impl_InRange.f a b c = some (decide (b ≤ a ∧ a ≤ c)) := by
  unfold impl_InRange.f
  by_cases h1 : b ≤ a <;> by_cases h2 : a ≤ c <;> simp [h1, h2]

def chordOK (a b : Int) : Bool := decide (0 ≤ a ∧ a ≤ 11 ∧ 1 ≤ b ∧ b ≤ 5)
theorem specIsChord_eq (a b : Int) : spec_IsChord.f a b = some (chordOK a b) := by
  simp only [spec_IsChord.f, l1In_eq, Option.bind_some, chordOK]
  by_cases h1 : 0 ≤ a <;> by_cases h2 : a ≤ 11 <;> by_cases h3 : 1 ≤ b <;> by_cases h4 : b ≤ 5 <;> simp [h1, h2, h3, h4]
theorem implIsChord_eq (a b : Int) : impl_IsChord.f a b = some (chordOK a b) := by
  simp only [impl_IsChord.f, InRange_eq, Option.bind_some, chordOK]
  by_cases h1 : 0 ≤ a <;> by_cases h2 : a ≤ 11 <;> by_cases h3 : 1 ≤ b <;> by_cases h4 : b ≤ 5 <;> simp [h1, h2, h3, h4]

def modM (p q : Int) : Int := if 1 ≤ q ∧ q ≤ 1000000000000 then Int.tmod (wrap64 (Int.tmod p q + q)) q else 0
theorem specMod_eq (p q : Int) : spec_Mod.f p q = some (modM p q) := by
  simp only [spec_Mod.f, l1In_eq, Option.bind_some, modM]
  by_cases h : 1 ≤ q ∧ q ≤ 1000000000000
  · rw [if_pos (by simpa using h), if_neg (by omega), if_pos h]
  · rw [if_neg (by simpa using h), if_neg h]
theorem implMod_eq (p q : Int) : impl_Mod.f p q = some (modM p q) := by
  simp only [impl_Mod.f, InRange_eq, Option.bind_some, modM]
  by_cases h : 1 ≤ q ∧ q ≤ 1000000000000
  · rw [if_pos (by simpa using h), if_neg (by omega), if_pos h]
  · rw [if_neg (by simpa using h), if_neg h]

def keyOK (k : Int) : Bool := decide (-7 ≤ k ∧ k ≤ 7)
theorem specIsKey_eq (k : Int) : spec_IsKey.f k = some (keyOK k) := by
  simp only [spec_IsKey.f, l1In_eq, Option.bind_some, keyOK]
theorem implIsKey_eq (k : Int) : impl_IsKey.f k = some (keyOK k) := by
  simp only [impl_IsKey.f, InRange_eq, Option.bind_some, keyOK]
def tonicM (k : Int) : Int := if keyOK k = true then modM (wrap64 (7 * k)) 12 else -1
theorem specTonicOf_eq (k : Int) : spec_TonicOf.f k = some (tonicM k) := by
  simp only [spec_TonicOf.f, specIsKey_eq, specMod_eq, Option.bind_some, tonicM]
  by_cases h : keyOK k = true <;> simp [h]
theorem implTonicOf_eq (k : Int) : impl_TonicOf.f k = some (tonicM k) := by
  simp only [impl_TonicOf.f, implIsKey_eq, implMod_eq, Option.bind_some, tonicM]
  by_cases h : keyOK k = true <;> simp [h]

/-- Where x stands first in a list, counted from i; -1: nowhere. -/
def idxI : List Int → Int → Int → Int
  | [], _, _ => -1
  | y :: t, x, i => if x = y then i else idxI t x (i + 1)
theorem idxI_bd (l : List Int) (x : Int) : ∀ i, 0 ≤ i → -1 ≤ idxI l x i ∧ idxI l x i < i + l.length + 1 := by
  induction l with
  | nil => intro i h; simp [idxI]; omega
  | cons y t ih =>
    intro i h
    simp only [idxI]
    split
    · simp; omega
    · have := ih (i + 1) (by omega)
      simp only [List.length_cons]
      omega
theorem Index_l0 (x : Int) (suf : List Int) : ∀ pre : List Int, (pre ++ suf).length ≤ 35184372088832 → Ev (fun k => slices_Index_int_int.l0 k (pre ++ suf) x ((pre ++ suf).length : Int) (pre.length : Int)) (idxI suf x (pre.length : Int)) := by
  induction suf with
  | nil =>
    intro pre h
    refine ev_tail ?_
    simp only [slices_Index_int_int.l0]
    exact ev_neg (by simp) (Ev.now _)
  | cons y t ih =>
    intro pre h
    have e := ih (pre ++ [y]) (by simpa using h)
    simp only [List.length_append, List.length_cons] at h
    refine ev_tail ?_
    simp only [slices_Index_int_int.l0, idxI]
    refine ev_pos (by simp; omega) (ev_pos (by omega) (ev_pos (by simp; omega) ?_))
    rw [rd_mid]
    by_cases hy : x = y
    · rw [if_pos hy]
      exact ev_pos hy (Ev.now _)
    · rw [if_neg hy]
      refine ev_neg hy ?_
      rw [wrap_succ (by omega), snoc_cons pre y t, ← length_snoc pre y]
      simpa using e
theorem Index_ev (l : List Int) (x : Int) (h : l.length ≤ 35184372088832) : Ev (fun k => slices_Index_int_int.f k l x) (idxI l x 0) := by
  simp only [slices_Index_int_int.f]
  exact Index_l0 x l [] (by simpa using h)

def scaleM : List Int := [0, 2, 4, 5, 7, 9, 11]
def degreeM (k a b : Int) : Int := if keyOK k = true ∧ chordOK a b = true then idxI scaleM (modM (wrap64 (a - tonicM k)) 12) 0 + 1 else 0
theorem specDegree_l0 (k0 a b : Int) (suf : List Int) : ∀ pre : List Int, scaleM = pre ++ suf → Ev (fun k => spec_DegreeOf.l0 k k0 scaleM (pre.length : Int) a b) (idxI suf (modM (wrap64 (a - tonicM k0)) 12) (pre.length : Int) + 1) := by
  induction suf with
  | nil =>
    intro pre h
    have hl : pre.length = 7 := by have := congrArg List.length h; simpa [scaleM] using this.symm
    refine ev_tail ?_
    simp only [spec_DegreeOf.l0]
    exact ev_neg (by omega) (Ev.now _)
  | cons y t ih =>
    intro pre h
    have e := ih (pre ++ [y]) (by simpa using h)
    have hl : pre.length + (t.length + 1) = 7 := by have := congrArg List.length h; simpa [scaleM] using this.symm
    refine ev_tail ?_
    simp only [spec_DegreeOf.l0, specTonicOf_eq, specMod_eq, Option.bind_some, idxI]
    refine ev_pos (by omega) (ev_pos (by omega) (ev_pos (by simp [scaleM]; omega) ?_))
    have hr : rd scaleM (pre.length : Int) = y := by rw [h, rd_mid]
    rw [hr, wrap_succ (by omega)]
    by_cases hy : modM (wrap64 (a - tonicM k0)) 12 = y
    · rw [if_pos hy]
      exact ev_pos hy.symm (Ev.now _)
    · rw [if_neg hy]
      refine ev_neg (fun h => hy h.symm) ?_
      rw [← length_snoc pre y]
      simpa using e
theorem specDegreeOf_ev (k0 a b : Int) : Ev (fun k => spec_DegreeOf.f k k0 a b) (degreeM k0 a b) := by
  simp only [spec_DegreeOf.f, specIsKey_eq, specIsChord_eq, Option.bind_some, degreeM]
  by_cases hk : keyOK k0 = true
  · refine ev_pos hk (ev_tail ?_)
    simp only [spec_DegreeOf.j0]
    by_cases hc : chordOK a b = true
    · rw [if_pos ⟨hk, hc⟩]
      refine ev_neg (by simp [hc]) ?_
      exact specDegree_l0 k0 a b scaleM [] rfl
    · rw [if_neg (fun h => hc h.2)]
      exact ev_pos (by simpa using hc) (Ev.now _)
  · rw [if_neg (fun h => hk h.1)]
    refine ev_neg hk (ev_tail ?_)
    simp only [spec_DegreeOf.j0]
    exact ev_pos (by trivial) (Ev.now _)
theorem implDegreeOf_ev (k0 a b : Int) : Ev (fun k => impl_DegreeOf.f k k0 a b) (degreeM k0 a b) := by
  simp only [impl_DegreeOf.f, implIsKey_eq, implIsChord_eq, Option.bind_some, degreeM]
  by_cases hk : keyOK k0 = true
  · refine ev_pos hk (ev_tail ?_)
    simp only [impl_DegreeOf.j0, implTonicOf_eq, implMod_eq, Option.bind_some, impl_scale.f]
    by_cases hc : chordOK a b = true
    · rw [if_pos ⟨hk, hc⟩]
      refine ev_neg (by simp [hc]) ?_
      have hb := idxI_bd scaleM (modM (wrap64 (a - tonicM k0)) 12) 0 (by omega)
      have hl : scaleM.length = 7 := rfl
      refine Ev.bind (Index_ev scaleM _ (by simp [scaleM])) ?_
      rw [wrap_id (by omega) (by omega)]
      exact Ev.now _
    · rw [if_neg (fun h => hc h.2)]
      exact ev_pos (by simpa using hc) (Ev.now _)
  · rw [if_neg (fun h => hk h.1)]
    refine ev_neg hk (ev_tail ?_)
    simp only [impl_DegreeOf.j0]
    exact ev_pos (by trivial) (Ev.now _)

def cad2 (a b : Int) (x : Bool) : ByteArray := if x = true then ⟨#[104, 97, 108, 102]⟩ else if a = 5 ∧ b = 6 then ⟨#[98, 114, 111, 107, 101, 110]⟩ else ⟨#[]⟩
def cad1 (a b r s : Int) (x : Bool) : ByteArray := if x = true then ⟨#[112, 108, 97, 103, 97, 108]⟩ else cad2 a b (chordOK r s && (b == 5))
def cad0 (a b r s : Int) (x : Bool) : ByteArray := if x = true then ⟨#[102, 117, 108, 108]⟩ else cad1 a b r s ((a == 4) && (b == 1))
def cadM (a b r s : Int) : ByteArray := cad0 a b r s ((a == 5) && (b == 1) && ((s == 1) || (s == 5)))
theorem specCad_j2 (a b : Int) (x : Bool) : Ev (fun k => spec_CadenceOf.j2 k a b x) (cad2 a b x) := by
  refine ev_tail ?_
  simp only [spec_CadenceOf.j2, cad2]
  refine ev_ite (fun h => ?_) (fun h => ev_ite (fun h1 => ev_ite (fun h2 => ?_) (fun h2 => ?_)) (fun h1 => ?_))
  · rw [if_pos h]; exact Ev.now _
  · rw [if_neg h, if_pos ⟨h1, h2⟩]; exact Ev.now _
  · rw [if_neg h, if_neg (fun z => h2 z.2)]; exact Ev.now _
  · rw [if_neg h, if_neg (fun z => h1 z.1)]; exact Ev.now _
theorem specCad_j1 (a b r s : Int) (x : Bool) : Ev (fun k => spec_CadenceOf.j1 k a b x r s) (cad1 a b r s x) := by
  refine ev_tail ?_
  simp only [spec_CadenceOf.j1, cad1, specIsChord_eq, Option.bind_some]
  refine ev_ite (fun h => ?_) (fun h => ev_ite (fun h1 => ?_) (fun h1 => ?_))
  · rw [if_pos h]; exact Ev.now _
  · rw [if_neg h, h1, Bool.true_and]; exact specCad_j2 a b (b == 5)
  · rw [if_neg h, Bool.eq_false_iff.mpr h1, Bool.false_and]; exact specCad_j2 a b false
theorem specCad_j0 (a b r s : Int) (x : Bool) : Ev (fun k => spec_CadenceOf.j0 k a b x r s) (cad0 a b r s x) := by
  refine ev_tail ?_
  simp only [spec_CadenceOf.j0, cad0]
  refine ev_ite (fun h => ?_) (fun h => ev_ite (fun h1 => ?_) (fun h1 => ?_))
  · rw [if_pos h]; exact Ev.now _
  · rw [if_neg h, show (a == 4) = true by simpa using h1, Bool.true_and]; exact specCad_j1 a b r s (b == 1)
  · rw [if_neg h, show (a == 4) = false by simpa using h1, Bool.false_and]; exact specCad_j1 a b r s false
theorem specCadenceOf_ev (k0 r s u v : Int) : Ev (fun k => spec_CadenceOf.f k k0 r s u v) (cadM (degreeM k0 r s) (degreeM k0 u v) r s) := by
  simp only [spec_CadenceOf.f, cadM]
  refine Ev.bind (specDegreeOf_ev k0 r s) (Ev.bind (specDegreeOf_ev k0 u v) ?_)
  refine ev_ite (fun h1 => ev_ite (fun h2 => ev_ite (fun h3 => ?_) (fun h3 => ?_)) (fun h2 => ?_)) (fun h1 => ?_)
  · rw [show (degreeM k0 r s == 5) = true by simpa using h1, show (degreeM k0 u v == 1) = true by simpa using h2, show (s == 1) = true by simpa using h3]; exact specCad_j0 _ _ r s true
  · rw [show (degreeM k0 r s == 5) = true by simpa using h1, show (degreeM k0 u v == 1) = true by simpa using h2, show (s == 1) = false by simpa using h3]; exact specCad_j0 _ _ r s (s == 5)
  · rw [show (degreeM k0 r s == 5) = true by simpa using h1, show (degreeM k0 u v == 1) = false by simpa using h2]; exact specCad_j0 _ _ r s false
  · rw [show (degreeM k0 r s == 5) = false by simpa using h1]; exact specCad_j0 _ _ r s false
theorem implCad_j2 (a b : Int) (x : Bool) : Ev (fun k => impl_CadenceOf.j2 k a b x) (cad2 a b x) := by
  refine ev_tail ?_
  simp only [impl_CadenceOf.j2, cad2]
  refine ev_ite (fun h => ?_) (fun h => ev_ite (fun h1 => ev_ite (fun h2 => ?_) (fun h2 => ?_)) (fun h1 => ?_))
  · rw [if_pos h]; exact Ev.now _
  · rw [if_neg h, if_pos ⟨h1, h2⟩]; exact Ev.now _
  · rw [if_neg h, if_neg (fun z => h2 z.2)]; exact Ev.now _
  · rw [if_neg h, if_neg (fun z => h1 z.1)]; exact Ev.now _
theorem implCad_j1 (a b r s : Int) (x : Bool) : Ev (fun k => impl_CadenceOf.j1 k a b x r s) (cad1 a b r s x) := by
  refine ev_tail ?_
  simp only [impl_CadenceOf.j1, cad1, implIsChord_eq, Option.bind_some]
  refine ev_ite (fun h => ?_) (fun h => ev_ite (fun h1 => ?_) (fun h1 => ?_))
  · rw [if_pos h]; exact Ev.now _
  · rw [if_neg h, h1, Bool.true_and]; exact implCad_j2 a b (b == 5)
  · rw [if_neg h, Bool.eq_false_iff.mpr h1, Bool.false_and]; exact implCad_j2 a b false
theorem implCad_j0 (a b r s : Int) (x : Bool) : Ev (fun k => impl_CadenceOf.j0 k a b x r s) (cad0 a b r s x) := by
  refine ev_tail ?_
  simp only [impl_CadenceOf.j0, cad0]
  refine ev_ite (fun h => ?_) (fun h => ev_ite (fun h1 => ?_) (fun h1 => ?_))
  · rw [if_pos h]; exact Ev.now _
  · rw [if_neg h, show (a == 4) = true by simpa using h1, Bool.true_and]; exact implCad_j1 a b r s (b == 1)
  · rw [if_neg h, show (a == 4) = false by simpa using h1, Bool.false_and]; exact implCad_j1 a b r s false
theorem implCadenceOf_ev (k0 r s u v : Int) : Ev (fun k => impl_CadenceOf.f k k0 r s u v) (cadM (degreeM k0 r s) (degreeM k0 u v) r s) := by
  simp only [impl_CadenceOf.f, cadM]
  refine Ev.bind (implDegreeOf_ev k0 r s) (Ev.bind (implDegreeOf_ev k0 u v) ?_)
  refine ev_ite (fun h1 => ev_ite (fun h2 => ev_ite (fun h3 => ?_) (fun h3 => ?_)) (fun h2 => ?_)) (fun h1 => ?_)
  · rw [show (degreeM k0 r s == 5) = true by simpa using h1, show (degreeM k0 u v == 1) = true by simpa using h2, show (s == 1) = true by simpa using h3]; exact implCad_j0 _ _ r s true
  · rw [show (degreeM k0 r s == 5) = true by simpa using h1, show (degreeM k0 u v == 1) = true by simpa using h2, show (s == 1) = false by simpa using h3]; exact implCad_j0 _ _ r s (s == 5)
  · rw [show (degreeM k0 r s == 5) = true by simpa using h1, show (degreeM k0 u v == 1) = false by simpa using h2]; exact implCad_j0 _ _ r s false
  · rw [show (degreeM k0 r s == 5) = false by simpa using h1]; exact implCad_j0 _ _ r s false

theorem eqIntS_l0 (suf : List Int) : ∀ pre : List Int, (pre ++ suf).length ≤ 35184372088832 → Ev (fun k => laws_eqIntS.l0 k (pre ++ suf) (pre ++ suf) (pre.length : Int)) true := by
  induction suf with
  | nil =>
    intro pre h
    refine ev_tail ?_
    simp only [laws_eqIntS.l0]
    exact ev_neg (by simp) (Ev.now true)
  | cons x t ih =>
    intro pre h
    have e := ih (pre ++ [x]) (by simpa using h)
    simp only [List.length_append, List.length_cons] at h
    refine ev_tail ?_
    simp only [laws_eqIntS.l0]
    refine ev_pos (by simp; omega) (ev_pos (by omega) (ev_pos (by simp; omega) (ev_pos (by trivial) ?_)))
    rw [wrap_succ (by omega), snoc_cons pre x t, ← length_snoc pre x]
    exact e
theorem eqIntS_ev (l : List Int) (h : l.length ≤ 35184372088832) : Ev (fun k => laws_eqIntS.f k l l) true := by
  simp only [laws_eqIntS.f]
  refine ev_pos (by trivial) ?_
  exact eqIntS_l0 l [] (by simpa using h)

theorem markIntS_l0 (suf : List Int) : ∀ (pre : List Int) (m : Int), (pre ++ suf).length ≤ 35184372088832 → 0 ≤ m → m + suf.length ≤ 9223372036854775807 → Ev (fun k => laws_markIntS.l0 k (pre ++ suf) m (pre.length : Int)) (m + suf.length, pre ++ marks suf.length m) := by
  induction suf with
  | nil =>
    intro pre m h h0 h1
    refine ev_tail ?_
    simp only [laws_markIntS.l0]
    refine ev_neg (by simp) ?_
    simpa [marks] using Ev.now _
  | cons y t ih =>
    intro pre m h h0 h1
    simp only [List.length_cons] at h1
    have e := ih (pre ++ [m]) (m + 1) (by simpa using h) (by omega) (by omega)
    simp only [List.length_append, List.length_cons] at h
    refine ev_tail ?_
    simp only [laws_markIntS.l0]
    refine ev_pos (by simp; omega) (ev_pos (by omega) ?_)
    rw [set_mid, wrap_succ (by omega), wrap_id (n := m + 1) (by omega) (by omega), snoc_cons pre m t, ← length_snoc pre m]
    refine ev_eq e ?_
    simp only [marks, List.length_cons, List.append_assoc, List.singleton_append]
    congr 1
    omega
theorem markIntS_ev (l : List Int) (m : Int) (h : l.length ≤ 35184372088832) (h0 : 0 ≤ m) (h1 : m + l.length ≤ 9223372036854775807) : Ev (fun k => laws_markIntS.f k l m) (m + l.length, marks l.length m) := by
  simp only [laws_markIntS.f]
  exact markIntS_l0 l [] m (by simpa using h) h0 h1

theorem heldIntS_l0 (n : Nat) : ∀ (pre : List Int) (m : Int), pre.length + n ≤ 35184372088832 → 0 ≤ m → m + n ≤ 9223372036854775807 → Ev (fun k => laws_heldIntS.l0 k (pre ++ marks n m) m (pre.length : Int)) (m + n) := by
  induction n with
  | zero =>
    intro pre m h h0 h1
    refine ev_tail ?_
    simp only [laws_heldIntS.l0]
    refine ev_neg (by simp [marks]) ?_
    simpa using Ev.now m
  | succ n ih =>
    intro pre m h h0 h1
    have e := ih (pre ++ [m]) (m + 1) (by simp; omega) (by omega) (by omega)
    refine ev_tail ?_
    simp only [laws_heldIntS.l0, marks]
    refine ev_pos (by simp [marks_length]; omega) (ev_pos (by omega) (ev_pos (rd_mid pre m _) ?_))
    rw [wrap_succ (by omega), wrap_id (n := m + 1) (by omega) (by omega), snoc_cons pre m (marks n (m + 1)), ← length_snoc pre m]
    exact ev_eq e (by omega)
theorem heldIntS_ev (n : Nat) (m : Int) (h : n ≤ 35184372088832) (h0 : 0 ≤ m) (h1 : m + n ≤ 9223372036854775807) : Ev (fun k => laws_heldIntS.f k (marks n m) m) (m + n) := by
  simp only [laws_heldIntS.f]
  exact heldIntS_l0 n [] m (by simpa using h) h0 h1

def cvChord (x : S126) : S124 := ⟨x.f0, x.f1⟩
theorem rdLChord (pre : List S126) (x : S126) (t : List S126) : rd_T126 (pre ++ x :: t) ((pre.length : Nat) : Int) = x := getD_mid pre x t z126
theorem rdIChord (pre : List S124) (x : S124) (t : List S124) : rd_T124 (pre ++ x :: t) ((pre.length : Nat) : Int) = x := getD_mid pre x t z124
theorem toChordS_l0 (suf : List S126) : ∀ pre : List S126, (pre ++ suf).length ≤ 1048576 → Ev (fun k => laws_toChordS.l0 k (pre ++ suf) (pre.map cvChord ++ List.replicate suf.length z124) (pre.length : Int)) ((pre ++ suf).map cvChord) := by
  induction suf with
  | nil =>
    intro pre h
    refine ev_tail ?_
    simp only [laws_toChordS.l0]
    refine ev_neg (by simp) ?_
    exact ev_eq (Ev.now _) (by simp)
  | cons x t ih =>
    intro pre h
    have e := ih (pre ++ [x]) (by simpa using h)
    simp only [List.length_append, List.length_cons] at h
    refine ev_tail ?_
    simp only [laws_toChordS.l0, laws_toChord.f, Option.bind_some]
    refine ev_pos (by simp; omega) (ev_pos (by omega) (ev_pos (by simp; omega) ?_))
    rw [rdLChord, List.length_cons, List.replicate_succ]
    have e1 : (pre.map cvChord ++ z124 :: List.replicate t.length z124).set ((pre.length : Nat) : Int).toNat (⟨x.f0, x.f1⟩ : S124) = (pre ++ [x]).map cvChord ++ List.replicate t.length z124 := by
      simp [cvChord]
    rw [e1, wrap_succ (by omega), snoc_cons pre x t, ← length_snoc pre x]
    exact e
theorem toChordS_ev (l : List S126) (h : l.length ≤ 1048576) : Ev (fun k => laws_toChordS.f k l) (l.map cvChord) := by
  simp only [laws_toChordS.f]
  refine ev_pos (by omega) (ev_pos (by omega) ?_)
  exact toChordS_l0 l [] (by simpa using h)

theorem eqChordS_l0 (suf : List S124) : ∀ pre : List S124, (pre ++ suf).length ≤ 1048576 → Ev (fun k => laws_eqChordS.l0 k (pre ++ suf) (pre ++ suf) (pre.length : Int)) true := by
  induction suf with
  | nil =>
    intro pre h
    refine ev_tail ?_
    simp only [laws_eqChordS.l0]
    exact ev_neg (by simp) (Ev.now true)
  | cons x t ih =>
    intro pre h
    have e := ih (pre ++ [x]) (by simpa using h)
    simp only [List.length_append, List.length_cons] at h
    refine ev_tail ?_
    simp only [laws_eqChordS.l0, laws_eqChord.f, if_true, Option.bind_some]
    refine ev_pos (by simp; omega) (ev_pos (by omega) (ev_pos (by simp; omega) ?_))
    rw [wrap_succ (by omega), snoc_cons pre x t, ← length_snoc pre x]
    exact e
theorem eqChordS_ev (l : List S124) (h : l.length ≤ 1048576) : Ev (fun k => laws_eqChordS.f k l l) true := by
  simp only [laws_eqChordS.f]
  refine ev_pos (by trivial) ?_
  exact eqChordS_l0 l [] (by simpa using h)

def marksChord : Nat → Int → List S124
  | 0, _ => []
  | n + 1, m => ⟨m, m + 1⟩ :: marksChord n (m + 1 + 1)
theorem marksChord_length (n : Nat) : ∀ m, (marksChord n m).length = n := by
  induction n with
  | zero => intro m; rfl
  | succ n ih => intro m; simp [marksChord, ih]
theorem markChordS_l0 (suf : List S124) : ∀ (pre : List S124) (m : Int), (pre ++ suf).length ≤ 8388608 → 0 ≤ m → m ≤ 1099511627776 - 2 * suf.length → Ev (fun k => laws_markChordS.l0 k (pre ++ suf) m (pre.length : Int)) (m + 2 * suf.length, pre ++ marksChord suf.length m) := by
  induction suf with
  | nil =>
    intro pre m h h0 h1
    refine ev_tail ?_
    simp only [laws_markChordS.l0]
    refine ev_neg (by simp) (ev_eq (Ev.now _) (by simp [marksChord]))
  | cons y t ih =>
    intro pre m h h0 h1
    simp only [List.length_cons] at h1
    have e := ih (pre ++ [⟨m, m + 1⟩]) (m + 1 + 1) (by simpa using h) (by omega) (by omega)
    simp only [List.length_append, List.length_cons] at h
    refine ev_tail ?_
    simp only [laws_markChordS.l0, Option.bind_some, set_mid, rdIChord]
    refine ev_pos (by simp; omega) (ev_pos (by omega) ?_)
    rw [wrap_id (n := m + 1) (by omega) (by omega), wrap_id (n := m + 1 + 1) (by omega) (by omega), wrap_succ (by omega), snoc_cons pre _ t, ← length_snoc pre (⟨m, m + 1⟩ : S124)]
    refine ev_eq e ?_
    simp only [marksChord, List.length_cons, List.append_assoc, List.singleton_append]
    congr 1
    omega
theorem markChordS_ev (l : List S124) (m : Int) (h : l.length ≤ 8388608) (h0 : 0 ≤ m) (h1 : m ≤ 1099511627776 - 2 * l.length) : Ev (fun k => laws_markChordS.f k l m) (m + 2 * l.length, marksChord l.length m) := by
  simp only [laws_markChordS.f]
  exact markChordS_l0 l [] m (by simpa using h) h0 h1

theorem szChordS_some (l : List S126) (h : l.length ≤ maxLen) : ∃ r, laws_szChordS.f l 1048576 = some r ∧ (¬ r < 0 → l.length ≤ 1048576) := by
  have hm : maxLen = 9223372036854775807 := rfl
  unfold laws_szChordS.f
  rw [wrap_id (by omega) (by omega)]
  by_cases h0 : (1048576 : Int) - (l.length : Int) < 0
  · exact ⟨-1, by rw [if_pos h0], fun h => absurd (by omega) h⟩
  · exact ⟨_, by rw [if_neg h0], fun _ => by omega⟩

def isPh (s : ByteArray) : Bool := decide (s.toList = ([102, 117, 108, 108] : List UInt8) ∨ s.toList = ([112, 108, 97, 103, 97, 108] : List UInt8))
def phG (k0 : Int) (l : List S124) (i : Int) : Option Int :=
  if isPh (cadM (degreeM k0 (rd_T124 l (i - 1)).f0 (rd_T124 l (i - 1)).f1) (degreeM k0 (rd_T124 l i).f0 (rd_T124 l i).f1) (rd_T124 l (i - 1)).f0 (rd_T124 l (i - 1)).f1) = true then some i else none
def phrasesM (k0 : Int) (l : List S124) : List Int := colM (phG k0 l) (l.length - 1) 1
theorem specPhrasesOf_ev (k0 : Int) (l : List S124) (h : l.length ≤ 1048576) : Ev (fun k => spec_PhrasesOf.f k k0 l) (phrasesM k0 l) := by
  simp only [spec_PhrasesOf.f]
  by_cases h0 : l.length = 0
  · refine ev_tail ?_
    simp only [spec_PhrasesOf.l0, phrasesM, h0, colM]
    exact ev_neg (by omega) (Ev.now _)
  · refine ev_col (L := fun k out i => spec_PhrasesOf.l0 k k0 l out i) (g := phG k0 l) (fin := id) (n := l.length) (s := 1) (fun i out h1 h2 ho r e => ?_) (fun out => ?_) (l.length - 1) 1 [] (by omega) (by omega) (by simp)
    · have w1 : Aside0 (wrap64 ((i : Int) + 1) = (i : Int) + 1) := ⟨wrap_id (by omega) (by omega)⟩
      have w2 : Aside0 (wrap64 ((i : Int) - 1) = (i : Int) - 1) := ⟨wrap_id (by omega) (by omega)⟩
      refine ev_tail ?_
      simp only [spec_PhrasesOf.l0, w1.out, w2.out]
      refine ev_pos (by omega) (ev_pos (by omega) (ev_pos (by omega) (ev_pos (by omega) (Ev.bind (specCadenceOf_ev _ _ _ _ _) ?_))))
      unfold phG isPh at e
      refine ev_ite (fun c1 => ev_pos (by omega) ?_) (fun c1 => ev_ite (fun c2 => ev_pos (by omega) ?_) (fun c2 => ?_))
      · simpa [c1] using e
      · simpa [c2] using e
      · simpa [c1, c2] using e
    · refine ev_tail ?_
      simp only [spec_PhrasesOf.l0]
      exact ev_neg (by omega) (Ev.now _)
theorem implPhrasesOf_ev (k0 : Int) (l : List S124) (h : l.length ≤ 1048576) : Ev (fun k => impl_PhrasesOf.f k k0 l) (phrasesM k0 l) := by
  simp only [impl_PhrasesOf.f]
  by_cases h0 : l.length = 0
  · refine ev_tail ?_
    simp only [impl_PhrasesOf.l0, phrasesM, h0, colM]
    exact ev_neg (by omega) (Ev.now _)
  · refine ev_col (L := fun k out i => impl_PhrasesOf.l0 k k0 l out i) (g := phG k0 l) (fin := id) (n := l.length) (s := 1) (fun i out h1 h2 ho r e => ?_) (fun out => ?_) (l.length - 1) 1 [] (by omega) (by omega) (by simp)
    · have w1 : Aside0 (wrap64 ((i : Int) + 1) = (i : Int) + 1) := ⟨wrap_id (by omega) (by omega)⟩
      have w2 : Aside0 (wrap64 ((i : Int) - 1) = (i : Int) - 1) := ⟨wrap_id (by omega) (by omega)⟩
      refine ev_tail ?_
      simp only [impl_PhrasesOf.l0, w1.out, w2.out]
      refine ev_pos (by omega) (ev_pos (by omega) (ev_pos (by omega) (ev_pos (by omega) (Ev.bind (implCadenceOf_ev _ _ _ _ _) ?_))))
      unfold phG isPh at e
      refine ev_ite (fun c1 => ev_pos (by omega) ?_) (fun c1 => ev_ite (fun c2 => ev_pos (by omega) ?_) (fun c2 => ?_))
      · simpa [c1] using e
      · simpa [c2] using e
      · simpa [c1, c2] using e
    · refine ev_tail ?_
      simp only [impl_PhrasesOf.l0]
      exact ev_neg (by omega) (Ev.now _)
theorem colM_len {α : Type} (g : Int → Option α) (d : Nat) : ∀ i, (colM g d i).length ≤ d := by
  induction d with
  | zero => intro i; simp [colM]
  | succ d ih =>
    intro i
    have h1 := ih (i + 1)
    have h2 := toList_le (g (i : Int))
    simp only [colM, List.length_append]
    omega

theorem FnExactPhrasesOf : ∀ (a0 : Int) (l1 : List (S126)), (Lit.int .i64 a0).wf = true → (l1.length ≤ maxLen) → (∀ x ∈ l1, ((Lit.int .i64 x.f0).wf = true) ∧ ((Lit.int .i64 x.f1).wf = true)) → ∃ k, laws_FnExactPhrasesOf.f k a0 l1 = some true := by
  intro k0 l _ hl _
  refine Ev.rounds ?_
  simp only [laws_FnExactPhrasesOf.f]
  obtain ⟨r, hr, hb⟩ := szChordS_some l hl
  refine ev_val hr (ev_ite (fun _ => Ev.now _) (fun h => ?_))
  have hn := hb h
  have hm : (l.map cvChord).length ≤ 1048576 := by rw [List.length_map]; exact hn
  have ho : (phrasesM k0 (l.map cvChord)).length ≤ 1048576 := by
    have := colM_len (phG k0 (l.map cvChord)) ((l.map cvChord).length - 1) 1
    unfold phrasesM
    omega
  have t1 := toChordS_ev l hn
  have e1 := eqIntS_ev (phrasesM k0 (l.map cvChord)) (by omega)
  have i1 := implPhrasesOf_ev k0 _ hm
  have m1 := markIntS_ev (phrasesM k0 (l.map cvChord)) 1 (by omega) (by omega) (by omega)
  have d1 := heldIntS_ev (phrasesM k0 (l.map cvChord)).length 1 (by omega) (by omega) (by omega)
  refine Ev.bind t1 (Ev.bind (specPhrasesOf_ev k0 _ hm) (Ev.bind t1 (Ev.bind i1 (Ev.bind e1 (ev_pos (by trivial) ?_)))))
  refine Ev.bind t1 (Ev.bind (eqChordS_ev _ hm) (ev_pos (by trivial) ?_))
  refine Ev.bind (markChordS_ev _ 1 (by omega) (by omega) (by omega)) (ev_neg (by simp; omega) (Ev.bind e1 (ev_tail ?_)))
  simp only [laws_FnExactPhrasesOf.j0]
  refine ev_neg (by simp) (Ev.bind m1 (Ev.bind d1 (ev_neg (by omega) (ev_pos (by trivial) ?_))))
  exact Ev.bind t1 (Ev.bind i1 (Ev.bind e1 (ev_pos (by trivial) (Ev.bind d1 (ev_neg (by omega) (ev_pos (by trivial) (Ev.now _)))))))
end Go.Proofs.Ytnaoogkklkhpnaa.Pure
