/-
ChordText of the program and of the reference: the same answer.
Conditions: none.
-/
import Derived.Test.YtdnhgdniaacghaaPFnExactChordTextx2
import Derived.Test.YtdnhgdniaacghaaBase
namespace Go.Proofs.Ytdnhgdniaacghaa.Pure
open Go.RowKit Go.Proofs.Ytdnhgdniaacghaa.PFnExactChordText Go.Proofs.YtdnhgdniaacghaaW.PrintWords Go.Proofs.YtdnhgdniaacghaaW.PrintLast Go.Proofs.YtdnhgdniaacghaaW.PrintMore Go.Proofs.Ytdnhgdniaacghaa.Base
set_option linter.unusedVariables false
set_option linter.unusedSimpArgs false

theorem l1In_eq (a b c : Int) : spec_l1In.f a b c = some (decide (b ≤ a ∧ a ≤ c)) := by
  unfold spec_l1In.f
  by_cases h1 : b ≤ a <;> by_cases h2 : a ≤ c <;> simp [h1, h2]
theorem InRange_eq (a b c : Int) : impl_InRange.f a b c = some (decide (b ≤ a ∧ a ≤ c)) := by
  unfold impl_InRange.f
  by_cases h1 : b ≤ a <;> by_cases h2 : a ≤ c <;> simp [h1, h2]

def chordOK (a b : Int) : Bool := decide (0 ≤ a ∧ a ≤ 11 ∧ 1 ≤ b ∧ b ≤ 5)
theorem specIsChord_eq (a b : Int) : spec_IsChord.f a b = some (chordOK a b) := by
  simp only [spec_IsChord.f, l1In_eq, Option.bind_some, chordOK]
  by_cases h1 : 0 ≤ a <;> by_cases h2 : a ≤ 11 <;> by_cases h3 : 1 ≤ b <;> by_cases h4 : b ≤ 5 <;> simp [h1, h2, h3, h4]
theorem implIsChord_eq (a b : Int) : impl_IsChord.f a b = some (chordOK a b) := by
  simp only [impl_IsChord.f, InRange_eq, Option.bind_some, chordOK]
  by_cases h1 : 0 ≤ a <;> by_cases h2 : a ≤ 11 <;> by_cases h3 : 1 ≤ b <;> by_cases h4 : b ≤ 5 <;> simp [h1, h2, h3, h4]

theorem i12 {a : Int} (h0 : 0 ≤ a) (h1 : a ≤ 11) : a = 0 ∨ a = 1 ∨ a = 2 ∨ a = 3 ∨ a = 4 ∨ a = 5 ∨ a = 6 ∨ a = 7 ∨ a = 8 ∨ a = 9 ∨ a = 10 ∨ a = 11 := by omega
theorem i5 {a : Int} (h0 : 1 ≤ a) (h1 : a ≤ 5) : a = 1 ∨ a = 2 ∨ a = 3 ∨ a = 4 ∨ a = 5 := by omega
def textRoot : List ByteArray := [⟨#[99]⟩, ⟨#[99, 35]⟩, ⟨#[100]⟩, ⟨#[100, 35]⟩, ⟨#[101]⟩, ⟨#[102]⟩, ⟨#[102, 35]⟩, ⟨#[103]⟩, ⟨#[103, 35]⟩, ⟨#[97]⟩, ⟨#[97, 35]⟩, ⟨#[98]⟩]
def textKind : List ByteArray := [⟨#[]⟩, ⟨#[109]⟩, ⟨#[111]⟩, ⟨#[43]⟩, ⟨#[55]⟩]
def textM (a b : Int) : ByteArray := if chordOK a b = true then rdOf ByteArray.empty textRoot a ++ rdOf ByteArray.empty textKind (b - 1) else ⟨#[]⟩
theorem textSize {a b : Int} (h : chordOK a b = true) : (rdOf ByteArray.empty textRoot a).size + (rdOf ByteArray.empty textKind (b - 1)).size ≤ 9223372036854775807 := by
  simp only [chordOK, decide_eq_true_eq] at h
  have ha : (rdOf ByteArray.empty textRoot a).size ≤ 2 := by
    rcases i12 h.1 h.2.1 with rfl | rfl | rfl | rfl | rfl | rfl | rfl | rfl | rfl | rfl | rfl | rfl <;> decide
  have hb : (rdOf ByteArray.empty textKind (b - 1)).size ≤ 1 := by
    rcases i5 h.2.2.1 h.2.2.2 with rfl | rfl | rfl | rfl | rfl <;> decide
  omega
theorem specChordText_eq (a b : Int) : spec_ChordText.f a b = some (textM a b) := by
  simp only [spec_ChordText.f, specIsChord_eq, Option.bind_some, textM]
  by_cases h : chordOK a b = true
  · have hs := textSize h
    have h' := h
    simp only [chordOK, decide_eq_true_eq] at h'
    have hw : wrap64 (b - 1) = b - 1 := wrap_id (by omega) (by omega)
    rw [if_pos h, if_pos (by omega), if_pos (by simp; omega), hw, if_pos (by omega), if_pos (by simp; omega)]
    refine Eq.trans (if_pos hs) ?_
    rw [if_pos h]
    rfl
  · rw [if_neg h, if_neg h]
theorem implChordText_eq (a b : Int) : impl_ChordText.f a b = some (textM a b) := by
  simp only [impl_ChordText.f, implIsChord_eq, Option.bind_some, textM]
  by_cases h : chordOK a b = true
  · have hs := textSize h
    have h' := h
    simp only [chordOK, decide_eq_true_eq] at h'
    have hw : wrap64 (b - 1) = b - 1 := wrap_id (by omega) (by omega)
    rw [if_pos h, if_pos (by omega), if_pos (by simp; omega), hw, if_pos (by omega), if_pos (by simp; omega)]
    refine Eq.trans (if_pos hs) ?_
    rw [if_pos h]
    rfl
  · rw [if_neg h, if_neg h]

theorem FnExactChordText : ∀ (a0_0 : Int) (a0_1 : Int), (Lit.int .i64 a0_0).wf = true → (Lit.int .i64 a0_1).wf = true → laws_FnExactChordText.f a0_0 a0_1 = some true := by
  intro a b _ _
  simp [laws_FnExactChordText.f, laws_toChord.f, specChordText_eq, implChordText_eq]
end Go.Proofs.Ytdnhgdniaacghaa.Pure
