/-
MoveChord of the program and of the reference: the same answer.
Conditions: none.
-/
import Derived.Test.YtdnhgdniaacghaaPFnExactMoveChordx1
import Derived.Test.YtdnhgdniaacghaaBase
namespace Go.Proofs.Ytdnhgdniaacghaa.Pure
open Go.RowKit Go.Proofs.Ytdnhgdniaacghaa.PFnExactMoveChord Go.Proofs.YtdnhgdniaacghaaW.PrintWords Go.Proofs.YtdnhgdniaacghaaW.PrintLast Go.Proofs.YtdnhgdniaacghaaW.PrintMore Go.Proofs.Ytdnhgdniaacghaa.Base
set_option linter.unusedVariables false
set_option linter.unusedSimpArgs false

theorem l1In_eq (a b c : Int) : spec_l1In.f a b c = some (decide (b ≤ a ∧ a ≤ c)) := by
  unfold spec_l1In.f
  by_cases h1 : b ≤ a <;> by_cases h2 : a ≤ c <;> simp [h1, h2]
theorem InRange_eq (a b c : Int) : impl_InRange.f a b c = some (decide (b ≤ a ∧ a ≤ c)) := by
  unfold impl_InRange.f
  by_cases h1 : b ≤ a <;> by_cases h2 : a ≤ c <;> simp [h1, h2]

def chordOK (a b : Int) : Bool := decide (0 ≤ a ∧ a ≤ 11 ∧ 1 ≤ b ∧ b ≤ 5)
theorem specIsChord_eq (a b : Int) : spec_IsChord.f a b = some (chordOK a b) := by
  simp only [spec_IsChord.f, l1In_eq, Option.bind_some, chordOK]
  by_cases h1 : 0 ≤ a <;> by_cases h2 : a ≤ 11 <;> by_cases h3 : 1 ≤ b <;> by_cases h4 : b ≤ 5 <;> simp [h1, h2, h3, h4]
theorem implIsChord_eq (a b : Int) : impl_IsChord.f a b = some (chordOK a b) := by
  simp only [impl_IsChord.f, InRange_eq, Option.bind_some, chordOK]
  by_cases h1 : 0 ≤ a <;> by_cases h2 : a ≤ 11 <;> by_cases h3 : 1 ≤ b <;> by_cases h4 : b ≤ 5 <;> simp [h1, h2, h3, h4]

def modM (p q : Int) : Int := if 1 ≤ q ∧ q ≤ 1000000000000 then Int.tmod (wrap64 (Int.tmod p q + q)) q else 0
theorem specMod_eq (p q : Int) : spec_Mod.f p q = some (modM p q) := by
  simp only [spec_Mod.f, l1In_eq, Option.bind_some, modM]
  by_cases h : 1 ≤ q ∧ q ≤ 1000000000000
  · rw [if_pos (by simpa using h), if_neg (by omega), if_pos h]
  · rw [if_neg (by simpa using h), if_neg h]
theorem implMod_eq (p q : Int) : impl_Mod.f p q = some (modM p q) := by
  simp only [impl_Mod.f, InRange_eq, Option.bind_some, modM]
  by_cases h : 1 ≤ q ∧ q ≤ 1000000000000
  · rw [if_pos (by simpa using h), if_neg (by omega), if_pos h]
  · rw [if_neg (by simpa using h), if_neg h]

def moveM (a b h : Int) : Int × Int × Bool := if chordOK a b = true ∧ -100 ≤ h ∧ h ≤ 100 then (modM (wrap64 (a + h)) 12, b, true) else (0, 0, false)
theorem specMoveChord_eq (a b h : Int) : spec_MoveChord.f a b h = some (moveM a b h) := by
  simp only [spec_MoveChord.f, specIsChord_eq, l1In_eq, specMod_eq, Option.bind_some, moveM]
  by_cases h1 : chordOK a b = true <;> by_cases h2 : -100 ≤ h ∧ h ≤ 100 <;> simp [h1, h2]
theorem implMoveChord_eq (a b h : Int) : impl_MoveChord.f a b h = some (moveM a b h) := by
  simp only [impl_MoveChord.f, implIsChord_eq, InRange_eq, implMod_eq, Option.bind_some, moveM]
  by_cases h1 : chordOK a b = true <;> by_cases h2 : -100 ≤ h ∧ h ≤ 100 <;> simp [h1, h2]

theorem FnExactMoveChord : ∀ (a0_0 : Int) (a0_1 : Int) (a1 : Int), (Lit.int .i64 a0_0).wf = true → (Lit.int .i64 a0_1).wf = true → (Lit.int .i64 a1).wf = true → laws_FnExactMoveChord.f a0_0 a0_1 a1 = some true := by
  intro a b h _ _ _
  simp [laws_FnExactMoveChord.f, laws_toChord.f, specMoveChord_eq, implMoveChord_eq, laws_eqChord.f]
end Go.Proofs.Ytdnhgdniaacghaa.Pure
