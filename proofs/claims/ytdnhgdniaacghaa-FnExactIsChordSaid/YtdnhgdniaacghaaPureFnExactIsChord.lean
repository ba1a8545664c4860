/-
IsChord of the program and of the reference: the same answer.
Conditions: none.
-/
import Derived.Test.YtdnhgdniaacghaaPFnExactIsChordx1
import Derived.Test.YtdnhgdniaacghaaBase
namespace Go.Proofs.Ytdnhgdniaacghaa.Pure
open Go.RowKit Go.Proofs.Ytdnhgdniaacghaa.PFnExactIsChord Go.Proofs.YtdnhgdniaacghaaW.PrintWords Go.Proofs.YtdnhgdniaacghaaW.PrintLast Go.Proofs.Ytdnhgdniaacghaa.Base
theorem FnExactIsChord : ∀ (a0_0 : Int) (a0_1 : Int), (Lit.int .i64 a0_0).wf = true → (Lit.int .i64 a0_1).wf = true → laws_FnExactIsChord.f a0_0 a0_1 = some true := by
  intro a b _ _
  simp only [laws_FnExactIsChord.f, laws_toChord.f, spec_IsChord.f, impl_IsChord.f, spec_l1In.f, impl_InRange.f, Option.bind_some, ge_iff_le]
  by_cases h1 : 0 ≤ a <;> by_cases h2 : a ≤ 11 <;> by_cases h3 : 1 ≤ b <;> by_cases h4 : b ≤ 5 <;> simp [h1, h2, h3, h4]
end Go.Proofs.Ytdnhgdniaacghaa.Pure
