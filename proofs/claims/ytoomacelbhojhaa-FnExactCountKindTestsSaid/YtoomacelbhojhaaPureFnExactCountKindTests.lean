/- The law FnExactCountKindTests: for every argument the call returns true. No condition beside what a machine's values are. -/
import Derived.Test.YtoomacelbhojhaaHw
import Derived.Test.YtoomacelbhojhaaPemKindTest
namespace Go.Proofs.Ytoomacelbhojhaa.Pure
open Go.RowKit Go.Proofs.Ytoomacelbhojhaa Go.Proofs.Ytoomacelbhojhaa.P Go.Proofs.YtoomacelbhojhaaW.PrintWords Go.Proofs.YtoomacelbhojhaaW.PrintLast Go.Proofs.YtoomacelbhojhaaW.PrintMore
set_option linter.unusedVariables false
set_option linter.unusedSimpArgs false

theorem FnExactCountKindTests : laws_FnExactCountKindTests.Pure := by
  intro a0 a1 a2 a3 a4 _ _ _ _ _
  obtain ⟨L, b, hL, hb⟩ : ∃ L b, spec_PlayKinds.f a0 a1 a2 a3 a4 = some (L, b) ∧ (b = false → L = []) := by
    unfold spec_PlayKinds.f
    split
    · exact ⟨_, _, rfl, fun h => by cases h⟩
    · exact ⟨_, _, rfl, fun _ => rfl⟩
  have hI : impl_PlayKinds.f a0 a1 a2 a3 a4 = some (L, b) := hL
  unfold laws_FnExactCountKindTests.f spec_CountKindTests.f impl_CountKindTests.f
  rw [hL, hI]
  cases b with
  | true => simp
  | false => rw [hb rfl]; simp

end Go.Proofs.Ytoomacelbhojhaa.Pure
