/- The law FnExactIsClue over plain numbers: the program's IsClue and the reference's answer alike. No condition beside what a machine's values are. -/
import Derived.Test.YtbkplokoomodcaaQx2
namespace Go.Proofs.Ytbkplokoomodcaa.Pure
open Go.RowKit Go.Proofs.Ytbkplokoomodcaa.Q Go.Proofs.YtbkplokoomodcaaW.PrintWords Go.Proofs.YtbkplokoomodcaaW.PrintLast Go.Proofs.YtbkplokoomodcaaW.PrintMore
set_option linter.unusedVariables false
set_option linter.unusedSimpArgs false

theorem in_eq (a b c : Int) : impl_within.f a b c = spec_l1In.f a b c := rfl
theorem clue_eq (a0 a1_0 a1_1 a1_2 : Int) : impl_IsClue.f a0 a1_0 a1_1 a1_2 = spec_IsClue.f a0 a1_0 a1_1 a1_2 := by
  unfold impl_IsClue.f spec_IsClue.f spec_pzClue.f impl_isHiddenHouse.f spec_pzFloors.f impl_isEggs.f spec_flEggs.f impl_isBreak.f
  simp only [in_eq, Option.bind_some, Option.bind_fun_some]
theorem clue_some (a0 a1_0 a1_1 a1_2 : Int) : ∃ r, spec_IsClue.f a0 a1_0 a1_1 a1_2 = some r := by
  unfold spec_IsClue.f spec_pzClue.f spec_pzFloors.f spec_flEggs.f spec_l1In.f
  repeat (first | exact ⟨_, rfl⟩ | split | simp only [Option.bind_some])

theorem FnExactIsClue : ∀ (a0 : Int) (a1_0 : Int) (a1_1 : Int) (a1_2 : Int), (Lit.int .i64 a0).wf = true → (Lit.int .i64 a1_0).wf = true → (Lit.int .i64 a1_1).wf = true → (Lit.int .i64 a1_2).wf = true → laws_FnExactIsClue.f a0 a1_0 a1_1 a1_2 = some true := by
  intro a b c d _ _ _ _
  obtain ⟨r, hr⟩ := clue_some a b c d
  unfold laws_FnExactIsClue.f laws_toClue.f
  simp only [Option.bind_some, clue_eq, hr]
  simp

end Go.Proofs.Ytbkplokoomodcaa.Pure
