/- Plain lemmas of this session: what the printed functions answer. -/
import Derived.Test.YtacokiggjjjbbaaDoorTx0
import Derived.Test.YtacokiggjjjbbaaDoorTx1
import Derived.Test.YtacokiggjjjbbaaDoorTx2
import Derived.Test.YtacokiggjjjbbaaDoorTx3
import Derived.Test.YtacokiggjjjbbaaDoorTx4
import Derived.Test.YtacokiggjjjbbaaDoorTx5
import Derived.Test.YtacokiggjjjbbaaDoorTx6
import Derived.Test.YtacokiggjjjbbaaDoorHw
import Derived.Test.YtacokiggjjjbbaaDoorTel1
namespace Go.Proofs.YtacokiggjjjbbaaDoor.T
open Go.RowKit Go.Proofs.YtacokiggjjjbbaaDoorW.PrintWords Go.Proofs.YtacokiggjjjbbaaDoorW.PrintLast Go.Proofs.YtacokiggjjjbbaaDoorW.PrintMore
set_option linter.unusedVariables false
set_option linter.unusedSimpArgs false
/-! The reference's guards on clues are the program's. -/
theorem in_eq (a b c : Int) : impl_within.f a b c = spec_l1In.f a b c := rfl
theorem isClue_eq (fl k a v : Int) : impl_IsClue.f fl k a v = if 1 ≤ fl ∧ fl ≤ 40 then spec_pzClue.f fl k a v else some false := by
  unfold impl_IsClue.f
  rw [hidden_some, Option.bind_some]
  by_cases h : 1 ≤ fl ∧ fl ≤ 40
  · rw [if_pos h, if_pos (by simp [h])]
    unfold spec_pzClue.f impl_isEggs.f spec_flEggs.f impl_isBreak.f
    simp only [in_eq, Option.bind_some, Option.bind_fun_some]
  · rw [if_neg h, if_neg (by simp; omega)]
theorem pzClue_some (fl k a v : Int) : spec_pzClue.f fl k a v = some ((spec_pzClue.f fl k a v).getD false) := by
  have h : ∃ r, spec_pzClue.f fl k a v = some r := by
    unfold spec_pzClue.f spec_flEggs.f
    simp only [l1In_some, Option.bind_some]
    repeat (first | exact ⟨_, rfl⟩ | split)
  obtain ⟨r, h⟩ := h
  rw [h]; rfl
end Go.Proofs.YtacokiggjjjbbaaDoor.T
