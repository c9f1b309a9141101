/- Plain lemmas of this session: what the printed functions answer. -/
import Derived.Test.YtmakhnpjfdgocaaDoorPx0
import Derived.Test.YtmakhnpjfdgocaaDoorPx1
import Derived.Test.YtmakhnpjfdgocaaDoorPx2
import Derived.Test.YtmakhnpjfdgocaaDoorPx3
import Derived.Test.YtmakhnpjfdgocaaDoorPx4
import Derived.Test.YtmakhnpjfdgocaaDoorPx5
import Derived.Test.YtmakhnpjfdgocaaDoorPx6
import Derived.Test.YtmakhnpjfdgocaaDoorPx7
import Derived.Test.YtmakhnpjfdgocaaDoorPx8
import Derived.Test.YtmakhnpjfdgocaaDoorHw
import Derived.Test.YtmakhnpjfdgocaaDoorPel1
namespace Go.Proofs.YtmakhnpjfdgocaaDoor.P
open Go.RowKit Go.Proofs.YtmakhnpjfdgocaaDoorW.PrintWords Go.Proofs.YtmakhnpjfdgocaaDoorW.PrintLast Go.Proofs.YtmakhnpjfdgocaaDoorW.PrintMore
set_option linter.unusedVariables false
set_option linter.unusedSimpArgs false
/-! The reference's guards on clues are the program's. -/
theorem in_eq (a b c : Int) : impl_within.f a b c = spec_l1In.f a b c := rfl
theorem isClue_eq (fl k a v : Int) : impl_IsClue.f fl k a v = if 1 ≤ fl ∧ fl ≤ 40 then spec_pzClue.f fl k a v else some false := by
  unfold impl_IsClue.f
  rw [hidden_some, Option.bind_some]
  by_cases h : 1 ≤ fl ∧ fl ≤ 40
  · rw [if_pos h, if_pos (by simp [h])]
    unfold spec_pzClue.f impl_isEggs.f spec_flEggs.f impl_isBreak.f
    simp only [in_eq, Option.bind_some, Option.bind_fun_some]
  · rw [if_neg h, if_neg (by simp; omega)]
theorem pzClue_some (fl k a v : Int) : spec_pzClue.f fl k a v = some ((spec_pzClue.f fl k a v).getD false) := by
  have h : ∃ r, spec_pzClue.f fl k a v = some r := by
    unfold spec_pzClue.f spec_flEggs.f
    simp only [l1In_some, Option.bind_some]
    repeat (first | exact ⟨_, rfl⟩ | split)
  obtain ⟨r, h⟩ := h
  rw [h]; rfl
end Go.Proofs.YtmakhnpjfdgocaaDoor.P
