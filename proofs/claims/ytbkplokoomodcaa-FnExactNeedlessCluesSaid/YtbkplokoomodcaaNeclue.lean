/- Plain lemmas of this session: what the printed functions answer. -/
import Derived.Test.YtbkplokoomodcaaNx0
import Derived.Test.YtbkplokoomodcaaNx1
import Derived.Test.YtbkplokoomodcaaNx2
import Derived.Test.YtbkplokoomodcaaNx3
import Derived.Test.YtbkplokoomodcaaNx4
import Derived.Test.YtbkplokoomodcaaNx5
import Derived.Test.YtbkplokoomodcaaNx6
import Derived.Test.YtbkplokoomodcaaNx7
import Derived.Test.YtbkplokoomodcaaNx8
import Derived.Test.YtbkplokoomodcaaNx9
import Derived.Test.YtbkplokoomodcaaHw
import Derived.Test.YtbkplokoomodcaaNereach
namespace Go.Proofs.Ytbkplokoomodcaa.N
open Go.RowKit Go.Proofs.YtbkplokoomodcaaW.PrintWords Go.Proofs.YtbkplokoomodcaaW.PrintLast Go.Proofs.YtbkplokoomodcaaW.PrintMore
set_option linter.unusedVariables false
set_option linter.unusedSimpArgs false
/-! The reference's guards on clues are the program's. -/
theorem in_eq (a b c : Int) : impl_within.f a b c = spec_l1In.f a b c := rfl
theorem l1In_some (x y z : Int) : spec_l1In.f x y z = some (decide (y ≤ x) && decide (x ≤ z)) := by
  unfold spec_l1In.f
  by_cases h : y ≤ x <;> simp [h]
theorem pzFloors_some (a : Int) : spec_pzFloors.f a = some (decide (1 ≤ a) && decide (a ≤ 40)) := by
  unfold spec_pzFloors.f; rw [l1In_some]; rfl
theorem isClue_eq (fl k a v : Int) : impl_IsClue.f fl k a v = if 1 ≤ fl ∧ fl ≤ 40 then spec_pzClue.f fl k a v else some false := by
  unfold impl_IsClue.f
  rw [hidden_some, Option.bind_some]
  by_cases h : 1 ≤ fl ∧ fl ≤ 40
  · rw [if_pos h, if_pos (by simp [h])]
    unfold spec_pzClue.f impl_isEggs.f spec_flEggs.f impl_isBreak.f
    simp only [in_eq, Option.bind_some, Option.bind_fun_some]
  · rw [if_neg h, if_neg (by simp; omega)]
theorem pzClue_some (fl k a v : Int) : spec_pzClue.f fl k a v = some ((spec_pzClue.f fl k a v).getD false) := by
  have h : ∃ r, spec_pzClue.f fl k a v = some r := by
    unfold spec_pzClue.f spec_flEggs.f
    simp only [l1In_some, Option.bind_some]
    repeat (first | exact ⟨_, rfl⟩ | split)
  obtain ⟨r, h⟩ := h
  rw [h]; rfl
end Go.Proofs.Ytbkplokoomodcaa.N
