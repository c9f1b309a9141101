/- Plain lemmas of this session: what the printed functions answer. -/
import Derived.Test.YtbkplokoomodcaaA2x0
import Derived.Test.YtbkplokoomodcaaA2x1
import Derived.Test.YtbkplokoomodcaaA2x2
import Derived.Test.YtbkplokoomodcaaA2x3
import Derived.Test.YtbkplokoomodcaaA2x4
import Derived.Test.YtbkplokoomodcaaA2x5
import Derived.Test.YtbkplokoomodcaaA2x6
import Derived.Test.YtbkplokoomodcaaA2x7
import Derived.Test.YtbkplokoomodcaaHw
namespace Go.Proofs.Ytbkplokoomodcaa.A2
open Go.RowKit Go.Proofs.YtbkplokoomodcaaW.PrintWords Go.Proofs.YtbkplokoomodcaaW.PrintLast Go.Proofs.YtbkplokoomodcaaW.PrintMore
set_option linter.unusedVariables false
set_option linter.unusedSimpArgs false
/-! The reference's small tests. -/
theorem l1In_some (x y z : Int) : spec_l1In.f x y z = some (decide (y ≤ x) && decide (x ≤ z)) := by
  unfold spec_l1In.f
  by_cases h : y ≤ x <;> simp [h]
theorem pzFloors_some (a : Int) : spec_pzFloors.f a = some (decide (1 ≤ a) && decide (a ≤ 40)) := by
  unfold spec_pzFloors.f; rw [l1In_some]; rfl
end Go.Proofs.Ytbkplokoomodcaa.A2
