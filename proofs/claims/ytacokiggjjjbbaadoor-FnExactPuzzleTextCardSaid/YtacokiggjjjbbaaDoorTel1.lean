/- Plain lemmas of this session: what the printed functions answer. -/
import Derived.Test.YtacokiggjjjbbaaDoorTx0
import Derived.Test.YtacokiggjjjbbaaDoorTx1
import Derived.Test.YtacokiggjjjbbaaDoorTx2
import Derived.Test.YtacokiggjjjbbaaDoorTx3
import Derived.Test.YtacokiggjjjbbaaDoorTx4
import Derived.Test.YtacokiggjjjbbaaDoorTx5
import Derived.Test.YtacokiggjjjbbaaDoorTx6
import Derived.Test.YtacokiggjjjbbaaDoorHw
namespace Go.Proofs.YtacokiggjjjbbaaDoor.T
open Go.RowKit Go.Proofs.YtacokiggjjjbbaaDoorW.PrintWords Go.Proofs.YtacokiggjjjbbaaDoorW.PrintLast Go.Proofs.YtacokiggjjjbbaaDoorW.PrintMore
set_option linter.unusedVariables false
set_option linter.unusedSimpArgs false
/-! The reference's small tests. -/
theorem l1In_some (x y z : Int) : spec_l1In.f x y z = some (decide (y ≤ x) && decide (x ≤ z)) := by
  unfold spec_l1In.f
  by_cases h : y ≤ x <;> simp [h]
theorem pzFloors_some (a : Int) : spec_pzFloors.f a = some (decide (1 ≤ a) && decide (a ≤ 40)) := by
  unfold spec_pzFloors.f; rw [l1In_some]; rfl
end Go.Proofs.YtacokiggjjjbbaaDoor.T
