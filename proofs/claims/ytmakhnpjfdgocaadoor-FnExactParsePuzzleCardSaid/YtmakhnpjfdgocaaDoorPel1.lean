/- Plain lemmas of this session: what the printed functions answer. -/
import Derived.Test.YtmakhnpjfdgocaaDoorPx0
import Derived.Test.YtmakhnpjfdgocaaDoorPx1
import Derived.Test.YtmakhnpjfdgocaaDoorPx2
import Derived.Test.YtmakhnpjfdgocaaDoorPx3
import Derived.Test.YtmakhnpjfdgocaaDoorPx4
import Derived.Test.YtmakhnpjfdgocaaDoorPx5
import Derived.Test.YtmakhnpjfdgocaaDoorPx6
import Derived.Test.YtmakhnpjfdgocaaDoorPx7
import Derived.Test.YtmakhnpjfdgocaaDoorPx8
import Derived.Test.YtmakhnpjfdgocaaDoorHw
namespace Go.Proofs.YtmakhnpjfdgocaaDoor.P
open Go.RowKit Go.Proofs.YtmakhnpjfdgocaaDoorW.PrintWords Go.Proofs.YtmakhnpjfdgocaaDoorW.PrintLast Go.Proofs.YtmakhnpjfdgocaaDoorW.PrintMore
set_option linter.unusedVariables false
set_option linter.unusedSimpArgs false
/-! The reference's small tests. -/
theorem l1In_some (x y z : Int) : spec_l1In.f x y z = some (decide (y ≤ x) && decide (x ≤ z)) := by
  unfold spec_l1In.f
  by_cases h : y ≤ x <;> simp [h]
theorem pzFloors_some (a : Int) : spec_pzFloors.f a = some (decide (1 ≤ a) && decide (a ≤ 40)) := by
  unfold spec_pzFloors.f; rw [l1In_some]; rfl
end Go.Proofs.YtmakhnpjfdgocaaDoor.P
