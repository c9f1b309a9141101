/- Plain lemmas of this session: what the printed functions answer. -/
import Derived.Test.YtgolncpnephdcaaPx0
import Derived.Test.YtgolncpnephdcaaPx1
import Derived.Test.YtgolncpnephdcaaPx2
import Derived.Test.YtgolncpnephdcaaPx3
import Derived.Test.YtgolncpnephdcaaPx4
import Derived.Test.YtgolncpnephdcaaPx5
import Derived.Test.YtgolncpnephdcaaHw
namespace Go.Proofs.Ytgolncpnephdcaa.P
open Go.RowKit Go.Proofs.YtgolncpnephdcaaW.PrintWords Go.Proofs.YtgolncpnephdcaaW.PrintLast Go.Proofs.YtgolncpnephdcaaW.PrintMore
set_option linter.unusedVariables false
set_option linter.unusedSimpArgs false
/-! The reference's small test. -/
theorem l1In_some (x y z : Int) : spec_l1In.f x y z = some (decide (y ≤ x) && decide (x ≤ z)) := by
  unfold spec_l1In.f
  by_cases h : y ≤ x <;> simp [h]
end Go.Proofs.Ytgolncpnephdcaa.P
