/- Plain lemmas of this session: what the printed functions answer. -/
import Derived.Test.YtgolncpnephdcaaDx0
import Derived.Test.YtgolncpnephdcaaDx1
import Derived.Test.YtgolncpnephdcaaDx2
import Derived.Test.YtgolncpnephdcaaDx3
import Derived.Test.YtgolncpnephdcaaDx4
import Derived.Test.YtgolncpnephdcaaDx5
import Derived.Test.YtgolncpnephdcaaHw
import Derived.Test.YtgolncpnephdcaaDel1i
namespace Go.Proofs.Ytgolncpnephdcaa.D
open Go.RowKit Go.Proofs.YtgolncpnephdcaaW.PrintWords Go.Proofs.YtgolncpnephdcaaW.PrintLast Go.Proofs.YtgolncpnephdcaaW.PrintMore
set_option linter.unusedVariables false
set_option linter.unusedSimpArgs false
/-! How large a desk is. -/
theorem szDesk_big (a b c : Int) (l : List S86) (hl : l.length ≤ 9223372036854775807) (h : 1000000 < l.length) : laws_szDesk.f a b c l 1000000 = some (-1) := by
  unfold laws_szDesk.f laws_szDropS.f
  rw [Hw.wrap_id (by omega) (by omega), if_pos (by omega)]
  rfl
theorem szDesk_small (a b c : Int) (l : List S86) (h : l.length ≤ 1000000) : laws_szDesk.f a b c l 1000000 = some (1000000 - (l.length : Int)) := by
  unfold laws_szDesk.f laws_szDropS.f
  rw [Hw.wrap_id (by omega) (by omega), if_neg (by omega)]
  exact if_neg (by omega)
end Go.Proofs.Ytgolncpnephdcaa.D
