/- The law FnExactFirstDesk: for every argument the call returns true. No condition beside what a machine's values are. -/
import Derived.Test.YtgolncpnephdcaaHw
import Derived.Test.YtgolncpnephdcaaFx2
namespace Go.Proofs.Ytgolncpnephdcaa.Pure
open Go.RowKit Go.Proofs.Ytgolncpnephdcaa Go.Proofs.Ytgolncpnephdcaa.F Go.Proofs.YtgolncpnephdcaaW.PrintWords Go.Proofs.YtgolncpnephdcaaW.PrintLast Go.Proofs.YtgolncpnephdcaaW.PrintMore
set_option linter.unusedVariables false
set_option linter.unusedSimpArgs false

theorem FnExactFirstDesk : laws_FnExactFirstDesk.Pure := ⟨5, rfl⟩

end Go.Proofs.Ytgolncpnephdcaa.Pure
