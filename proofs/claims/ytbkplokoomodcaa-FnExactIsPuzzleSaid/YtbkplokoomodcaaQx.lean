/- Plain Lean functions with the answers of Go functions, and proofs of it: printed by a program of this session (pr.py) over the kit's print, with hand-written parts. -/
import Derived.Test.YtbkplokoomodcaaQx0
import Derived.Test.YtbkplokoomodcaaQx1
import Derived.Test.YtbkplokoomodcaaQx2
import Derived.Test.YtbkplokoomodcaaQx3
import Derived.Test.YtbkplokoomodcaaQx4
namespace Go.Proofs.Ytbkplokoomodcaa.Q
open Go.RowKit Go.Proofs.YtbkplokoomodcaaW.PrintWords Go.Proofs.YtbkplokoomodcaaW.PrintLast Go.Proofs.YtbkplokoomodcaaW.PrintMore
attribute [local go_sem] max2_int min2_int max_two min_two max_three min_three max_four min_four   -- for this text's walks alone
set_option linter.unusedVariables false
set_option linter.unusedSimpArgs false

end Go.Proofs.Ytbkplokoomodcaa.Q
