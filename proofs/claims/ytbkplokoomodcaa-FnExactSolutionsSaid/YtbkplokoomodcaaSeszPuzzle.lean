/- Plain lemmas of this session: what the printed functions answer. -/
import Derived.Test.YtbkplokoomodcaaSx0
import Derived.Test.YtbkplokoomodcaaSx1
import Derived.Test.YtbkplokoomodcaaSx2
import Derived.Test.YtbkplokoomodcaaSx3
import Derived.Test.YtbkplokoomodcaaSx4
import Derived.Test.YtbkplokoomodcaaSx5
import Derived.Test.YtbkplokoomodcaaSx6
import Derived.Test.YtbkplokoomodcaaSx7
import Derived.Test.YtbkplokoomodcaaSx8
import Derived.Test.YtbkplokoomodcaaHw
import Derived.Test.YtbkplokoomodcaaSereach
import Derived.Test.YtbkplokoomodcaaSeclue
import Derived.Test.YtbkplokoomodcaaSesols
namespace Go.Proofs.Ytbkplokoomodcaa.S
open Go.RowKit Go.Proofs.YtbkplokoomodcaaW.PrintWords Go.Proofs.YtbkplokoomodcaaW.PrintLast Go.Proofs.YtbkplokoomodcaaW.PrintMore
set_option linter.unusedVariables false
set_option linter.unusedSimpArgs false
/-! How much room a puzzle takes. -/
theorem szPuzzle_big (a : Int) (l : List S23) (hl : l.length ≤ 9223372036854775807) (h : 1000000 < l.length) : laws_szPuzzle.f a l 1000000 = some (-1) := by
  unfold laws_szPuzzle.f laws_szClueS.f
  rw [Hw.wrap_id (by omega) (by omega), if_pos (by omega)]
  rfl
theorem szPuzzle_small (a : Int) (l : List S23) (h : l.length ≤ 1000000) : laws_szPuzzle.f a l 1000000 = some (1000000 - (l.length : Int)) := by
  unfold laws_szPuzzle.f laws_szClueS.f
  rw [Hw.wrap_id (by omega) (by omega), if_neg (by omega)]
  exact if_neg (by omega)
end Go.Proofs.Ytbkplokoomodcaa.S
