/- Plain lemmas of this session: what the printed functions answer. -/
import Derived.Test.YtbkplokoomodcaaA2x0
import Derived.Test.YtbkplokoomodcaaA2x1
import Derived.Test.YtbkplokoomodcaaA2x2
import Derived.Test.YtbkplokoomodcaaA2x3
import Derived.Test.YtbkplokoomodcaaA2x4
import Derived.Test.YtbkplokoomodcaaA2x5
import Derived.Test.YtbkplokoomodcaaA2x6
import Derived.Test.YtbkplokoomodcaaA2x7
import Derived.Test.YtbkplokoomodcaaHw
import Derived.Test.YtbkplokoomodcaaA2el1
import Derived.Test.YtbkplokoomodcaaA2eclue
import Derived.Test.YtbkplokoomodcaaA2egood
namespace Go.Proofs.Ytbkplokoomodcaa.A2
open Go.RowKit Go.Proofs.YtbkplokoomodcaaW.PrintWords Go.Proofs.YtbkplokoomodcaaW.PrintLast Go.Proofs.YtbkplokoomodcaaW.PrintMore
set_option linter.unusedVariables false
set_option linter.unusedSimpArgs false
/-! How much room a puzzle takes. -/
theorem szPuzzle_big (a : Int) (l : List S23) (hl : l.length ≤ 9223372036854775807) (h : 1000000 < l.length) : laws_szPuzzle.f a l 1000000 = some (-1) := by
  unfold laws_szPuzzle.f laws_szClueS.f
  rw [Hw.wrap_id (by omega) (by omega), if_pos (by omega)]
  rfl
theorem szPuzzle_small (a : Int) (l : List S23) (h : l.length ≤ 1000000) : laws_szPuzzle.f a l 1000000 = some (1000000 - (l.length : Int)) := by
  unfold laws_szPuzzle.f laws_szClueS.f
  rw [Hw.wrap_id (by omega) (by omega), if_neg (by omega)]
  exact if_neg (by omega)
end Go.Proofs.Ytbkplokoomodcaa.A2
