/- Plain lemmas of this session: what the printed functions answer. -/
import Derived.Test.YtacokiggjjjbbaaDoorTx0
import Derived.Test.YtacokiggjjjbbaaDoorTx1
import Derived.Test.YtacokiggjjjbbaaDoorTx2
import Derived.Test.YtacokiggjjjbbaaDoorTx3
import Derived.Test.YtacokiggjjjbbaaDoorTx4
import Derived.Test.YtacokiggjjjbbaaDoorTx5
import Derived.Test.YtacokiggjjjbbaaDoorTx6
import Derived.Test.YtacokiggjjjbbaaDoorHw
import Derived.Test.YtacokiggjjjbbaaDoorTel1
import Derived.Test.YtacokiggjjjbbaaDoorTeclue
import Derived.Test.YtacokiggjjjbbaaDoorTegood
namespace Go.Proofs.YtacokiggjjjbbaaDoor.T
open Go.RowKit Go.Proofs.YtacokiggjjjbbaaDoorW.PrintWords Go.Proofs.YtacokiggjjjbbaaDoorW.PrintLast Go.Proofs.YtacokiggjjjbbaaDoorW.PrintMore
set_option linter.unusedVariables false
set_option linter.unusedSimpArgs false
/-! How much room a puzzle takes. -/
theorem szPuzzle_big (a : Int) (l : List S46) (hl : l.length ≤ 9223372036854775807) (h : 1000000 < l.length) : laws_szPuzzle.f a l 1000000 = some (-1) := by
  unfold laws_szPuzzle.f laws_szClueS.f
  rw [Hw.wrap_id (by omega) (by omega), if_pos (by omega)]
  rfl
theorem szPuzzle_small (a : Int) (l : List S46) (h : l.length ≤ 1000000) : laws_szPuzzle.f a l 1000000 = some (1000000 - (l.length : Int)) := by
  unfold laws_szPuzzle.f laws_szClueS.f
  rw [Hw.wrap_id (by omega) (by omega), if_neg (by omega)]
  exact if_neg (by omega)
end Go.Proofs.YtacokiggjjjbbaaDoor.T
