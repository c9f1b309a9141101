/- Plain lemmas of this session: what the printed functions answer. -/
import Derived.Test.YtbkplokoomodcaaD2x0
import Derived.Test.YtbkplokoomodcaaD2x1
import Derived.Test.YtbkplokoomodcaaD2x2
import Derived.Test.YtbkplokoomodcaaD2x3
import Derived.Test.YtbkplokoomodcaaD2x4
import Derived.Test.YtbkplokoomodcaaD2x5
import Derived.Test.YtbkplokoomodcaaHw
import Derived.Test.YtbkplokoomodcaaD2el1
import Derived.Test.YtbkplokoomodcaaD2eclue
import Derived.Test.YtbkplokoomodcaaD2egood
import Derived.Test.YtbkplokoomodcaaD2eszPuzzle
import Derived.Test.YtbkplokoomodcaaD2emarksC
import Derived.Test.YtbkplokoomodcaaD2eheldC
namespace Go.Proofs.Ytbkplokoomodcaa.D2
open Go.RowKit Go.Proofs.YtbkplokoomodcaaW.PrintWords Go.Proofs.YtbkplokoomodcaaW.PrintLast Go.Proofs.YtbkplokoomodcaaW.PrintMore
set_option linter.unusedVariables false
set_option linter.unusedSimpArgs false
/-! The reference's list without one. -/
theorem pzWithoutP (L : List S25) (hl : L.length ≤ 1000) (i : Nat) (hi : i < L.length) : spec_pzWithout.f L (i : Int) = some (L.take i ++ L.drop (i + 1)) := by
  unfold spec_pzWithout.f
  rw [Option.bind_some, if_pos (by omega), if_pos (by omega), Int.toNat_natCast, Option.bind_some, if_pos (by simp only [List.length_take, List.length_nil]; omega), Option.bind_some, Hw.wrap_id (by omega) (by omega), if_pos (by omega), if_pos (by omega), Option.bind_some, show ((i : Int) + 1).toNat = i + 1 by omega, if_pos (by simp only [List.nil_append, List.length_take, List.length_drop]; omega), List.nil_append]
end Go.Proofs.Ytbkplokoomodcaa.D2
