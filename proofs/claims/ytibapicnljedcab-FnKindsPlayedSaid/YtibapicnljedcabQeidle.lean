/- Plain lemmas of this session: what the printed functions answer. -/
import Derived.Test.YtibapicnljedcabQx0
import Derived.Test.YtibapicnljedcabQx1
import Derived.Test.YtibapicnljedcabQx10
import Derived.Test.YtibapicnljedcabQx11
import Derived.Test.YtibapicnljedcabQx12
import Derived.Test.YtibapicnljedcabQx2
import Derived.Test.YtibapicnljedcabQx3
import Derived.Test.YtibapicnljedcabQx4
import Derived.Test.YtibapicnljedcabQx5
import Derived.Test.YtibapicnljedcabQx6
import Derived.Test.YtibapicnljedcabQx7
import Derived.Test.YtibapicnljedcabQx8
import Derived.Test.YtibapicnljedcabQx9
import Derived.Test.YtibapicnljedcabHw
import Derived.Test.YtibapicnljedcabQedraw
import Derived.Test.YtibapicnljedcabQefew
namespace Go.Proofs.Ytibapicnljedcab.Q
open Go.RowKit Go.Proofs.YtibapicnljedcabW.PrintWords Go.Proofs.YtibapicnljedcabW.PrintLast Go.Proofs.YtibapicnljedcabW.PrintMore
set_option linter.unusedVariables false
set_option linter.unusedSimpArgs false
/-! ### Idle tests -/
def idleF (fl : Int) (L : List S43) : Nat → Nat → List Int
  | 0, _ => []
  | n + 1, i => if ((pairsF fl (L.take (i + 1))).length : Int) = ((pairsF fl (L.take i)).length : Int) then (i : Int) :: idleF fl L n (i + 1) else if ((pairsF fl (L.take (i + 1))).length : Int) = 0 then (i : Int) :: idleF fl L n (i + 1) else idleF fl L n (i + 1)
theorem idle_impl (fl : Int) (L : List S43) (h0 : 0 ≤ fl) (hf : fl ≤ 6) (hl : L.length ≤ 40) (n : Nat) : ∀ (i : Nat) (xs : List Int) (K : Nat), i + n = L.length → xs.length ≤ i → 101 + n < K → impl_IdleKindTests.l0 K fl L xs (L.length : Int) (i : Int) = some (xs ++ idleF fl L n i, true) := by
  induction n with
  | zero =>
    intro i xs K h1 h2 hK
    obtain ⟨K, rfl⟩ : ∃ m, K = m + 1 := ⟨K - 1, by omega⟩
    rw [impl_IdleKindTests.l0, if_neg (by omega), idleF, List.append_nil]
  | succ n ih =>
    intro i xs K h1 h2 hK
    obtain ⟨K, rfl⟩ : ∃ m, K = m + 1 := ⟨K - 1, by omega⟩
    have hi : wrap64 ((i : Int) + 1) = ((i + 1 : Nat) : Int) := by rw [Hw.wrap_id (by omega) (by omega)]; omega
    rw [impl_IdleKindTests.l0, if_pos (by omega), if_pos (by omega), if_pos (by omega), hi, Int.toNat_natCast, Int.toNat_natCast]
    refine Hw.bind_of (impl_pairs fl _ h0 hf K (by omega)) ?_
    rw [if_pos (by omega), if_pos (by omega)]
    refine Hw.bind_of (impl_pairs fl _ h0 hf K (by omega)) ?_
    have ha := ih (i + 1) (xs ++ [(i : Int)]) K (by omega) (by simp; omega) (by omega)
    have hb := ih (i + 1) xs K (by omega) (by omega) (by omega)
    rw [idleF]
    split
    · rw [if_pos (by omega), ha]; simp
    · split
      · rw [if_pos (by omega), ha]; simp
      · exact hb
end Go.Proofs.Ytibapicnljedcab.Q
