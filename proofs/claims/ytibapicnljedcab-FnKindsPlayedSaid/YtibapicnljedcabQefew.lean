/- Plain lemmas of this session: what the printed functions answer. -/
import Derived.Test.YtibapicnljedcabQx0
import Derived.Test.YtibapicnljedcabQx1
import Derived.Test.YtibapicnljedcabQx10
import Derived.Test.YtibapicnljedcabQx11
import Derived.Test.YtibapicnljedcabQx12
import Derived.Test.YtibapicnljedcabQx2
import Derived.Test.YtibapicnljedcabQx3
import Derived.Test.YtibapicnljedcabQx4
import Derived.Test.YtibapicnljedcabQx5
import Derived.Test.YtibapicnljedcabQx6
import Derived.Test.YtibapicnljedcabQx7
import Derived.Test.YtibapicnljedcabQx8
import Derived.Test.YtibapicnljedcabQx9
import Derived.Test.YtibapicnljedcabHw
import Derived.Test.YtibapicnljedcabQedraw
namespace Go.Proofs.Ytibapicnljedcab.Q
open Go.RowKit Go.Proofs.YtibapicnljedcabW.PrintWords Go.Proofs.YtibapicnljedcabW.PrintLast Go.Proofs.YtibapicnljedcabW.PrintMore
set_option linter.unusedVariables false
set_option linter.unusedSimpArgs false
/-! ### The fewest tests reach -/
theorem reachAt_ge (t e : Nat) (ht : t ≤ 1000) : (t : Int) ≤ reachAt t (e + 1) := by
  induction t with
  | zero => simp [reachAt]
  | succ t ih => have := ih (by omega); have := reachAt_lo t e; rw [reachAt.eq_3]; omega
theorem few_at (e : Nat) (fl : Int) (hfl : fl ≤ 1000) : fl ≤ reachAt (few (e + 1) fl) (e + 1) := by
  have key : ∀ n s, s + n = 1000 → fl ≤ reachAt (fewFrom (e + 1) fl s n) (e + 1) := by
    intro n
    induction n with
    | zero => intro s h1; unfold fewFrom; have := reachAt_ge s e (by omega); omega
    | succ n ih =>
      intro s h1
      unfold fewFrom
      split
      · assumption
      · exact ih (s + 1) (by omega)
  exact key 1000 0 (by omega)
theorem few_reach (e : Nat) (fl : Int) (h0 : 1 ≤ e) (_h1 : e ≤ 10) (hfl : fl ≤ 1000) : fl ≤ reachAt (few e fl) e := by
  obtain ⟨e, rfl⟩ : ∃ m, e = m + 1 := ⟨e - 1, by omega⟩
  exact few_at e fl hfl
end Go.Proofs.Ytibapicnljedcab.Q
