/- Plain lemmas of this session: what the printed functions answer. -/
import Derived.Test.YtoomacelbhojhaaUx0
import Derived.Test.YtoomacelbhojhaaUx1
import Derived.Test.YtoomacelbhojhaaUx10
import Derived.Test.YtoomacelbhojhaaUx2
import Derived.Test.YtoomacelbhojhaaUx3
import Derived.Test.YtoomacelbhojhaaUx4
import Derived.Test.YtoomacelbhojhaaUx5
import Derived.Test.YtoomacelbhojhaaUx6
import Derived.Test.YtoomacelbhojhaaUx7
import Derived.Test.YtoomacelbhojhaaUx8
import Derived.Test.YtoomacelbhojhaaUx9
import Derived.Test.YtoomacelbhojhaaHw
import Derived.Test.YtoomacelbhojhaaUemarks
import Derived.Test.YtoomacelbhojhaaUess
import Derived.Test.YtoomacelbhojhaaUeints
namespace Go.Proofs.Ytoomacelbhojhaa.U
open Go.RowKit Go.Proofs.YtoomacelbhojhaaW.PrintWords Go.Proofs.YtoomacelbhojhaaW.PrintLast Go.Proofs.YtoomacelbhojhaaW.PrintMore
set_option linter.unusedVariables false
set_option linter.unusedSimpArgs false
theorem markInt_at (l : List Int) (hl : l.length ≤ 1000000) (a : Int) (h0 : 0 ≤ a) (h1 : a ≤ 10000000) (K : Nat) (hK : l.length < K) : laws_markIntS.f K l a = some (a + (l.length : Int), marksI l.length a) := by
  have := markInt_l0 [] l a K h0 (by omega) (by simp; omega) hK
  simpa [laws_markIntS.f] using this
theorem intFacts (l : List Int) (hl : l.length ≤ 1000000) (K : Nat) (hK : 3000000 < K) (a : Int) (h0 : 0 ≤ a) (h1 : a ≤ 10000000) : ∃ (F F' Lx : List Int) (t : Int), full_toIntS.f K l false = some F ∧ full_toIntS.f K l true = some F' ∧ (l.length ≠ 0 → F' = F) ∧ (l.length = 0 → F' = []) ∧ F.take l.length = l ∧ laws_roomBehind.f (l.length : Int) = some t ∧ wrap64 ((l.length : Int) + t) = (F.length : Int) ∧ laws_eqIntS.f K F F = some true ∧ laws_markIntS.f K l a = some (a + (l.length : Int), Lx) := by
  obtain ⟨F, F', t, f1, f2, f3, f4, f5, f6, f7, f8⟩ := intFacts0 l hl K hK
  exact ⟨F, F', _, t, f1, f2, f3, f4, f5, f6, f7, f8, markInt_at l hl a h0 h1 K (by omega)⟩
end Go.Proofs.Ytoomacelbhojhaa.U
