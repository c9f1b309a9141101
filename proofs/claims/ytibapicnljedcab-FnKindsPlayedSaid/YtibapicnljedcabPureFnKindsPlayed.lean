/- The law FnKindsPlayed: for every argument the call returns true. No condition beside what a machine's values are. -/
import Derived.Test.YtibapicnljedcabHw
import Derived.Test.YtibapicnljedcabQedraw
import Derived.Test.YtibapicnljedcabQefew
import Derived.Test.YtibapicnljedcabQeidle
import Derived.Test.YtibapicnljedcabQekplay
import Derived.Test.YtibapicnljedcabQekpure
import Derived.Test.YtibapicnljedcabQekplaw
import Derived.Test.YtibapicnljedcabQelawKP0
import Derived.Test.YtibapicnljedcabQelawKP1
import Derived.Test.YtibapicnljedcabQelawKP2
import Derived.Test.YtibapicnljedcabQelawKindsPlayed
namespace Go.Proofs.Ytibapicnljedcab.Pure
open Go.RowKit Go.Proofs.Ytibapicnljedcab Go.Proofs.Ytibapicnljedcab.Q Go.Proofs.YtibapicnljedcabW.PrintWords Go.Proofs.YtibapicnljedcabW.PrintLast Go.Proofs.YtibapicnljedcabW.PrintMore
set_option linter.unusedVariables false
set_option linter.unusedSimpArgs false

theorem walk_FnKindsPlayed (A0 : Option Addr) (c0 : Nat) (l0 : List Int) (A1 : Option Addr) (c1 : Nat) (l1 : List Int) (w : World) (hr0 : Kd.C (Kd.int .u8) w A0 l0.length l0) (hc0 : l0.length ≤ c0) (hr1 : Kd.C (Kd.int .u8) w A1 l1.length l1) (hc1 : l1.length ≤ c1) (hw0 : l0.length * 1 ≤ 140737488351232) (hw0g : ∀ p_ ∈ l0, (Lit.int .u8 p_).wf = true) (hw1 : l1.length * 1 ≤ 140737488351232) (hw1g : ∀ p_ ∈ l1, (Lit.int .u8 p_).wf = true) :
    Calls Try.prog 3 #[.slice A0 l0.length c0, .slice A1 l1.length c1] w fun e w' => e = .returned (.bool true) ∧ Below w.heap.size w w' :=
  hand_FnKindsPlayed A0 c0 l0 A1 c1 l1 w hr0 hc0 hr1 hc1 (bytes_ok hw0g) (bytes_ok hw1g)

end Go.Proofs.Ytibapicnljedcab.Pure
