/-
  No cell of these rows narrows 'for every input' (looked for: loops, veiled, ifaces, maps, wideKeys, modest, calm, conditions, laid).
  DERIVED. THE GIVEN ROWS OF THIS SEAT. 6 by the template 'for every input the law returns true; each argument reads behind the call as it read before'; 0 by the template 'total and deterministic' (their statements: YtgolncpnephdcaaTotals.lean).
  GIVEN WITH THE SEED: the statements are not yours to turn. If you find one false, say at which input.
  Laid BY PROGRAM, IN A SANDBOX (cutbox-rows.mjs): the forced cells as the released guide's own fill.sh prints them over the translation c2b33e848c44e716… (all of the seat's roots in one cut). By AI agents, Wed Nov 11 2026. No macro, syntax, notation, axiom, sorry.
-/
import Derived.Test.YtgolncpnephdcaaChecked
import GoSem.Claim
import GoSem.ClaimJoined
import GoSem.ClaimMapViews
import Derived.JoinedTies
import Derived.KernelRfl
namespace Go.Proofs.Ytgolncpnephdcaa
/- THE CELL 'sum', in the pinned program and in every row, IS THE sha256 OF THE DUMP (.gsa) THAT YtgolncpnephdcaaProg.lean LOADS. Nothing in Lean hashes anything: it is a label: what it is worth is what the hold of that sum in a sandbox is worth. -/
noncomputable def Try.pinned : Pinned := { name := "ytgolncpnephdcaa", sum := "c2b33e848c44e716b06b2b2fbe92b6daf61c2649d0301cf29abd616d157eafa4", checked := Try.checked }
namespace Rows
def none {H : Type} : Left H := { results := [], args := [] }

/-- 'laws.FnExactFirstDesk': WHATEVER THE INPUT: true; the input reads as it did. -/
def fnExactFirstDeskSpec : ChangeSpec := { name := "fnExactFirstDesk", fn := fun _ => fun
  | [] => { results := [.lit (.bool true)], args := [] }
  | _ => none }
def fnExactFirstDeskRow : OpenClaim := { program := "ytgolncpnephdcaa", sum := "c2b33e848c44e716b06b2b2fbe92b6daf61c2649d0301cf29abd616d157eafa4", func := "loop.example/g01325/laws.FnExactFirstDesk", spec := "fnExactFirstDesk", apart := false }
def FnExactFirstDeskSaid : Prop := fnExactFirstDeskRow.holds Try.pinned (OpenSpec.ofChange fnExactFirstDeskSpec)

/-- ITS FALSE NEIGHBOUR: 'it returns false'. Refute it at one input. -/
def fnExactFirstDeskWrong : ChangeSpec := { name := "fnExactFirstDesk", fn := fun _ => fun
  | [] => { results := [.lit (.bool false)], args := [] }
  | _ => none }
def FnExactFirstDeskWrongFalsely : Prop := fnExactFirstDeskRow.holds Try.pinned (OpenSpec.ofChange fnExactFirstDeskWrong)

/-- 'laws.FnExactFitsKinds': WHATEVER THE INPUT: true; the input reads as it did. -/
def fnExactFitsKindsSpec : ChangeSpec := { name := "fnExactFitsKinds", fn := fun _ => fun
  | [d1, d2, d3, d4] => { results := [.lit (.bool true)], args := [d1, d2, d3, d4] }
  | _ => none }
def fnExactFitsKindsRow : OpenClaim := { program := "ytgolncpnephdcaa", sum := "c2b33e848c44e716b06b2b2fbe92b6daf61c2649d0301cf29abd616d157eafa4", func := "loop.example/g01325/laws.FnExactFitsKinds", spec := "fnExactFitsKinds", unfollowed := true, recurses := true, apart := false }
def FnExactFitsKindsSaid : Prop := fnExactFitsKindsRow.holds Try.pinned (OpenSpec.ofChange fnExactFitsKindsSpec)

/-- ITS FALSE NEIGHBOUR: 'it returns false'. Refute it at one input. -/
def fnExactFitsKindsWrong : ChangeSpec := { name := "fnExactFitsKinds", fn := fun _ => fun
  | [d1, d2, d3, d4] => { results := [.lit (.bool false)], args := [d1, d2, d3, d4] }
  | _ => none }
def FnExactFitsKindsWrongFalsely : Prop := fnExactFitsKindsRow.holds Try.pinned (OpenSpec.ofChange fnExactFitsKindsWrong)

/-- 'laws.FnExactCountLeft': WHATEVER THE INPUT: true; the input reads as it did. -/
def fnExactCountLeftSpec : ChangeSpec := { name := "fnExactCountLeft", fn := fun _ => fun
  | [d1, d2] => { results := [.lit (.bool true)], args := [d1, d2] }
  | _ => none }
def fnExactCountLeftRow : OpenClaim := { program := "ytgolncpnephdcaa", sum := "c2b33e848c44e716b06b2b2fbe92b6daf61c2649d0301cf29abd616d157eafa4", func := "loop.example/g01325/laws.FnExactCountLeft", spec := "fnExactCountLeft", unfollowed := true, recurses := true, apart := false }
def FnExactCountLeftSaid : Prop := fnExactCountLeftRow.holds Try.pinned (OpenSpec.ofChange fnExactCountLeftSpec)

/-- ITS FALSE NEIGHBOUR: 'it returns false'. Refute it at one input. -/
def fnExactCountLeftWrong : ChangeSpec := { name := "fnExactCountLeft", fn := fun _ => fun
  | [d1, d2] => { results := [.lit (.bool false)], args := [d1, d2] }
  | _ => none }
def FnExactCountLeftWrongFalsely : Prop := fnExactCountLeftRow.holds Try.pinned (OpenSpec.ofChange fnExactCountLeftWrong)

/-- 'laws.FnExactIsDesk': WHATEVER THE INPUT: true; the input reads as it did. -/
def fnExactIsDeskSpec : ChangeSpec := { name := "fnExactIsDesk", fn := fun _ => fun
  | [d] => { results := [.lit (.bool true)], args := [d] }
  | _ => none }
def fnExactIsDeskRow : OpenClaim := { program := "ytgolncpnephdcaa", sum := "c2b33e848c44e716b06b2b2fbe92b6daf61c2649d0301cf29abd616d157eafa4", func := "loop.example/g01325/laws.FnExactIsDesk", spec := "fnExactIsDesk", unfollowed := true, recurses := true, apart := false }
def FnExactIsDeskSaid : Prop := fnExactIsDeskRow.holds Try.pinned (OpenSpec.ofChange fnExactIsDeskSpec)

/-- ITS FALSE NEIGHBOUR: 'it returns false'. Refute it at one input. -/
def fnExactIsDeskWrong : ChangeSpec := { name := "fnExactIsDesk", fn := fun _ => fun
  | [d] => { results := [.lit (.bool false)], args := [d] }
  | _ => none }
def FnExactIsDeskWrongFalsely : Prop := fnExactIsDeskRow.holds Try.pinned (OpenSpec.ofChange fnExactIsDeskWrong)

/-- 'laws.FnExactIdleKindTests': WHATEVER THE INPUT: true; the input reads as it did. -/
def fnExactIdleKindTestsSpec : ChangeSpec := { name := "fnExactIdleKindTests", fn := fun _ => fun
  | [d1, d2] => { results := [.lit (.bool true)], args := [d1, d2] }
  | _ => none }
def fnExactIdleKindTestsRow : OpenClaim := { program := "ytgolncpnephdcaa", sum := "c2b33e848c44e716b06b2b2fbe92b6daf61c2649d0301cf29abd616d157eafa4", func := "loop.example/g01325/laws.FnExactIdleKindTests", spec := "fnExactIdleKindTests", unfollowed := true, recurses := true, apart := false }
def FnExactIdleKindTestsSaid : Prop := fnExactIdleKindTestsRow.holds Try.pinned (OpenSpec.ofChange fnExactIdleKindTestsSpec)

/-- ITS FALSE NEIGHBOUR: 'it returns false'. Refute it at one input. -/
def fnExactIdleKindTestsWrong : ChangeSpec := { name := "fnExactIdleKindTests", fn := fun _ => fun
  | [d1, d2] => { results := [.lit (.bool false)], args := [d1, d2] }
  | _ => none }
def FnExactIdleKindTestsWrongFalsely : Prop := fnExactIdleKindTestsRow.holds Try.pinned (OpenSpec.ofChange fnExactIdleKindTestsWrong)

/-- 'laws.FnExactPairsLeft': WHATEVER THE INPUT: true; the input reads as it did. -/
def fnExactPairsLeftSpec : ChangeSpec := { name := "fnExactPairsLeft", fn := fun _ => fun
  | [d1, d2] => { results := [.lit (.bool true)], args := [d1, d2] }
  | _ => none }
def fnExactPairsLeftRow : OpenClaim := { program := "ytgolncpnephdcaa", sum := "c2b33e848c44e716b06b2b2fbe92b6daf61c2649d0301cf29abd616d157eafa4", func := "loop.example/g01325/laws.FnExactPairsLeft", spec := "fnExactPairsLeft", unfollowed := true, recurses := true, apart := false }
def FnExactPairsLeftSaid : Prop := fnExactPairsLeftRow.holds Try.pinned (OpenSpec.ofChange fnExactPairsLeftSpec)

/-- ITS FALSE NEIGHBOUR: 'it returns false'. Refute it at one input. -/
def fnExactPairsLeftWrong : ChangeSpec := { name := "fnExactPairsLeft", fn := fun _ => fun
  | [d1, d2] => { results := [.lit (.bool false)], args := [d1, d2] }
  | _ => none }
def FnExactPairsLeftWrongFalsely : Prop := fnExactPairsLeftRow.holds Try.pinned (OpenSpec.ofChange fnExactPairsLeftWrong)

/- THE SECOND FORM. 'bulk': how many values and letters a reading holds, each counted each time it is reached (what is shared counts as often as it is met; a slice's spare places count too). A statement '..UptoSaid' is the law's where the arguments, and the package variables that the reading takes, are together of bulk at most 1048576: NARROWER than '..Said'. Prove '..Said' where nothing that the law and all that it calls make is longer than what came in: it says more and counts as full. Else prove '..UptoSaid'. A law counts once. -/
mutual
def uptoBulk {H : Type} : DataW H → Nat
  | .lit (.string bytes) => bytes.length + 1
  | .lit _ => 1
  | .nil => 1
  | .ptr d => uptoBulk d + 1
  | .slice elems spare => uptoBulkAll elems + uptoBulkAll spare + 1
  | .agg parts => uptoBulkAll parts + 1
  | .iface _ d => uptoBulk d + 1
  | .map entries => uptoBulkEntries entries + 1
  | .held _ => 1
def uptoBulkAll {H : Type} : List (DataW H) → Nat
  | [] => 0
  | d :: r => uptoBulk d + uptoBulkAll r
def uptoBulkEntries {H : Type} : List (Lit × DataW H) → Nat
  | [] => 0
  | x :: r => uptoBulkEntry x + uptoBulkEntries r
def uptoBulkEntry {H : Type} : Lit × DataW H → Nat
  | (.string bytes, d) => bytes.length + uptoBulk d + 1
  | (_, d) => uptoBulk d + 1
 end
def uptoSmall : (H : Type) → List (DataW H) → Bool := fun _ ds => decide (uptoBulkAll ds ≤ 1048576)
def OpenSpec.upto (s : _root_.Go.ChangeSpec) : _root_.Go.OpenSpec := { _root_.Go.OpenSpec.ofChange s with cond := some uptoSmall }

/-- 'laws.FnExactFirstDesk', WHERE WHAT IT READS IS OF BULK AT MOST 1048576: true; the input reads as it did. -/
def fnExactFirstDeskUptoRow : OpenClaim := { program := "ytgolncpnephdcaa", sum := "c2b33e848c44e716b06b2b2fbe92b6daf61c2649d0301cf29abd616d157eafa4", func := "loop.example/g01325/laws.FnExactFirstDesk", spec := "fnExactFirstDesk", apart := false, narrowed := true }
def FnExactFirstDeskUptoSaid : Prop := fnExactFirstDeskUptoRow.holds Try.pinned (OpenSpec.upto fnExactFirstDeskSpec)

/-- 'laws.FnExactFitsKinds', WHERE WHAT IT READS IS OF BULK AT MOST 1048576: true; the input reads as it did. -/
def fnExactFitsKindsUptoRow : OpenClaim := { program := "ytgolncpnephdcaa", sum := "c2b33e848c44e716b06b2b2fbe92b6daf61c2649d0301cf29abd616d157eafa4", func := "loop.example/g01325/laws.FnExactFitsKinds", spec := "fnExactFitsKinds", unfollowed := true, recurses := true, apart := false, narrowed := true }
def FnExactFitsKindsUptoSaid : Prop := fnExactFitsKindsUptoRow.holds Try.pinned (OpenSpec.upto fnExactFitsKindsSpec)

/-- 'laws.FnExactCountLeft', WHERE WHAT IT READS IS OF BULK AT MOST 1048576: true; the input reads as it did. -/
def fnExactCountLeftUptoRow : OpenClaim := { program := "ytgolncpnephdcaa", sum := "c2b33e848c44e716b06b2b2fbe92b6daf61c2649d0301cf29abd616d157eafa4", func := "loop.example/g01325/laws.FnExactCountLeft", spec := "fnExactCountLeft", unfollowed := true, recurses := true, apart := false, narrowed := true }
def FnExactCountLeftUptoSaid : Prop := fnExactCountLeftUptoRow.holds Try.pinned (OpenSpec.upto fnExactCountLeftSpec)

/-- 'laws.FnExactIsDesk', WHERE WHAT IT READS IS OF BULK AT MOST 1048576: true; the input reads as it did. -/
def fnExactIsDeskUptoRow : OpenClaim := { program := "ytgolncpnephdcaa", sum := "c2b33e848c44e716b06b2b2fbe92b6daf61c2649d0301cf29abd616d157eafa4", func := "loop.example/g01325/laws.FnExactIsDesk", spec := "fnExactIsDesk", unfollowed := true, recurses := true, apart := false, narrowed := true }
def FnExactIsDeskUptoSaid : Prop := fnExactIsDeskUptoRow.holds Try.pinned (OpenSpec.upto fnExactIsDeskSpec)

/-- 'laws.FnExactIdleKindTests', WHERE WHAT IT READS IS OF BULK AT MOST 1048576: true; the input reads as it did. -/
def fnExactIdleKindTestsUptoRow : OpenClaim := { program := "ytgolncpnephdcaa", sum := "c2b33e848c44e716b06b2b2fbe92b6daf61c2649d0301cf29abd616d157eafa4", func := "loop.example/g01325/laws.FnExactIdleKindTests", spec := "fnExactIdleKindTests", unfollowed := true, recurses := true, apart := false, narrowed := true }
def FnExactIdleKindTestsUptoSaid : Prop := fnExactIdleKindTestsUptoRow.holds Try.pinned (OpenSpec.upto fnExactIdleKindTestsSpec)

/-- 'laws.FnExactPairsLeft', WHERE WHAT IT READS IS OF BULK AT MOST 1048576: true; the input reads as it did. -/
def fnExactPairsLeftUptoRow : OpenClaim := { program := "ytgolncpnephdcaa", sum := "c2b33e848c44e716b06b2b2fbe92b6daf61c2649d0301cf29abd616d157eafa4", func := "loop.example/g01325/laws.FnExactPairsLeft", spec := "fnExactPairsLeft", unfollowed := true, recurses := true, apart := false, narrowed := true }
def FnExactPairsLeftUptoSaid : Prop := fnExactPairsLeftUptoRow.holds Try.pinned (OpenSpec.upto fnExactPairsLeftSpec)

end Rows
end Go.Proofs.Ytgolncpnephdcaa
