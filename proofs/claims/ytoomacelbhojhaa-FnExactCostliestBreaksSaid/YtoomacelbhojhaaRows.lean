/-
  No cell of these rows narrows 'for every input' (looked for: loops, veiled, ifaces, maps, wideKeys, modest, calm, conditions, laid).
  DERIVED. THE GIVEN ROWS OF THIS SEAT. 11 by the template 'for every input the law returns true; each argument reads behind the call as it read before'; 0 by the template 'total and deterministic' (their statements: YtoomacelbhojhaaTotals.lean).
  GIVEN WITH THE SEED: the statements are not yours to turn. If you find one false, say at which input.
  Laid BY PROGRAM, IN A SANDBOX (cutbox-rows.mjs): the forced cells as the released guide's own fill.sh prints them over the translation 9508fd57cf2065cd… (all of the seat's roots in one cut). By AI agents, Wed Nov 11 2026. No macro, syntax, notation, axiom, sorry.
-/
import Derived.Test.YtoomacelbhojhaaChecked
import GoSem.Claim
import GoSem.ClaimJoined
import GoSem.ClaimMapViews
import Derived.JoinedTies
import Derived.KernelRfl
namespace Go.Proofs.Ytoomacelbhojhaa
/- THE CELL 'sum', in the pinned program and in every row, IS THE sha256 OF THE DUMP (.gsa) THAT YtoomacelbhojhaaProg.lean LOADS. Nothing in Lean hashes anything: it is a label: what it is worth is what the hold of that sum in a sandbox is worth. -/
noncomputable def Try.pinned : Pinned := { name := "ytoomacelbhojhaa", sum := "9508fd57cf2065cdb8172cde685bddab7bcb31e73ad3b149a2b83bedcbe76c81", checked := Try.checked }
namespace Rows
def none {H : Type} : Left H := { results := [], args := [] }

/-- 'laws.FnExactCountKindTests': WHATEVER THE INPUT: true; the input reads as it did. -/
def fnExactCountKindTestsSpec : ChangeSpec := { name := "fnExactCountKindTests", fn := fun _ => fun
  | [d1, d2, d3, d4, d5] => { results := [.lit (.bool true)], args := [d1, d2, d3, d4, d5] }
  | _ => none }
def fnExactCountKindTestsRow : OpenClaim := { program := "ytoomacelbhojhaa", sum := "9508fd57cf2065cdb8172cde685bddab7bcb31e73ad3b149a2b83bedcbe76c81", func := "loop.example/g01325/laws.FnExactCountKindTests", spec := "fnExactCountKindTests", unfollowed := true, recurses := true, plainKeys := false, apart := false }
def FnExactCountKindTestsSaid : Prop := fnExactCountKindTestsRow.holds Try.pinned (OpenSpec.ofChange fnExactCountKindTestsSpec)

/-- ITS FALSE NEIGHBOUR: 'it returns false'. Refute it at one input. -/
def fnExactCountKindTestsWrong : ChangeSpec := { name := "fnExactCountKindTests", fn := fun _ => fun
  | [d1, d2, d3, d4, d5] => { results := [.lit (.bool false)], args := [d1, d2, d3, d4, d5] }
  | _ => none }
def FnExactCountKindTestsWrongFalsely : Prop := fnExactCountKindTestsRow.holds Try.pinned (OpenSpec.ofChange fnExactCountKindTestsWrong)

/-- 'laws.FnExactPlayKinds': WHATEVER THE INPUT: true; the input reads as it did. -/
def fnExactPlayKindsSpec : ChangeSpec := { name := "fnExactPlayKinds", fn := fun _ => fun
  | [d1, d2, d3, d4, d5] => { results := [.lit (.bool true)], args := [d1, d2, d3, d4, d5] }
  | _ => none }
def fnExactPlayKindsRow : OpenClaim := { program := "ytoomacelbhojhaa", sum := "9508fd57cf2065cdb8172cde685bddab7bcb31e73ad3b149a2b83bedcbe76c81", func := "loop.example/g01325/laws.FnExactPlayKinds", spec := "fnExactPlayKinds", unfollowed := true, recurses := true, plainKeys := false, apart := false }
def FnExactPlayKindsSaid : Prop := fnExactPlayKindsRow.holds Try.pinned (OpenSpec.ofChange fnExactPlayKindsSpec)

/-- ITS FALSE NEIGHBOUR: 'it returns false'. Refute it at one input. -/
def fnExactPlayKindsWrong : ChangeSpec := { name := "fnExactPlayKinds", fn := fun _ => fun
  | [d1, d2, d3, d4, d5] => { results := [.lit (.bool false)], args := [d1, d2, d3, d4, d5] }
  | _ => none }
def FnExactPlayKindsWrongFalsely : Prop := fnExactPlayKindsRow.holds Try.pinned (OpenSpec.ofChange fnExactPlayKindsWrong)

/-- 'laws.FnExactHardestPairs': WHATEVER THE INPUT: true; the input reads as it did. -/
def fnExactHardestPairsSpec : ChangeSpec := { name := "fnExactHardestPairs", fn := fun _ => fun
  | [d1, d2, d3] => { results := [.lit (.bool true)], args := [d1, d2, d3] }
  | _ => none }
def fnExactHardestPairsRow : OpenClaim := { program := "ytoomacelbhojhaa", sum := "9508fd57cf2065cdb8172cde685bddab7bcb31e73ad3b149a2b83bedcbe76c81", func := "loop.example/g01325/laws.FnExactHardestPairs", spec := "fnExactHardestPairs", unfollowed := true, recurses := true, plainKeys := false, apart := false }
def FnExactHardestPairsSaid : Prop := fnExactHardestPairsRow.holds Try.pinned (OpenSpec.ofChange fnExactHardestPairsSpec)

/-- ITS FALSE NEIGHBOUR: 'it returns false'. Refute it at one input. -/
def fnExactHardestPairsWrong : ChangeSpec := { name := "fnExactHardestPairs", fn := fun _ => fun
  | [d1, d2, d3] => { results := [.lit (.bool false)], args := [d1, d2, d3] }
  | _ => none }
def FnExactHardestPairsWrongFalsely : Prop := fnExactHardestPairsRow.holds Try.pinned (OpenSpec.ofChange fnExactHardestPairsWrong)

/-- 'laws.FnExactCostDrops': WHATEVER THE INPUT: true; the input reads as it did. -/
def fnExactCostDropsSpec : ChangeSpec := { name := "fnExactCostDrops", fn := fun _ => fun
  | [d1, d2, d3, d4] => { results := [.lit (.bool true)], args := [d1, d2, d3, d4] }
  | _ => none }
def fnExactCostDropsRow : OpenClaim := { program := "ytoomacelbhojhaa", sum := "9508fd57cf2065cdb8172cde685bddab7bcb31e73ad3b149a2b83bedcbe76c81", func := "loop.example/g01325/laws.FnExactCostDrops", spec := "fnExactCostDrops", plainKeys := false, apart := false }
def FnExactCostDropsSaid : Prop := fnExactCostDropsRow.holds Try.pinned (OpenSpec.ofChange fnExactCostDropsSpec)

/-- ITS FALSE NEIGHBOUR: 'it returns false'. Refute it at one input. -/
def fnExactCostDropsWrong : ChangeSpec := { name := "fnExactCostDrops", fn := fun _ => fun
  | [d1, d2, d3, d4] => { results := [.lit (.bool false)], args := [d1, d2, d3, d4] }
  | _ => none }
def FnExactCostDropsWrongFalsely : Prop := fnExactCostDropsRow.holds Try.pinned (OpenSpec.ofChange fnExactCostDropsWrong)

/-- 'laws.FnExactCostliestBreaks': WHATEVER THE INPUT: true; the input reads as it did. -/
def fnExactCostliestBreaksSpec : ChangeSpec := { name := "fnExactCostliestBreaks", fn := fun _ => fun
  | [d1, d2, d3] => { results := [.lit (.bool true)], args := [d1, d2, d3] }
  | _ => none }
def fnExactCostliestBreaksRow : OpenClaim := { program := "ytoomacelbhojhaa", sum := "9508fd57cf2065cdb8172cde685bddab7bcb31e73ad3b149a2b83bedcbe76c81", func := "loop.example/g01325/laws.FnExactCostliestBreaks", spec := "fnExactCostliestBreaks", unfollowed := true, recurses := true, plainKeys := false, apart := false }
def FnExactCostliestBreaksSaid : Prop := fnExactCostliestBreaksRow.holds Try.pinned (OpenSpec.ofChange fnExactCostliestBreaksSpec)

/-- ITS FALSE NEIGHBOUR: 'it returns false'. Refute it at one input. -/
def fnExactCostliestBreaksWrong : ChangeSpec := { name := "fnExactCostliestBreaks", fn := fun _ => fun
  | [d1, d2, d3] => { results := [.lit (.bool false)], args := [d1, d2, d3] }
  | _ => none }
def FnExactCostliestBreaksWrongFalsely : Prop := fnExactCostliestBreaksRow.holds Try.pinned (OpenSpec.ofChange fnExactCostliestBreaksWrong)

/-- 'laws.FnExactFirstHouseDrop': WHATEVER THE INPUT: true; the input reads as it did. -/
def fnExactFirstHouseDropSpec : ChangeSpec := { name := "fnExactFirstHouseDrop", fn := fun _ => fun
  | [d1, d2] => { results := [.lit (.bool true)], args := [d1, d2] }
  | _ => none }
def fnExactFirstHouseDropRow : OpenClaim := { program := "ytoomacelbhojhaa", sum := "9508fd57cf2065cdb8172cde685bddab7bcb31e73ad3b149a2b83bedcbe76c81", func := "loop.example/g01325/laws.FnExactFirstHouseDrop", spec := "fnExactFirstHouseDrop", unfollowed := true, recurses := true, plainKeys := false, apart := false }
def FnExactFirstHouseDropSaid : Prop := fnExactFirstHouseDropRow.holds Try.pinned (OpenSpec.ofChange fnExactFirstHouseDropSpec)

/-- ITS FALSE NEIGHBOUR: 'it returns false'. Refute it at one input. -/
def fnExactFirstHouseDropWrong : ChangeSpec := { name := "fnExactFirstHouseDrop", fn := fun _ => fun
  | [d1, d2] => { results := [.lit (.bool false)], args := [d1, d2] }
  | _ => none }
def FnExactFirstHouseDropWrongFalsely : Prop := fnExactFirstHouseDropRow.holds Try.pinned (OpenSpec.ofChange fnExactFirstHouseDropWrong)

/-- 'laws.FnExactGoodHouseDrops': WHATEVER THE INPUT: true; the input reads as it did. -/
def fnExactGoodHouseDropsSpec : ChangeSpec := { name := "fnExactGoodHouseDrops", fn := fun _ => fun
  | [d1, d2] => { results := [.lit (.bool true)], args := [d1, d2] }
  | _ => none }
def fnExactGoodHouseDropsRow : OpenClaim := { program := "ytoomacelbhojhaa", sum := "9508fd57cf2065cdb8172cde685bddab7bcb31e73ad3b149a2b83bedcbe76c81", func := "loop.example/g01325/laws.FnExactGoodHouseDrops", spec := "fnExactGoodHouseDrops", unfollowed := true, recurses := true, plainKeys := false, apart := false }
def FnExactGoodHouseDropsSaid : Prop := fnExactGoodHouseDropsRow.holds Try.pinned (OpenSpec.ofChange fnExactGoodHouseDropsSpec)

/-- ITS FALSE NEIGHBOUR: 'it returns false'. Refute it at one input. -/
def fnExactGoodHouseDropsWrong : ChangeSpec := { name := "fnExactGoodHouseDrops", fn := fun _ => fun
  | [d1, d2] => { results := [.lit (.bool false)], args := [d1, d2] }
  | _ => none }
def FnExactGoodHouseDropsWrongFalsely : Prop := fnExactGoodHouseDropsRow.holds Try.pinned (OpenSpec.ofChange fnExactGoodHouseDropsWrong)

/-- 'laws.FnExactCountHouseDrops': WHATEVER THE INPUT: true; the input reads as it did. -/
def fnExactCountHouseDropsSpec : ChangeSpec := { name := "fnExactCountHouseDrops", fn := fun _ => fun
  | [d1, d2, d3] => { results := [.lit (.bool true)], args := [d1, d2, d3] }
  | _ => none }
def fnExactCountHouseDropsRow : OpenClaim := { program := "ytoomacelbhojhaa", sum := "9508fd57cf2065cdb8172cde685bddab7bcb31e73ad3b149a2b83bedcbe76c81", func := "loop.example/g01325/laws.FnExactCountHouseDrops", spec := "fnExactCountHouseDrops", unfollowed := true, recurses := true, plainKeys := false, apart := false }
def FnExactCountHouseDropsSaid : Prop := fnExactCountHouseDropsRow.holds Try.pinned (OpenSpec.ofChange fnExactCountHouseDropsSpec)

/-- ITS FALSE NEIGHBOUR: 'it returns false'. Refute it at one input. -/
def fnExactCountHouseDropsWrong : ChangeSpec := { name := "fnExactCountHouseDrops", fn := fun _ => fun
  | [d1, d2, d3] => { results := [.lit (.bool false)], args := [d1, d2, d3] }
  | _ => none }
def FnExactCountHouseDropsWrongFalsely : Prop := fnExactCountHouseDropsRow.holds Try.pinned (OpenSpec.ofChange fnExactCountHouseDropsWrong)

/-- 'laws.FnExactBrokenInHouses': WHATEVER THE INPUT: true; the input reads as it did. -/
def fnExactBrokenInHousesSpec : ChangeSpec := { name := "fnExactBrokenInHouses", fn := fun _ => fun
  | [d1, d2, d3] => { results := [.lit (.bool true)], args := [d1, d2, d3] }
  | _ => none }
def fnExactBrokenInHousesRow : OpenClaim := { program := "ytoomacelbhojhaa", sum := "9508fd57cf2065cdb8172cde685bddab7bcb31e73ad3b149a2b83bedcbe76c81", func := "loop.example/g01325/laws.FnExactBrokenInHouses", spec := "fnExactBrokenInHouses", unfollowed := true, recurses := true, plainKeys := false, apart := false }
def FnExactBrokenInHousesSaid : Prop := fnExactBrokenInHousesRow.holds Try.pinned (OpenSpec.ofChange fnExactBrokenInHousesSpec)

/-- ITS FALSE NEIGHBOUR: 'it returns false'. Refute it at one input. -/
def fnExactBrokenInHousesWrong : ChangeSpec := { name := "fnExactBrokenInHouses", fn := fun _ => fun
  | [d1, d2, d3] => { results := [.lit (.bool false)], args := [d1, d2, d3] }
  | _ => none }
def FnExactBrokenInHousesWrongFalsely : Prop := fnExactBrokenInHousesRow.holds Try.pinned (OpenSpec.ofChange fnExactBrokenInHousesWrong)

/-- 'laws.FnExactPlayHouses': WHATEVER THE INPUT: true; the input reads as it did. -/
def fnExactPlayHousesSpec : ChangeSpec := { name := "fnExactPlayHouses", fn := fun _ => fun
  | [d1, d2, d3] => { results := [.lit (.bool true)], args := [d1, d2, d3] }
  | _ => none }
def fnExactPlayHousesRow : OpenClaim := { program := "ytoomacelbhojhaa", sum := "9508fd57cf2065cdb8172cde685bddab7bcb31e73ad3b149a2b83bedcbe76c81", func := "loop.example/g01325/laws.FnExactPlayHouses", spec := "fnExactPlayHouses", unfollowed := true, recurses := true, plainKeys := false, apart := false }
def FnExactPlayHousesSaid : Prop := fnExactPlayHousesRow.holds Try.pinned (OpenSpec.ofChange fnExactPlayHousesSpec)

/-- ITS FALSE NEIGHBOUR: 'it returns false'. Refute it at one input. -/
def fnExactPlayHousesWrong : ChangeSpec := { name := "fnExactPlayHouses", fn := fun _ => fun
  | [d1, d2, d3] => { results := [.lit (.bool false)], args := [d1, d2, d3] }
  | _ => none }
def FnExactPlayHousesWrongFalsely : Prop := fnExactPlayHousesRow.holds Try.pinned (OpenSpec.ofChange fnExactPlayHousesWrong)

/-- 'laws.FnExactHardestHouses': WHATEVER THE INPUT: true; the input reads as it did. -/
def fnExactHardestHousesSpec : ChangeSpec := { name := "fnExactHardestHouses", fn := fun _ => fun
  | [d1, d2] => { results := [.lit (.bool true)], args := [d1, d2] }
  | _ => none }
def fnExactHardestHousesRow : OpenClaim := { program := "ytoomacelbhojhaa", sum := "9508fd57cf2065cdb8172cde685bddab7bcb31e73ad3b149a2b83bedcbe76c81", func := "loop.example/g01325/laws.FnExactHardestHouses", spec := "fnExactHardestHouses", unfollowed := true, recurses := true, plainKeys := false, apart := false }
def FnExactHardestHousesSaid : Prop := fnExactHardestHousesRow.holds Try.pinned (OpenSpec.ofChange fnExactHardestHousesSpec)

/-- ITS FALSE NEIGHBOUR: 'it returns false'. Refute it at one input. -/
def fnExactHardestHousesWrong : ChangeSpec := { name := "fnExactHardestHouses", fn := fun _ => fun
  | [d1, d2] => { results := [.lit (.bool false)], args := [d1, d2] }
  | _ => none }
def FnExactHardestHousesWrongFalsely : Prop := fnExactHardestHousesRow.holds Try.pinned (OpenSpec.ofChange fnExactHardestHousesWrong)

/- THE SECOND FORM. 'bulk': how many values and letters a reading holds, each counted each time it is reached (what is shared counts as often as it is met; a slice's spare places count too). A statement '..UptoSaid' is the law's where the arguments, and the package variables that the reading takes, are together of bulk at most 1048576: NARROWER than '..Said'. Prove '..Said' where nothing that the law and all that it calls make is longer than what came in: it says more and counts as full. Else prove '..UptoSaid'. A law counts once. -/
mutual
def uptoBulk {H : Type} : DataW H → Nat
  | .lit (.string bytes) => bytes.length + 1
  | .lit _ => 1
  | .nil => 1
  | .ptr d => uptoBulk d + 1
  | .slice elems spare => uptoBulkAll elems + uptoBulkAll spare + 1
  | .agg parts => uptoBulkAll parts + 1
  | .iface _ d => uptoBulk d + 1
  | .map entries => uptoBulkEntries entries + 1
  | .held _ => 1
def uptoBulkAll {H : Type} : List (DataW H) → Nat
  | [] => 0
  | d :: r => uptoBulk d + uptoBulkAll r
def uptoBulkEntries {H : Type} : List (Lit × DataW H) → Nat
  | [] => 0
  | x :: r => uptoBulkEntry x + uptoBulkEntries r
def uptoBulkEntry {H : Type} : Lit × DataW H → Nat
  | (.string bytes, d) => bytes.length + uptoBulk d + 1
  | (_, d) => uptoBulk d + 1
 end
def uptoSmall : (H : Type) → List (DataW H) → Bool := fun _ ds => decide (uptoBulkAll ds ≤ 1048576)
def OpenSpec.upto (s : _root_.Go.ChangeSpec) : _root_.Go.OpenSpec := { _root_.Go.OpenSpec.ofChange s with cond := some uptoSmall }

/-- 'laws.FnExactCountKindTests', WHERE WHAT IT READS IS OF BULK AT MOST 1048576: true; the input reads as it did. -/
def fnExactCountKindTestsUptoRow : OpenClaim := { program := "ytoomacelbhojhaa", sum := "9508fd57cf2065cdb8172cde685bddab7bcb31e73ad3b149a2b83bedcbe76c81", func := "loop.example/g01325/laws.FnExactCountKindTests", spec := "fnExactCountKindTests", unfollowed := true, recurses := true, plainKeys := false, apart := false, narrowed := true }
def FnExactCountKindTestsUptoSaid : Prop := fnExactCountKindTestsUptoRow.holds Try.pinned (OpenSpec.upto fnExactCountKindTestsSpec)

/-- 'laws.FnExactPlayKinds', WHERE WHAT IT READS IS OF BULK AT MOST 1048576: true; the input reads as it did. -/
def fnExactPlayKindsUptoRow : OpenClaim := { program := "ytoomacelbhojhaa", sum := "9508fd57cf2065cdb8172cde685bddab7bcb31e73ad3b149a2b83bedcbe76c81", func := "loop.example/g01325/laws.FnExactPlayKinds", spec := "fnExactPlayKinds", unfollowed := true, recurses := true, plainKeys := false, apart := false, narrowed := true }
def FnExactPlayKindsUptoSaid : Prop := fnExactPlayKindsUptoRow.holds Try.pinned (OpenSpec.upto fnExactPlayKindsSpec)

/-- 'laws.FnExactHardestPairs', WHERE WHAT IT READS IS OF BULK AT MOST 1048576: true; the input reads as it did. -/
def fnExactHardestPairsUptoRow : OpenClaim := { program := "ytoomacelbhojhaa", sum := "9508fd57cf2065cdb8172cde685bddab7bcb31e73ad3b149a2b83bedcbe76c81", func := "loop.example/g01325/laws.FnExactHardestPairs", spec := "fnExactHardestPairs", unfollowed := true, recurses := true, plainKeys := false, apart := false, narrowed := true }
def FnExactHardestPairsUptoSaid : Prop := fnExactHardestPairsUptoRow.holds Try.pinned (OpenSpec.upto fnExactHardestPairsSpec)

/-- 'laws.FnExactCostDrops', WHERE WHAT IT READS IS OF BULK AT MOST 1048576: true; the input reads as it did. -/
def fnExactCostDropsUptoRow : OpenClaim := { program := "ytoomacelbhojhaa", sum := "9508fd57cf2065cdb8172cde685bddab7bcb31e73ad3b149a2b83bedcbe76c81", func := "loop.example/g01325/laws.FnExactCostDrops", spec := "fnExactCostDrops", plainKeys := false, apart := false, narrowed := true }
def FnExactCostDropsUptoSaid : Prop := fnExactCostDropsUptoRow.holds Try.pinned (OpenSpec.upto fnExactCostDropsSpec)

/-- 'laws.FnExactCostliestBreaks', WHERE WHAT IT READS IS OF BULK AT MOST 1048576: true; the input reads as it did. -/
def fnExactCostliestBreaksUptoRow : OpenClaim := { program := "ytoomacelbhojhaa", sum := "9508fd57cf2065cdb8172cde685bddab7bcb31e73ad3b149a2b83bedcbe76c81", func := "loop.example/g01325/laws.FnExactCostliestBreaks", spec := "fnExactCostliestBreaks", unfollowed := true, recurses := true, plainKeys := false, apart := false, narrowed := true }
def FnExactCostliestBreaksUptoSaid : Prop := fnExactCostliestBreaksUptoRow.holds Try.pinned (OpenSpec.upto fnExactCostliestBreaksSpec)

/-- 'laws.FnExactFirstHouseDrop', WHERE WHAT IT READS IS OF BULK AT MOST 1048576: true; the input reads as it did. -/
def fnExactFirstHouseDropUptoRow : OpenClaim := { program := "ytoomacelbhojhaa", sum := "9508fd57cf2065cdb8172cde685bddab7bcb31e73ad3b149a2b83bedcbe76c81", func := "loop.example/g01325/laws.FnExactFirstHouseDrop", spec := "fnExactFirstHouseDrop", unfollowed := true, recurses := true, plainKeys := false, apart := false, narrowed := true }
def FnExactFirstHouseDropUptoSaid : Prop := fnExactFirstHouseDropUptoRow.holds Try.pinned (OpenSpec.upto fnExactFirstHouseDropSpec)

/-- 'laws.FnExactGoodHouseDrops', WHERE WHAT IT READS IS OF BULK AT MOST 1048576: true; the input reads as it did. -/
def fnExactGoodHouseDropsUptoRow : OpenClaim := { program := "ytoomacelbhojhaa", sum := "9508fd57cf2065cdb8172cde685bddab7bcb31e73ad3b149a2b83bedcbe76c81", func := "loop.example/g01325/laws.FnExactGoodHouseDrops", spec := "fnExactGoodHouseDrops", unfollowed := true, recurses := true, plainKeys := false, apart := false, narrowed := true }
def FnExactGoodHouseDropsUptoSaid : Prop := fnExactGoodHouseDropsUptoRow.holds Try.pinned (OpenSpec.upto fnExactGoodHouseDropsSpec)

/-- 'laws.FnExactCountHouseDrops', WHERE WHAT IT READS IS OF BULK AT MOST 1048576: true; the input reads as it did. -/
def fnExactCountHouseDropsUptoRow : OpenClaim := { program := "ytoomacelbhojhaa", sum := "9508fd57cf2065cdb8172cde685bddab7bcb31e73ad3b149a2b83bedcbe76c81", func := "loop.example/g01325/laws.FnExactCountHouseDrops", spec := "fnExactCountHouseDrops", unfollowed := true, recurses := true, plainKeys := false, apart := false, narrowed := true }
def FnExactCountHouseDropsUptoSaid : Prop := fnExactCountHouseDropsUptoRow.holds Try.pinned (OpenSpec.upto fnExactCountHouseDropsSpec)

/-- 'laws.FnExactBrokenInHouses', WHERE WHAT IT READS IS OF BULK AT MOST 1048576: true; the input reads as it did. -/
def fnExactBrokenInHousesUptoRow : OpenClaim := { program := "ytoomacelbhojhaa", sum := "9508fd57cf2065cdb8172cde685bddab7bcb31e73ad3b149a2b83bedcbe76c81", func := "loop.example/g01325/laws.FnExactBrokenInHouses", spec := "fnExactBrokenInHouses", unfollowed := true, recurses := true, plainKeys := false, apart := false, narrowed := true }
def FnExactBrokenInHousesUptoSaid : Prop := fnExactBrokenInHousesUptoRow.holds Try.pinned (OpenSpec.upto fnExactBrokenInHousesSpec)

/-- 'laws.FnExactPlayHouses', WHERE WHAT IT READS IS OF BULK AT MOST 1048576: true; the input reads as it did. -/
def fnExactPlayHousesUptoRow : OpenClaim := { program := "ytoomacelbhojhaa", sum := "9508fd57cf2065cdb8172cde685bddab7bcb31e73ad3b149a2b83bedcbe76c81", func := "loop.example/g01325/laws.FnExactPlayHouses", spec := "fnExactPlayHouses", unfollowed := true, recurses := true, plainKeys := false, apart := false, narrowed := true }
def FnExactPlayHousesUptoSaid : Prop := fnExactPlayHousesUptoRow.holds Try.pinned (OpenSpec.upto fnExactPlayHousesSpec)

/-- 'laws.FnExactHardestHouses', WHERE WHAT IT READS IS OF BULK AT MOST 1048576: true; the input reads as it did. -/
def fnExactHardestHousesUptoRow : OpenClaim := { program := "ytoomacelbhojhaa", sum := "9508fd57cf2065cdb8172cde685bddab7bcb31e73ad3b149a2b83bedcbe76c81", func := "loop.example/g01325/laws.FnExactHardestHouses", spec := "fnExactHardestHouses", unfollowed := true, recurses := true, plainKeys := false, apart := false, narrowed := true }
def FnExactHardestHousesUptoSaid : Prop := fnExactHardestHousesUptoRow.holds Try.pinned (OpenSpec.upto fnExactHardestHousesSpec)

end Rows
end Go.Proofs.Ytoomacelbhojhaa
