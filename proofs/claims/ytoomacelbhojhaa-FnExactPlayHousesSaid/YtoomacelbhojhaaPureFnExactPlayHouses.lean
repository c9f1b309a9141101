/- The law FnExactPlayHouses: for every argument the call returns true. No condition beside what a machine's values are. -/
import Derived.Test.YtoomacelbhojhaaHw
import Derived.Test.YtoomacelbhojhaaAemarksM
import Derived.Test.YtoomacelbhojhaaAeints
import Derived.Test.YtoomacelbhojhaaAeints2
import Derived.Test.YtoomacelbhojhaaAemHouseDrop
namespace Go.Proofs.Ytoomacelbhojhaa.Pure
open Go.RowKit Go.Proofs.Ytoomacelbhojhaa Go.Proofs.Ytoomacelbhojhaa.A Go.Proofs.YtoomacelbhojhaaW.PrintWords Go.Proofs.YtoomacelbhojhaaW.PrintLast Go.Proofs.YtoomacelbhojhaaW.PrintMore
set_option linter.unusedVariables false
set_option linter.unusedSimpArgs false

theorem playH_nice (e : Int) (l bs : List Int) : ∃ G r2, playH e l bs = (G, r2) ∧ G.length ≤ 24 := by
  unfold playH
  cases ha : hAsk e l with
  | false => exact ⟨_, _, rfl, by simp⟩
  | true =>
    cases hb : hBs l bs with
    | false => exact ⟨_, _, rfl, by simp⟩
    | true =>
      have hg := (start_good ha hb).1
      have h1 := hPlay_len bs (vOf e l).ms (vOf e l) (fun _ => 0)
      have h2 : (vOf e l).ms ≤ 24 := by unfold VGood at hg; unfold VS.ms; omega
      exact ⟨_, _, rfl, Nat.le_trans h1 h2⟩
theorem walk_FnExactPlayHouses (a0 : Int) (A1 : Option Addr) (c1 : Nat) (l1 : List Int) (A2 : Option Addr) (c2 : Nat) (l2 : List Int) (w : World) (hr1 : Kd.C (Kd.int .i64) w A1 l1.length l1) (hc1 : l1.length ≤ c1) (hr2 : Kd.C (Kd.int .i64) w A2 l2.length l2) (hc2 : l2.length ≤ c2) (hw0 : (Lit.int .i64 a0).wf = true) (hw1 : l1.length * 8 ≤ 140737488351232) (hw1g : ∀ p_ ∈ l1, (Lit.int .i64 p_).wf = true) (hw2 : l2.length * 8 ≤ 140737488351232) (hw2g : ∀ p_ ∈ l2, (Lit.int .i64 p_).wf = true) :
    Calls Try.prog 12 #[.int .i64 a0, .slice A1 l1.length c1, .slice A2 l2.length c2] w fun e w' => e = .returned (.bool true) ∧ Below w.heap.size w w' := by
  by_cases hb : (l1.length : Int) + (l2.length : Int) ≤ 1000000
  · obtain ⟨G, r2, hG, hl⟩ := playH_nice a0 l1 l2
    obtain ⟨F, F', Lx, t, f1, f2, f3, f4, f5, f6, f7, f8, f9⟩ := intFacts l1 (by omega) 4000000 (by omega) 101 (by omega) (by omega)
    obtain ⟨D, D', Ly, s, g1, g2, g3, g4, g5, g6, g7, g8, g9⟩ := intFacts l2 (by omega) 4000000 (by omega) (101 + (l1.length : Int)) (by omega) (by omega)
    exact hand_FnExactPlayHouses 4000000 a0 A1 c1 l1 A2 c2 l2 w hr1 hc1 hr2 hc2 F F' Lx t _ D D' Ly s _ G r2 _ _ f1 f2 f3 f4 f5 f6 f7 f8 f9 g1 g2 g3 g4 g5 g6 g7 g8 g9 (congrArg some hG) (congrArg some hG) (eqHouseDrop_self G (by omega) _ (by omega)) (markHouseDrop_some G (by omega) _ (by omega)) (heldHouseDrop_some G.length (by omega) _ (by omega)) (marksHouseDrop_len _ _) (by omega) (by omega) hb
  · exact big_FnExactPlayHouses a0 A1 c1 l1 A2 c2 l2 w (by omega) (by omega)

end Go.Proofs.Ytoomacelbhojhaa.Pure
