/- The law FnExactGoodHouseDrops: for every argument the call returns true. No condition beside what a machine's values are. -/
import Derived.Test.YtoomacelbhojhaaHw
import Derived.Test.YtoomacelbhojhaaGemarks
import Derived.Test.YtoomacelbhojhaaGess
import Derived.Test.YtoomacelbhojhaaGeints
namespace Go.Proofs.Ytoomacelbhojhaa.Pure
open Go.RowKit Go.Proofs.Ytoomacelbhojhaa Go.Proofs.Ytoomacelbhojhaa.G Go.Proofs.YtoomacelbhojhaaW.PrintWords Go.Proofs.YtoomacelbhojhaaW.PrintLast Go.Proofs.YtoomacelbhojhaaW.PrintMore
set_option linter.unusedVariables false
set_option linter.unusedSimpArgs false

theorem goodH_nice (e : Int) (l : List Int) : ∃ G r2, goodH e l = (G, r2) ∧ G.length ≤ 100 ∧ ∀ x ∈ G, x.length ≤ 1000 := by
  unfold goodH
  split
  · rename_i h
    have hg := hAsk_good h
    have h1 := vLits_len (vOf e l) (vOf_good hg.1 hg.2.1)
    refine ⟨_, _, rfl, by omega, fun x hx => ?_⟩
    unfold vLits at hx
    obtain ⟨t, _, rfl⟩ := List.mem_map.1 hx
    simp [vLit]
  · exact ⟨_, _, rfl, by simp, by simp⟩
theorem walk_FnExactGoodHouseDrops (a0 : Int) (A1 : Option Addr) (c1 : Nat) (l1 : List Int) (w : World) (hr1 : Kd.C (Kd.int .i64) w A1 l1.length l1) (hc1 : l1.length ≤ c1) :
    Calls Try.prog 9 #[.int .i64 a0, .slice A1 l1.length c1] w fun e w' => e = .returned (.bool true) ∧ Below w.heap.size w w' := by
  have hm := Kd.C_max hr1
  by_cases hb : (l1.length : Int) ≤ 1000000
  · obtain ⟨G, r2, hG, hl, hX⟩ := goodH_nice a0 l1
    obtain ⟨F, F', Lx, t, f1, f2, f3, f4, f5, f6, f7, f8, f9⟩ := intFacts l1 (by omega) 4000000 (by omega) 101 (by omega) (by omega)
    exact hand_FnExactGoodHouseDrops 4000000 a0 A1 c1 l1 w hr1 hc1 F F' Lx t _ G r2 _ _ f1 f2 f3 f4 f5 f6 f7 f8 f9 (congrArg some hG) (congrArg some hG) (eqSS_self G (by omega) hX _ (by omega)) (markSS_some G (by omega) hX _) (heldSS_some G (by omega) hX _ (by omega)) (mSS_len _ _) (by have := totSS_nn G; omega) (by omega) hb
  · exact big_FnExactGoodHouseDrops a0 A1 c1 l1 w (by omega) (by omega)

end Go.Proofs.Ytoomacelbhojhaa.Pure
