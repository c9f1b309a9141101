/- The law FnExactCostliestBreaks: for every argument the call returns true. No condition beside what a machine's values are. -/
import Derived.Test.YtoomacelbhojhaaHw
import Derived.Test.YtoomacelbhojhaaEemarks
namespace Go.Proofs.Ytoomacelbhojhaa.Pure
open Go.RowKit Go.Proofs.Ytoomacelbhojhaa Go.Proofs.Ytoomacelbhojhaa.E Go.Proofs.YtoomacelbhojhaaW.PrintWords Go.Proofs.YtoomacelbhojhaaW.PrintLast Go.Proofs.YtoomacelbhojhaaW.PrintMore
set_option linter.unusedVariables false
set_option linter.unusedSimpArgs false

theorem FnExactCostliestBreaks : ∀ (a0_0 : Int) (a0_1 : Int) (a0_2 : Int) (a1 : Int) (a2 : Int), (Lit.int .i64 a0_0).wf = true → (Lit.int .i64 a0_1).wf = true → (Lit.int .i64 a0_2).wf = true → (Lit.int .i64 a1).wf = true → (Lit.int .i64 a2).wf = true → ∃ k, laws_FnExactCostliestBreaks.f k a0_0 a0_1 a0_2 a1 a2 = some true := by
  intro a0 a1 a2 a3 a4 _ _ _ _ _
  obtain ⟨L, b, hL, hl⟩ : ∃ L b, spec_CostliestBreaks.f a0 a1 a2 a3 a4 = some (L, b) ∧ L.length ≤ 61 := by
    unfold spec_CostliestBreaks.f costliest
    split
    · rename_i h
      have hA := of_decide_eq_true h
      exact ⟨_, _, rfl, Nat.le_trans (gOut_len _ _) (by omega)⟩
    · exact ⟨_, _, rfl, Nat.zero_le _⟩
  have hI : impl_CostliestBreaks.f a0 a1 a2 a3 a4 = some (L, b) := hL
  refine ⟨70 + 1 + 1, ?_⟩
  unfold laws_FnExactCostliestBreaks.f laws_toPrices.f
  simp only [Option.bind_some]
  rw [hL, Option.bind_some, hI, Option.bind_some, eqInt_self L (by omega) _ (by omega), Option.bind_some, if_pos rfl]
  simp only [bne_self_eq_false]
  rw [laws_FnExactCostliestBreaks.j0, if_neg (by decide), markInt_some L (by omega) _ (by omega), Option.bind_some, heldInt_some _ (by omega) _ (by omega), Option.bind_some, if_neg (by omega), if_pos rfl]
  unfold laws_toPrices.f
  simp only [Option.bind_some]
  rw [hI, Option.bind_some, eqInt_self L (by omega) _ (by omega), Option.bind_some, if_pos rfl]
  simp only [bne_self_eq_false]
  rw [laws_FnExactCostliestBreaks.j1, if_neg (by decide), heldInt_some _ (by omega) _ (by omega), Option.bind_some, if_neg (by omega), if_pos rfl]

end Go.Proofs.Ytoomacelbhojhaa.Pure
