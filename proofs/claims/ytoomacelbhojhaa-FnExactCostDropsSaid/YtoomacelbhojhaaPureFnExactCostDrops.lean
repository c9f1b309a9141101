/- The law FnExactCostDrops: for every argument the call returns true. No condition beside what a machine's values are. -/
import Derived.Test.YtoomacelbhojhaaHw
import Derived.Test.YtoomacelbhojhaaDemDrop
namespace Go.Proofs.Ytoomacelbhojhaa.Pure
open Go.RowKit Go.Proofs.Ytoomacelbhojhaa Go.Proofs.Ytoomacelbhojhaa.D Go.Proofs.YtoomacelbhojhaaW.PrintWords Go.Proofs.YtoomacelbhojhaaW.PrintLast Go.Proofs.YtoomacelbhojhaaW.PrintMore
set_option linter.unusedVariables false
set_option linter.unusedSimpArgs false

theorem cDrops_len (p : CP) (br : Int) : ∀ k e n lo s, (cDrops p br k e n lo s).length ≤ k
  | 0, _, _, _, _ => Nat.le_refl _
  | k + 1, e, n, lo, s => by
    rw [cDrops]
    split
    · exact Nat.zero_le _
    · rw [List.length_cons]
      refine Nat.succ_le_succ ?_
      split
      · exact cDrops_len p br k _ _ _ _
      · exact cDrops_len p br k _ _ _ _
theorem FnExactCostDrops : ∀ (a0_0 : Int) (a0_1 : Int) (a0_2 : Int) (a1 : Int) (a2 : Int) (a3 : Int), (Lit.int .i64 a0_0).wf = true → (Lit.int .i64 a0_1).wf = true → (Lit.int .i64 a0_2).wf = true → (Lit.int .i64 a1).wf = true → (Lit.int .i64 a2).wf = true → (Lit.int .i64 a3).wf = true → ∃ k, laws_FnExactCostDrops.f k a0_0 a0_1 a0_2 a1 a2 a3 = some true := by
  intro a0 a1 a2 a3 a4 a5 _ _ _ _ _ _
  obtain ⟨L, b, hL, hl⟩ : ∃ L b, spec_CostDrops.f a0 a1 a2 a3 a4 a5 = some (L, b) ∧ L.length ≤ 60 := by
    unfold spec_CostDrops.f costDrops
    split
    · rename_i h
      have hA := of_decide_eq_true (Bool.and_eq_true_iff.1 h).1
      exact ⟨_, _, rfl, Nat.le_trans (cDrops_len _ _ _ _ _ _ _) (by omega)⟩
    · exact ⟨_, _, rfl, Nat.zero_le _⟩
  have hI : impl_CostDrops.f a0 a1 a2 a3 a4 a5 = some (L, b) := hL
  refine ⟨70 + 1 + 1, ?_⟩
  unfold laws_FnExactCostDrops.f laws_toPrices.f
  simp only [Option.bind_some]
  rw [hL, Option.bind_some, hI, Option.bind_some, eqDrop_self L (by omega) _ (by omega), Option.bind_some, if_pos rfl]
  simp only [bne_self_eq_false]
  rw [laws_FnExactCostDrops.j0, if_neg (by decide), markDrop_some L (by omega) _ (by omega), Option.bind_some, heldDrop_some _ (by omega) _ (by omega), Option.bind_some, if_neg (by omega), if_pos rfl]
  unfold laws_toPrices.f
  simp only [Option.bind_some]
  rw [hI, Option.bind_some, eqDrop_self L (by omega) _ (by omega), Option.bind_some, if_pos rfl]
  simp only [bne_self_eq_false]
  rw [laws_FnExactCostDrops.j1, if_neg (by decide), heldDrop_some _ (by omega) _ (by omega), Option.bind_some, if_neg (by omega), if_pos rfl]

end Go.Proofs.Ytoomacelbhojhaa.Pure
