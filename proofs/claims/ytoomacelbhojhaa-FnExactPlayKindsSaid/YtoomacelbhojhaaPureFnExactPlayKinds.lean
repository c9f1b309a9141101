/- The law FnExactPlayKinds: for every argument the call returns true. No condition beside what a machine's values are. -/
import Derived.Test.YtoomacelbhojhaaHw
import Derived.Test.YtoomacelbhojhaaPemKindTest
namespace Go.Proofs.Ytoomacelbhojhaa.Pure
open Go.RowKit Go.Proofs.Ytoomacelbhojhaa Go.Proofs.Ytoomacelbhojhaa.P Go.Proofs.YtoomacelbhojhaaW.PrintWords Go.Proofs.YtoomacelbhojhaaW.PrintLast Go.Proofs.YtoomacelbhojhaaW.PrintMore
set_option linter.unusedVariables false
set_option linter.unusedSimpArgs false

theorem kPlay_len (wk st : Int) : ∀ (n : Nat) (k : KS), (kPlay wk st n k).length ≤ n
  | 0, _ => Nat.le_refl _
  | n + 1, k => by
    unfold kPlay
    split
    · exact Nat.zero_le _
    · rw [List.length_cons]; exact Nat.succ_le_succ (kPlay_len wk st n _)
theorem FnExactPlayKinds : laws_FnExactPlayKinds.Pure := by
  intro a0 a1 a2 a3 a4 _ _ _ _ _
  obtain ⟨L, b, hL, hl⟩ : ∃ L b, spec_PlayKinds.f a0 a1 a2 a3 a4 = some (L, b) ∧ L.length ≤ 20 := by
    unfold spec_PlayKinds.f
    split
    · rename_i h
      refine ⟨_, _, rfl, ?_⟩
      have h1 := (kAsk_good (Bool.and_eq_true_iff.1 h).1).1
      have h2 : (kStart a0 a1 a2).ms ≤ 12 := by unfold KGood at h1; unfold KS.ms; omega
      have h3 := kPlay_len a3 a4 (kStart a0 a1 a2).ms (kStart a0 a1 a2)
      unfold playK
      rw [List.length_map]
      omega
    · exact ⟨_, _, rfl, Nat.zero_le _⟩
  have hI : impl_PlayKinds.f a0 a1 a2 a3 a4 = some (L, b) := hL
  refine ⟨30 + 1 + 1, ?_⟩
  unfold laws_FnExactPlayKinds.f
  rw [hL, Option.bind_some, hI, Option.bind_some, eqKindTest_self L (by omega) _ (by omega), Option.bind_some, if_pos rfl]
  simp only [bne_self_eq_false]
  rw [laws_FnExactPlayKinds.j0, if_neg (by decide), markKindTest_some L (by omega) _ (by omega), Option.bind_some, heldKindTest_some _ (by omega) _ (by omega), Option.bind_some, if_neg (by omega), if_pos rfl, hI, Option.bind_some, eqKindTest_self L (by omega) _ (by omega), Option.bind_some, if_pos rfl]
  simp only [bne_self_eq_false]
  rw [laws_FnExactPlayKinds.j1, if_neg (by decide), heldKindTest_some _ (by omega) _ (by omega), Option.bind_some, if_neg (by omega), if_pos rfl]

end Go.Proofs.Ytoomacelbhojhaa.Pure
