/- The law FnExactDoesFit over plain numbers: the program's DoesFit and the reference's answer alike. No condition beside what a machine's values are. -/
import Derived.Test.YtbkplokoomodcaaDereach
import Derived.Test.YtbkplokoomodcaaDeclue
namespace Go.Proofs.Ytbkplokoomodcaa.Pure
open Go.RowKit Go.Proofs.Ytbkplokoomodcaa Go.Proofs.Ytbkplokoomodcaa.D Go.Proofs.YtbkplokoomodcaaW.PrintWords Go.Proofs.YtbkplokoomodcaaW.PrintLast Go.Proofs.YtbkplokoomodcaaW.PrintMore
set_option linter.unusedVariables false
set_option linter.unusedSimpArgs false

theorem doesFit_eq (fl k a v br : Int) : spec_DoesFit.f 14000 fl k a v br = impl_DoesFit.f fl k a v br := by
  unfold spec_DoesFit.f impl_DoesFit.f spec_pzHidden.f
  rw [pzFloors_some, Option.bind_some, isClue_eq]
  by_cases h1 : 1 ≤ fl ∧ fl ≤ 40
  · rw [if_pos (by simp [h1]), l1In_some, Option.bind_some, Option.bind_some, if_pos h1]
    by_cases h2 : 0 ≤ br ∧ br ≤ fl
    · rw [if_pos (by simp [h2]), pzClue_some, Option.bind_some]
      cases h3 : (spec_pzClue.f fl k a v).getD false with
      | false => rw [if_neg (by simp), if_neg (by simp)]
      | true =>
        have h4 : impl_IsClue.f fl k a v = some true := by rw [isClue_eq, if_pos h1, pzClue_some, h3]
        obtain ⟨_, _, hok⟩ := isClue_ok h4
        rw [if_pos rfl, if_pos ⟨rfl, h2⟩, pzFits_some fl k a v br hok (by omega) (by omega) h2.1 h2.2 14000 (Nat.le_refl _)]
        rfl
    · rw [if_neg (by simp; omega), if_neg (fun h => h2 h.2)]
  · rw [if_neg (by simp; omega), Option.bind_some, if_neg (by simp), if_neg (fun h => by rw [if_neg h1] at h; exact absurd h.1 (by simp))]
theorem doesFit_some (fl k a v br : Int) : ∃ r, impl_DoesFit.f fl k a v br = some r := by
  unfold impl_DoesFit.f
  split
  · exact ⟨_, rfl⟩
  · exact ⟨_, rfl⟩

theorem FnExactDoesFit : ∀ (a0 : Int) (a1_0 : Int) (a1_1 : Int) (a1_2 : Int) (a2 : Int), (Lit.int .i64 a0).wf = true → (Lit.int .i64 a1_0).wf = true → (Lit.int .i64 a1_1).wf = true → (Lit.int .i64 a1_2).wf = true → (Lit.int .i64 a2).wf = true → ∃ k, laws_FnExactDoesFit.f k a0 a1_0 a1_1 a1_2 a2 = some true := by
  intro a b c d e _ _ _ _ _
  obtain ⟨⟨r1, r2⟩, hr⟩ := doesFit_some a b c d e
  refine ⟨14000, ?_⟩
  unfold laws_FnExactDoesFit.f laws_toClue.f
  simp only [Option.bind_some, doesFit_eq, hr]
  simp

end Go.Proofs.Ytbkplokoomodcaa.Pure
