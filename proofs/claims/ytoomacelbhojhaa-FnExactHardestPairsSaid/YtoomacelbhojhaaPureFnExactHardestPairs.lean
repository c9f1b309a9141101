/- The law FnExactHardestPairs: for every argument the call returns true. No condition beside what a machine's values are. -/
import Derived.Test.YtoomacelbhojhaaHw
import Derived.Test.YtoomacelbhojhaaVemarks
import Derived.Test.YtoomacelbhojhaaVess
namespace Go.Proofs.Ytoomacelbhojhaa.Pure
open Go.RowKit Go.Proofs.Ytoomacelbhojhaa Go.Proofs.Ytoomacelbhojhaa.V Go.Proofs.YtoomacelbhojhaaW.PrintWords Go.Proofs.YtoomacelbhojhaaW.PrintLast Go.Proofs.YtoomacelbhojhaaW.PrintMore
set_option linter.unusedVariables false
set_option linter.unusedSimpArgs false

theorem hardScan_mem (cnt : List Int → Int) (P : List Int → Prop) : ∀ (l out : List (List Int)) (m : Int), (∀ x ∈ l, P x) → (∀ x ∈ out, P x) → ∀ x ∈ hardScan cnt l out m, P x
  | [], out, m, _, h => h
  | p :: ps, out, m, h1, h2 => by
    have hp := h1 p (by simp)
    have hs : ∀ x ∈ ps, P x := fun x hx => h1 x (by simp [hx])
    unfold hardScan
    split
    · exact hardScan_mem cnt P ps _ _ hs (by simpa using hp)
    · split
      · refine hardScan_mem cnt P ps _ _ hs (fun x hx => ?_)
        rcases List.mem_append.1 hx with h | h
        · exact h2 x h
        · rw [List.mem_singleton.1 h]; exact hp
      · exact hardScan_mem cnt P ps _ _ hs h2
theorem hardScan_len (cnt : List Int → Int) : ∀ (l out : List (List Int)) (m : Int), (hardScan cnt l out m).length ≤ out.length + l.length + 1
  | [], out, m => by unfold hardScan; omega
  | p :: ps, out, m => by
    unfold hardScan
    split
    · have := hardScan_len cnt ps [p] (cnt p); simp at this ⊢; omega
    · split
      · have := hardScan_len cnt ps (out ++ [p]) m; simp at this ⊢; omega
      · have := hardScan_len cnt ps out m; simp; omega
theorem walk_FnExactHardestPairs (a0 : Int) (a1 : Int) (a2 : Int) (w : World) :
    Calls Try.prog 5 #[.int .i64 a0, .int .i64 a1, .int .i64 a2] w fun e w' => e = .returned (.bool true) ∧ Below w.heap.size w w' := by
  obtain ⟨G, r2, hG, hl, hX⟩ : ∃ G r2, hardK a0 a1 a2 = (G, r2) ∧ G.length ≤ 100 ∧ ∀ x ∈ G, x.length ≤ 1000 := by
    unfold hardK
    split
    · rename_i h
      have hf := kAsk_fl h
      have h1 := pairs0_len a2 hf.1 hf.2
      have h2 := hardScan_len (fun p => ((playK a0 a1 a2 (p.getD 0 0) (p.getD 1 0)).length : Int)) (pairsF a2 []) [] 0
      refine ⟨_, _, rfl, by rw [List.length_nil] at h2; omega, hardScan_mem _ (fun x => x.length ≤ 1000) _ _ _ (fun x hx => ?_) (by simp)⟩
      obtain ⟨a, b, rfl⟩ := pairs0_two a2 x hx
      simp
    · exact ⟨_, _, rfl, by simp, by simp⟩
  exact hand_FnExactHardestPairs (G.length + 1002 + 9) a0 a1 a2 w G r2 _ _ (congrArg some hG) (congrArg some hG) (eqSS_self G (by omega) hX _ (by omega)) (markSS_some G (by omega) hX _) (heldSS_some G (by omega) hX _ (by omega)) (mSS_len _ _) (by have := totSS_nn G; omega)

end Go.Proofs.Ytoomacelbhojhaa.Pure
