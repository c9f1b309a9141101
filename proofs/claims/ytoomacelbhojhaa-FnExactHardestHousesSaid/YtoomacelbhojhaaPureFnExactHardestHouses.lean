/- The law FnExactHardestHouses: for every argument the call returns true. No condition beside what a machine's values are. -/
import Derived.Test.YtoomacelbhojhaaHw
import Derived.Test.YtoomacelbhojhaaUemarks
import Derived.Test.YtoomacelbhojhaaUess
import Derived.Test.YtoomacelbhojhaaUeints
import Derived.Test.YtoomacelbhojhaaUeints2
namespace Go.Proofs.Ytoomacelbhojhaa.Pure
open Go.RowKit Go.Proofs.Ytoomacelbhojhaa Go.Proofs.Ytoomacelbhojhaa.U Go.Proofs.YtoomacelbhojhaaW.PrintWords Go.Proofs.YtoomacelbhojhaaW.PrintLast Go.Proofs.YtoomacelbhojhaaW.PrintMore
set_option linter.unusedVariables false
set_option linter.unusedSimpArgs false

theorem hScan_mem (cnt : List Int → Int) (P : List Int → Prop) : ∀ (l out : List (List Int)) (m : Int), (∀ x ∈ l, P x) → (∀ x ∈ out, P x) → ∀ x ∈ hScan cnt l out m, P x
  | [], out, m, _, h => h
  | p :: ps, out, m, h1, h2 => by
    have hp := h1 p (by simp)
    have hs : ∀ x ∈ ps, P x := fun x hx => h1 x (by simp [hx])
    unfold hScan
    split
    · exact hScan_mem cnt P ps _ _ hs (by simpa using hp)
    · split
      · refine hScan_mem cnt P ps _ _ hs (fun x hx => ?_)
        rcases List.mem_append.1 hx with h | h
        · exact h2 x h
        · rw [List.mem_singleton.1 h]; exact hp
      · exact hScan_mem cnt P ps _ _ hs h2
theorem hScan_len (cnt : List Int → Int) : ∀ (l out : List (List Int)) (m : Int), (hScan cnt l out m).length ≤ out.length + l.length + 1
  | [], out, m => by unfold hScan; omega
  | p :: ps, out, m => by
    unfold hScan
    split
    · have := hScan_len cnt ps [p] (cnt p); simp at this ⊢; omega
    · split
      · have := hScan_len cnt ps (out ++ [p]) m; simp at this ⊢; omega
      · have := hScan_len cnt ps out m; simp; omega
theorem hardH_nice (e : Int) (l : List Int) : ∃ G r2, hardH e l = (G, r2) ∧ G.length ≤ 1000 ∧ ∀ x ∈ G, x.length ≤ 1000 := by
  unfold hardH
  cases ha : hAsk e l with
  | false => exact ⟨_, _, rfl, by simp, by simp⟩
  | true =>
    have hg := hAsk_good ha
    have h1 := allB_len hg.1
    have h2 := hScan_len (fun p => ((hPlay p (vOf e l).ms (vOf e l) (fun _ => 0)).length : Int)) (allB l) [] 0
    refine ⟨_, _, rfl, ?_, hScan_mem _ (fun x => x.length ≤ 1000) _ _ _ (fun x hx => ?_) (by simp)⟩
    · rw [List.length_nil] at h2
      exact Nat.le_trans h2 (by omega)
    · have := allB_mem x hx
      have := hg.1.2.1
      omega
theorem walk_FnExactHardestHouses (a0 : Int) (A1 : Option Addr) (c1 : Nat) (l1 : List Int) (w : World) (hr1 : Kd.C (Kd.int .i64) w A1 l1.length l1) (hc1 : l1.length ≤ c1) :
    Calls Try.prog 13 #[.int .i64 a0, .slice A1 l1.length c1] w fun e w' => e = .returned (.bool true) ∧ Below w.heap.size w w' := by
  have hm := Kd.C_max hr1
  by_cases hb : (l1.length : Int) ≤ 1000000
  · obtain ⟨G, r2, hG, hl, hX⟩ := hardH_nice a0 l1
    obtain ⟨F, F', Lx, t, f1, f2, f3, f4, f5, f6, f7, f8, f9⟩ := intFacts l1 (by omega) 4000000 (by omega) 101 (by omega) (by omega)
    exact hand_FnExactHardestHouses 4000000 a0 A1 c1 l1 w hr1 hc1 F F' Lx t _ G r2 _ _ f1 f2 f3 f4 f5 f6 f7 f8 f9 (congrArg some hG) (congrArg some hG) (eqSS_self G (by omega) hX _ (by omega)) (markSS_some G (by omega) hX _) (heldSS_some G (by omega) hX _ (by omega)) (mSS_len _ _) (by have := totSS_nn G; omega) (by omega) hb
  · exact big_FnExactHardestHouses a0 A1 c1 l1 w (by omega) (by omega)

end Go.Proofs.Ytoomacelbhojhaa.Pure
