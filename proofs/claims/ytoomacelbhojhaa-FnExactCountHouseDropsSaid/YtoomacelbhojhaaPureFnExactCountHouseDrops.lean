/- The law FnExactCountHouseDrops: for every argument the call returns true. No condition beside what a machine's values are. -/
import Derived.Test.YtoomacelbhojhaaHw
import Derived.Test.YtoomacelbhojhaaBeints
namespace Go.Proofs.Ytoomacelbhojhaa.Pure
open Go.RowKit Go.Proofs.Ytoomacelbhojhaa Go.Proofs.Ytoomacelbhojhaa.B Go.Proofs.YtoomacelbhojhaaW.PrintWords Go.Proofs.YtoomacelbhojhaaW.PrintLast Go.Proofs.YtoomacelbhojhaaW.PrintMore
set_option linter.unusedVariables false
set_option linter.unusedSimpArgs false

theorem playH_nice (e : Int) (l bs : List Int) : ∃ G r2, playH e l bs = (G, r2) ∧ G.length ≤ 24 := by
  unfold playH
  cases ha : hAsk e l with
  | false => exact ⟨_, _, rfl, by simp⟩
  | true =>
    cases hb : hBs l bs with
    | false => exact ⟨_, _, rfl, by simp⟩
    | true =>
      have hg := (start_good ha hb).1
      have h1 := hPlay_len bs (vOf e l).ms (vOf e l) (fun _ => 0)
      have h2 : (vOf e l).ms ≤ 24 := by unfold VGood at hg; unfold VS.ms; omega
      exact ⟨_, _, rfl, Nat.le_trans h1 h2⟩
theorem count_impl (e : Int) (l bs : List Int) {G : List S104} {r2 : Bool} (hG : playH e l bs = (G, r2)) : impl_CountHouseDrops.f e l bs = some ((G.length : Int), r2) := by
  unfold impl_CountHouseDrops.f
  rw [show impl_PlayHouses.f e l bs = some (playH e l bs) from rfl, hG]
  rfl
theorem playH_none {e : Int} {l bs : List Int} {G : List S104} (hG : playH e l bs = (G, false)) : G = [] := by
  unfold playH at hG
  split at hG
  · injection hG with _ h; cases h
  · injection hG with h _; exact h.symm
theorem count_spec (e : Int) (l bs : List Int) {G : List S104} {r2 : Bool} (hG : playH e l bs = (G, r2)) : spec_CountHouseDrops.f e l bs = some ((G.length : Int), r2) := by
  unfold spec_CountHouseDrops.f
  rw [show spec_PlayHouses.f e l bs = some (playH e l bs) from rfl, hG]
  cases r2 with
  | true => rfl
  | false => rw [playH_none hG]; rfl
theorem walk_FnExactCountHouseDrops (a0 : Int) (A1 : Option Addr) (c1 : Nat) (l1 : List Int) (A2 : Option Addr) (c2 : Nat) (l2 : List Int) (w : World) (hr1 : Kd.C (Kd.int .i64) w A1 l1.length l1) (hc1 : l1.length ≤ c1) (hr2 : Kd.C (Kd.int .i64) w A2 l2.length l2) (hc2 : l2.length ≤ c2) (hw0 : (Lit.int .i64 a0).wf = true) (hw1 : l1.length * 8 ≤ 140737488351232) (hw1g : ∀ p_ ∈ l1, (Lit.int .i64 p_).wf = true) (hw2 : l2.length * 8 ≤ 140737488351232) (hw2g : ∀ p_ ∈ l2, (Lit.int .i64 p_).wf = true) :
    Calls Try.prog 10 #[.int .i64 a0, .slice A1 l1.length c1, .slice A2 l2.length c2] w fun e w' => e = .returned (.bool true) ∧ Below w.heap.size w w' := by
  by_cases hb : (l1.length : Int) + (l2.length : Int) ≤ 1000000
  · obtain ⟨G, r2, hG, hl⟩ := playH_nice a0 l1 l2
    obtain ⟨F, F', t, f1, f2, f3, f4, f5, f6, f7, f8⟩ := intFacts0 l1 (by omega) 4000000 (by omega)
    obtain ⟨D, D', s, g1, g2, g3, g4, g5, g6, g7, g8⟩ := intFacts0 l2 (by omega) 4000000 (by omega)
    exact hand_FnExactCountHouseDrops 4000000 a0 A1 c1 l1 A2 c2 l2 w hr1 hc1 hr2 hc2 F F' [] t 0 D D' [] s 0 _ _ f1 f2 f3 f4 f5 f6 f7 f8 g1 g2 g3 g4 g5 g6 g7 g8 (count_spec a0 l1 l2 hG) (count_impl a0 l1 l2 hG) hb
  · exact big_FnExactCountHouseDrops a0 A1 c1 l1 A2 c2 l2 w (by omega) (by omega)

end Go.Proofs.Ytoomacelbhojhaa.Pure
