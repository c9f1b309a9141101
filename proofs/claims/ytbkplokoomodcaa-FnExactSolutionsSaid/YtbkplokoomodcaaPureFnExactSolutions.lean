/- The law FnExactSolutions: for every argument the call returns true. No condition beside what a machine's values are. -/
import Derived.Test.YtbkplokoomodcaaHw
import Derived.Test.YtbkplokoomodcaaSereach
import Derived.Test.YtbkplokoomodcaaSeclue
import Derived.Test.YtbkplokoomodcaaSesols
import Derived.Test.YtbkplokoomodcaaSeszPuzzle
import Derived.Test.YtbkplokoomodcaaSemarks
import Derived.Test.YtbkplokoomodcaaSemarksC
namespace Go.Proofs.Ytbkplokoomodcaa.Pure
open Go.RowKit Go.Proofs.Ytbkplokoomodcaa Go.Proofs.Ytbkplokoomodcaa.S Go.Proofs.YtbkplokoomodcaaW.PrintWords Go.Proofs.YtbkplokoomodcaaW.PrintLast Go.Proofs.YtbkplokoomodcaaW.PrintMore
set_option linter.unusedVariables false
set_option linter.unusedSimpArgs false

theorem eq_Solutions (a0 : Int) (L : List S25) (hL : L.length ≤ 1000000) : ∃ G r2, ∃ k0, (∀ k, k0 ≤ k → spec_Solutions.f k a0 L = some (G, r2)) ∧ impl_Solutions.f a0 L = some (G, r2) ∧ G.length ≤ 1000000 := by
  obtain ⟨q, hq⟩ : ∃ q, impl_IsPuzzle.f a0 L = some q := ⟨_, rfl⟩
  unfold impl_Solutions.f
  rw [hq, Option.bind_some]
  cases q with
  | false =>
    refine ⟨[], false, 1000003, fun k hk => ?_, rfl, by simp⟩
    unfold spec_Solutions.f
    rw [pzGood_some a0 L hL k (by omega), hq]
    rfl
  | true =>
    obtain ⟨q0, q1, q2, q3⟩ := isPuzzle_ok hq
    refine ⟨solsF a0 L, true, 1000003, fun k hk => ?_, rfl, Nat.le_trans (solsFrom_len _ _ _ _) (by omega)⟩
    unfold spec_Solutions.f
    rw [pzGood_some a0 L hL k (by omega), hq, Option.bind_some, if_pos rfl, pzAll_some a0 L q2 q3 (by omega) (by omega) k (by omega)]
    rfl

theorem walk_FnExactSolutions (a0_0 : Int) (A0_1 : Option Addr) (c0_1 : Nat) (l0_1 : List S23) (w : World) (hr0_1 : Kd.C k23 w A0_1 l0_1.length l0_1) (hc0_1 : l0_1.length ≤ c0_1) :
    Calls Try.prog 14 #[.agg #[.int .i64 a0_0, .slice A0_1 l0_1.length c0_1]] w fun e w' => e = .returned (.bool true) ∧ Below w.heap.size w w' := by
  have hm := Kd.C_max hr0_1
  by_cases h : l0_1.length ≤ 1000000
  · have hr := Hw.room_le l0_1.length
    have hF : (fullClue l0_1).length = l0_1.length + Hw.room l0_1.length := by simp [fullClue]
    obtain ⟨G, r2, k0, h1, h2, hG⟩ := eq_Solutions a0_0 (l0_1.map convClue) (by simpa using h)
    refine hand_FnExactSolutions (k0 + l0_1.length + Hw.room l0_1.length + G.length + 9) a0_0 A0_1 c0_1 l0_1 w hr0_1 hc0_1 (fullClue l0_1) (if l0_1.length = 0 then [] else fullClue l0_1) (l0_1.map convClue) _ (Hw.room l0_1.length) G _ r2 _ _ _ (szPuzzle_small a0_0 l0_1 h) (by omega)
      (fullClue_some l0_1 false h (.inl rfl) _ (by omega)) ?_ (by simp) ?_ (fun h0 => if_neg h0) (fun h0 => if_pos h0) (room_some _) (by rw [hF, Hw.wrap_id (by omega) (by omega)]; omega) (eqClue_self _ (by omega) _ (by omega))
      (h1 _ (by omega)) h2 (eqInt_self G hG _ (by omega)) (markPuzzle_some a0_0 _ (by simpa using h) _ (by simp; omega)) (by omega) (markInt_some G hG _ (by omega)) (heldInt_some _ hG _ (by omega)) (by omega) (marksI_len _ _)
    · unfold fullClue
      rw [List.take_append_of_le_length (by simp), List.take_of_length_le (by simp)]
    · by_cases h0 : l0_1.length = 0
      · obtain rfl := List.eq_nil_of_length_eq_zero h0
        rw [show (if ([] : List S23).length = 0 then ([] : List S25) else fullClue []) = [] from rfl]
        exact fullClue_nil _ (by omega)
      · rw [if_neg h0]
        exact fullClue_some l0_1 true h (.inr h0) _ (by omega)
  · exact big_FnExactSolutions a0_0 A0_1 c0_1 l0_1 w hr0_1 hc0_1 (-1) (szPuzzle_big a0_0 l0_1 hm (by omega)) (by omega)


end Go.Proofs.Ytbkplokoomodcaa.Pure
