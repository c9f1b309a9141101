/- The law FnExactAddClue: for every argument the call returns true. No condition beside what a machine's values are. -/
import Derived.Test.YtbkplokoomodcaaHw
import Derived.Test.YtbkplokoomodcaaA2el1
import Derived.Test.YtbkplokoomodcaaA2eclue
import Derived.Test.YtbkplokoomodcaaA2egood
import Derived.Test.YtbkplokoomodcaaA2eszPuzzle
import Derived.Test.YtbkplokoomodcaaA2emarksC
import Derived.Test.YtbkplokoomodcaaA2eheldC
namespace Go.Proofs.Ytbkplokoomodcaa.Pure
open Go.RowKit Go.Proofs.Ytbkplokoomodcaa Go.Proofs.Ytbkplokoomodcaa.A2 Go.Proofs.YtbkplokoomodcaaW.PrintWords Go.Proofs.YtbkplokoomodcaaW.PrintLast Go.Proofs.YtbkplokoomodcaaW.PrintMore
set_option linter.unusedVariables false
set_option linter.unusedSimpArgs false

theorem eq_AddClue (a0 : Int) (L : List S25) (b0 b1 b2 : Int) (hL : L.length ≤ 1000000) : ∃ r1 G r2, ∃ k0, (∀ k, k0 ≤ k → spec_AddClue.f k a0 L b0 b1 b2 = some (r1, G, r2)) ∧ impl_AddClue.f a0 L b0 b1 b2 = some (r1, G, r2) ∧ G.length ≤ 1000000 := by
  obtain ⟨q, hq⟩ : ∃ q, impl_IsPuzzle.f a0 L = some q := ⟨_, rfl⟩
  unfold impl_AddClue.f
  rw [hq, Option.bind_some]
  cases q with
  | false =>
    refine ⟨0, [], false, 1000003, fun k hk => ?_, rfl, by simp⟩
    unfold spec_AddClue.f
    rw [pzGood_some a0 L hL k (by omega), hq]
    rfl
  | true =>
    have hp : (1 ≤ a0 ∧ a0 ≤ 40) ∧ L.length ≤ 6 := by
      unfold impl_IsPuzzle.f at hq
      have h1 := Option.some.inj hq
      simp only [Bool.and_eq_true, decide_eq_true_eq] at h1
      exact h1.1
    have hc : impl_IsClue.f a0 b0 b1 b2 = spec_pzClue.f a0 b0 b1 b2 := by rw [isClue_eq, if_pos hp.1]
    obtain ⟨b, hb⟩ : ∃ b, spec_pzClue.f a0 b0 b1 b2 = some b := ⟨_, pzClue_some _ _ _ _⟩
    rw [if_pos rfl, hc, hb, Option.bind_some]
    cases b with
    | false =>
      refine ⟨0, [], false, 1000003, fun k hk => ?_, rfl, by simp⟩
      unfold spec_AddClue.f
      rw [pzGood_some a0 L hL k (by omega), hq, Option.bind_some, if_pos rfl, hb]
      rfl
    | true =>
      by_cases h6 : (L.length : Int) = 6
      · refine ⟨0, [], false, 1000003, fun k hk => ?_, ?_, by simp⟩
        · unfold spec_AddClue.f
          rw [pzGood_some a0 L hL k (by omega), hq, Option.bind_some, if_pos rfl, hb, Option.bind_some, if_pos rfl, if_pos h6]
        · rw [if_pos rfl, if_pos h6]
      · refine ⟨a0, L ++ [⟨b0, b1, b2⟩], true, 1000003, fun k hk => ?_, ?_, by simp; omega⟩
        · unfold spec_AddClue.f
          rw [pzGood_some a0 L hL k (by omega), hq, Option.bind_some, if_pos rfl, hb, Option.bind_some, if_pos rfl, if_neg h6, Option.bind_some, if_pos (by simp only [List.length_nil]; omega), Option.bind_some, Option.bind_some, if_pos (by simp only [List.nil_append, List.length_cons, List.length_nil]; omega), List.nil_append]
        · rw [if_pos rfl, if_neg h6]
          unfold impl_Clue_88.f
          rw [if_pos (by omega), Option.bind_some, Option.bind_some, if_pos (by simp only [List.length_cons, List.length_nil]; omega)]

theorem walk_FnExactAddClue (a0_0 : Int) (A0_1 : Option Addr) (c0_1 : Nat) (l0_1 : List S23) (a1_0 a1_1 a1_2 : Int) (w : World) (hr0_1 : Kd.C k23 w A0_1 l0_1.length l0_1) (hc0_1 : l0_1.length ≤ c0_1) :
    Calls Try.prog 6 #[.agg #[.int .i64 a0_0, .slice A0_1 l0_1.length c0_1], .agg #[.int .i64 a1_0, .int .i64 a1_1, .int .i64 a1_2]] w fun e w' => e = .returned (.bool true) ∧ Below w.heap.size w w' := by
  have hm := Kd.C_max hr0_1
  by_cases h : l0_1.length ≤ 1000000
  · have hr := Hw.room_le l0_1.length
    have hF : (fullClue l0_1).length = l0_1.length + Hw.room l0_1.length := by simp [fullClue]
    obtain ⟨r1, G, r2, k0, h1, h2, hG⟩ := eq_AddClue a0_0 (l0_1.map convClue) a1_0 a1_1 a1_2 (by simpa using h)
    refine hand_FnExactAddClue (k0 + l0_1.length + Hw.room l0_1.length + G.length + 9) a0_0 A0_1 c0_1 l0_1 a1_0 a1_1 a1_2 w hr0_1 hc0_1 (fullClue l0_1) (if l0_1.length = 0 then [] else fullClue l0_1) (l0_1.map convClue) _ (Hw.room l0_1.length) r1 G _ r2 _ _ _ (szPuzzle_small a0_0 l0_1 h) (by omega)
      (fullClue_some l0_1 false h (.inl rfl) _ (by omega)) ?_ (by simp) ?_ (fun h0 => if_neg h0) (fun h0 => if_pos h0) (room_some _) (by rw [hF, Hw.wrap_id (by omega) (by omega)]; omega) (eqClue_self _ (by omega) _ (by omega))
      (h1 _ (by omega)) h2 (eqPuzzle_self r1 G hG _ (by omega)) (markPuzzle_some a0_0 _ (by simpa using h) _ (by simp; omega)) (by omega) (markPuzzle_some r1 G hG _ (by omega)) (heldPuzzle_some r1 _ hG _ (by omega)) (by omega) (marksC_len _ _)
    · unfold fullClue
      rw [List.take_append_of_le_length (by simp), List.take_of_length_le (by simp)]
    · by_cases h0 : l0_1.length = 0
      · obtain rfl := List.eq_nil_of_length_eq_zero h0
        rw [show (if ([] : List S23).length = 0 then ([] : List S25) else fullClue []) = [] from rfl]
        exact fullClue_nil _ (by omega)
      · rw [if_neg h0]
        exact fullClue_some l0_1 true h (.inr h0) _ (by omega)
  · exact big_FnExactAddClue a0_0 A0_1 c0_1 l0_1 a1_0 a1_1 a1_2 w hr0_1 hc0_1 (-1) (szPuzzle_big a0_0 l0_1 hm (by omega)) (by omega)

end Go.Proofs.Ytbkplokoomodcaa.Pure
