/- The law FnExactDropClue: for every argument the call returns true. No condition beside what a machine's values are. -/
import Derived.Test.YtbkplokoomodcaaHw
import Derived.Test.YtbkplokoomodcaaD2el1
import Derived.Test.YtbkplokoomodcaaD2eclue
import Derived.Test.YtbkplokoomodcaaD2egood
import Derived.Test.YtbkplokoomodcaaD2eszPuzzle
import Derived.Test.YtbkplokoomodcaaD2emarksC
import Derived.Test.YtbkplokoomodcaaD2eheldC
import Derived.Test.YtbkplokoomodcaaD2ewithoutP
namespace Go.Proofs.Ytbkplokoomodcaa.Pure
open Go.RowKit Go.Proofs.Ytbkplokoomodcaa Go.Proofs.Ytbkplokoomodcaa.D2 Go.Proofs.YtbkplokoomodcaaW.PrintWords Go.Proofs.YtbkplokoomodcaaW.PrintLast Go.Proofs.YtbkplokoomodcaaW.PrintMore
set_option linter.unusedVariables false
set_option linter.unusedSimpArgs false

theorem eq_DropClue (a0 : Int) (L : List S25) (a1 : Int) (hL : L.length ≤ 1000000) : ∃ r1 G r2, ∃ k0, (∀ k, k0 ≤ k → spec_DropClue.f k a0 L a1 = some (r1, G, r2)) ∧ impl_DropClue.f a0 L a1 = some (r1, G, r2) ∧ G.length ≤ 1000000 := by
  obtain ⟨q, hq⟩ : ∃ q, impl_IsPuzzle.f a0 L = some q := ⟨_, rfl⟩
  unfold impl_DropClue.f
  rw [hq, Option.bind_some]
  cases q with
  | false =>
    refine ⟨0, [], false, 1000003, fun k hk => ?_, rfl, by simp⟩
    unfold spec_DropClue.f
    rw [pzGood_some a0 L hL k (by omega), hq]
    rfl
  | true =>
    have h6 : L.length ≤ 6 := by
      unfold impl_IsPuzzle.f at hq
      have h1 := Option.some.inj hq
      simp only [Bool.and_eq_true, decide_eq_true_eq] at h1
      exact h1.1.2
    by_cases hi : 0 ≤ a1 ∧ a1 < (L.length : Int)
    · have hw : impl_within.f a1 0 (wrap64 ((L.length : Int) - 1)) = some true := by
        rw [in_eq, l1In_some, Hw.wrap_id (by omega) (by omega)]
        simp; omega
      obtain ⟨i, rfl⟩ : ∃ i : Nat, a1 = i := ⟨a1.toNat, by omega⟩
      refine ⟨a0, L.take i ++ L.drop (i + 1), true, 1000003, fun k hk => ?_, ?_, ?_⟩
      · unfold spec_DropClue.f
        rw [pzGood_some a0 L hL k (by omega), hq, Option.bind_some, if_pos rfl, ← in_eq, hw, Option.bind_some, if_pos rfl, pzWithoutP L (by omega) i (by omega)]
        rfl
      · rw [if_pos rfl, hw, Option.bind_some, if_pos rfl]
        unfold impl_withoutClue.f
        rw [if_pos (by omega), Int.toNat_natCast]
        rfl
      · rw [List.length_append, List.length_take, List.length_drop]; omega
    · have hw : impl_within.f a1 0 (wrap64 ((L.length : Int) - 1)) = some false := by
        rw [in_eq, l1In_some, Hw.wrap_id (by omega) (by omega)]
        simp; omega
      refine ⟨0, [], false, 1000003, fun k hk => ?_, ?_, by simp⟩
      · unfold spec_DropClue.f
        rw [pzGood_some a0 L hL k (by omega), hq, Option.bind_some, if_pos rfl, ← in_eq, hw]
        rfl
      · rw [if_pos rfl, hw]
        rfl

theorem walk_FnExactDropClue (a0_0 : Int) (A0_1 : Option Addr) (c0_1 : Nat) (l0_1 : List S23) (a1 : Int) (w : World) (hr0_1 : Kd.C k23 w A0_1 l0_1.length l0_1) (hc0_1 : l0_1.length ≤ c0_1) :
    Calls Try.prog 7 #[.agg #[.int .i64 a0_0, .slice A0_1 l0_1.length c0_1], .int .i64 a1] w fun e w' => e = .returned (.bool true) ∧ Below w.heap.size w w' := by
  have hm := Kd.C_max hr0_1
  by_cases h : l0_1.length ≤ 1000000
  · have hr := Hw.room_le l0_1.length
    have hF : (fullClue l0_1).length = l0_1.length + Hw.room l0_1.length := by simp [fullClue]
    obtain ⟨r1, G, r2, k0, h1, h2, hG⟩ := eq_DropClue a0_0 (l0_1.map convClue) a1 (by simpa using h)
    refine hand_FnExactDropClue (k0 + l0_1.length + Hw.room l0_1.length + G.length + 9) a0_0 A0_1 c0_1 l0_1 a1 w hr0_1 hc0_1 (fullClue l0_1) (if l0_1.length = 0 then [] else fullClue l0_1) (l0_1.map convClue) _ (Hw.room l0_1.length) r1 G _ r2 _ _ _ (szPuzzle_small a0_0 l0_1 h) (by omega)
      (fullClue_some l0_1 false h (.inl rfl) _ (by omega)) ?_ (by simp) ?_ (fun h0 => if_neg h0) (fun h0 => if_pos h0) (room_some _) (by rw [hF, Hw.wrap_id (by omega) (by omega)]; omega) (eqClue_self _ (by omega) _ (by omega))
      (h1 _ (by omega)) h2 (eqPuzzle_self r1 G hG _ (by omega)) (markPuzzle_some a0_0 _ (by simpa using h) _ (by simp; omega)) (by omega) (markPuzzle_some r1 G hG _ (by omega)) (heldPuzzle_some r1 _ hG _ (by omega)) (by omega) (marksC_len _ _)
    · unfold fullClue
      rw [List.take_append_of_le_length (by simp), List.take_of_length_le (by simp)]
    · by_cases h0 : l0_1.length = 0
      · obtain rfl := List.eq_nil_of_length_eq_zero h0
        rw [show (if ([] : List S23).length = 0 then ([] : List S25) else fullClue []) = [] from rfl]
        exact fullClue_nil _ (by omega)
      · rw [if_neg h0]
        exact fullClue_some l0_1 true h (.inr h0) _ (by omega)
  · exact big_FnExactDropClue a0_0 A0_1 c0_1 l0_1 a1 w hr0_1 hc0_1 (-1) (szPuzzle_big a0_0 l0_1 hm (by omega)) (by omega)

end Go.Proofs.Ytbkplokoomodcaa.Pure
