/- The law FnExactBestClue: for every argument the call returns true. No condition beside what a machine's values are. -/
import Derived.Test.YtbkplokoomodcaaHw
import Derived.Test.YtbkplokoomodcaaBereach
import Derived.Test.YtbkplokoomodcaaBeclue
import Derived.Test.YtbkplokoomodcaaBesols
import Derived.Test.YtbkplokoomodcaaBeszPuzzle
namespace Go.Proofs.Ytbkplokoomodcaa.Pure
open Go.RowKit Go.Proofs.Ytbkplokoomodcaa Go.Proofs.Ytbkplokoomodcaa.B Go.Proofs.YtbkplokoomodcaaW.PrintWords Go.Proofs.YtbkplokoomodcaaW.PrintLast Go.Proofs.YtbkplokoomodcaaW.PrintMore
set_option linter.unusedVariables false
set_option linter.unusedSimpArgs false

theorem best_l0 (fl : Int) (L : List S25) (hL : L.length ≤ 6) (hk : ∀ x ∈ L, okA fl x.f0 x.f1) (hf0 : 0 ≤ fl) (hf1 : fl ≤ 40) (K : Nat) (hK : 23000 ≤ K) (n i : Nat) (hn : i + n = L.length) (b ms m : Int) (h0 : i = 0 → m = 1125899906842624) (h1 : 0 < i → ms = m) :
    spec_BestClue.l0 (K + n + 1) b ms (L.length : Int) (i : Int) fl L = some (bestFrom fl (L.drop i) i b m, true) := by
  induction n generalizing i b ms m with
  | zero => rw [spec_BestClue.l0, if_neg (by omega), List.drop_of_length_le (by omega), bestFrom]
  | succ n ih =>
    have hlt : i < L.length := by omega
    have hw : wrap64 ((i : Int) + 1) = ((i + 1 : Nat) : Int) := by rw [Hw.wrap_id (by omega) (by omega)]; omega
    have hc : (L.take (i + 1)).drop i = [L[i]] := by
      rw [List.drop_take, show i + 1 - i = 1 by omega, List.drop_eq_getElem_cons hlt]; rfl
    have hz : (solsF fl [L[i]]).length ≤ 41 := Nat.le_trans (solsFrom_len _ _ _ _) (by omega)
    rw [spec_BestClue.l0, if_pos (by omega), if_pos (by omega), hw, if_pos (by omega), if_pos (by omega), Int.toNat_natCast, Int.toNat_natCast, hc,
      pzAll_some fl [L[i]] (by simp) (fun x hx => by rw [List.mem_singleton.1 hx]; exact hk _ (List.getElem_mem hlt)) hf0 (by omega) _ (by omega), Option.bind_some, List.drop_eq_getElem_cons hlt, bestFrom, show K + (n + 1) = K + n + 1 by omega]
    have g1 := ih (i + 1) (by omega) i ((solsF fl [L[i]]).length : Int) ((solsF fl [L[i]]).length : Int) (by omega) (fun _ => rfl)
    by_cases hi : i = 0
    · rw [if_pos (by omega), if_pos (by rw [h0 hi]; omega), g1]
      rfl
    · rw [if_neg (by omega), h1 (by omega)]
      split
      · rw [g1]; rfl
      · have g2 := ih (i + 1) (by omega) b m m (by omega) (fun _ => rfl)
        rw [g2]; rfl
theorem eq_BestClue (a0 : Int) (L : List S25) (hL : L.length ≤ 1000000) : ∃ r1 r2, ∃ k0, (∀ k, k0 ≤ k → spec_BestClue.f k a0 L = some (r1, r2)) ∧ impl_BestClue.f a0 L = some (r1, r2) := by
  obtain ⟨q, hq⟩ : ∃ q, impl_IsPuzzle.f a0 L = some q := ⟨_, rfl⟩
  unfold impl_BestClue.f
  rw [hq, Option.bind_some]
  cases q with
  | false =>
    refine ⟨0, false, 1000003, fun k hk => ?_, rfl⟩
    obtain ⟨k, rfl⟩ : ∃ m, k = m + 1 := ⟨k - 1, by omega⟩
    unfold spec_BestClue.f
    rw [pzGood_some a0 L hL _ (by omega), hq, Option.bind_some, if_neg (by decide), spec_BestClue.j0, if_pos rfl]
  | true =>
    obtain ⟨q0, q1, q2, q3⟩ := isPuzzle_ok hq
    rw [if_pos rfl]
    by_cases hl : L.length = 0
    · rw [if_pos hl]
      refine ⟨0, false, 1000003, fun k hk => ?_, rfl⟩
      obtain ⟨k, rfl⟩ : ∃ m, k = m + 1 := ⟨k - 1, by omega⟩
      unfold spec_BestClue.f
      rw [pzGood_some a0 L hL _ (by omega), hq, Option.bind_some, if_pos rfl, spec_BestClue.j0, hl, if_pos (by decide)]
    · rw [if_neg hl]
      refine ⟨_, true, 1000003, fun k hk => ?_, rfl⟩
      obtain ⟨k, rfl⟩ : ∃ m, k = m + 1 := ⟨k - 1, by omega⟩
      unfold spec_BestClue.f
      rw [pzGood_some a0 L hL _ (by omega), hq, Option.bind_some, if_pos rfl, spec_BestClue.j0, if_neg (by rw [beq_eq_false_iff_ne.2 (show (L.length : Int) ≠ 0 by omega)]; decide)]
      have g := best_l0 a0 L q2 q3 (by omega) q1 (k - 1 - L.length) (by omega) L.length 0 (by omega) 0 0 1125899906842624 (fun _ => rfl) (fun h => absurd h (by omega))
      rw [show k - 1 - L.length + L.length + 1 = k by omega] at g
      simpa using g

theorem walk_FnExactBestClue (a0_0 : Int) (A0_1 : Option Addr) (c0_1 : Nat) (l0_1 : List S23) (w : World) (hr0_1 : Kd.C k23 w A0_1 l0_1.length l0_1) (hc0_1 : l0_1.length ≤ c0_1) :
    Calls Try.prog 12 #[.agg #[.int .i64 a0_0, .slice A0_1 l0_1.length c0_1]] w fun e w' => e = .returned (.bool true) ∧ Below w.heap.size w w' := by
  have hm := Kd.C_max hr0_1
  by_cases h : l0_1.length ≤ 1000000
  · have hr := Hw.room_le l0_1.length
    have hF : (fullClue l0_1).length = l0_1.length + Hw.room l0_1.length := by simp [fullClue]
    obtain ⟨r1, r2, k0, h1, h2⟩ := eq_BestClue a0_0 (l0_1.map convClue) (by simpa using h)
    refine hand_FnExactBestClue (k0 + l0_1.length + Hw.room l0_1.length + 9) a0_0 A0_1 c0_1 l0_1 w hr0_1 hc0_1 (fullClue l0_1) (if l0_1.length = 0 then [] else fullClue l0_1) (l0_1.map convClue) (Hw.room l0_1.length) _ _ _ (szPuzzle_small a0_0 l0_1 h) (by omega)
      (fullClue_some l0_1 false h (.inl rfl) _ (by omega)) ?_ (by simp) ?_ (fun h0 => if_neg h0) (fun h0 => if_pos h0) (room_some _) (by rw [hF, Hw.wrap_id (by omega) (by omega)]; omega) (eqClue_self _ (by omega) _ (by omega))
      (h1 _ (by omega)) h2
    · unfold fullClue
      rw [List.take_append_of_le_length (by simp), List.take_of_length_le (by simp)]
    · by_cases h0 : l0_1.length = 0
      · obtain rfl := List.eq_nil_of_length_eq_zero h0
        rw [show (if ([] : List S23).length = 0 then ([] : List S25) else fullClue []) = [] from rfl]
        exact fullClue_nil _ (by omega)
      · rw [if_neg h0]
        exact fullClue_some l0_1 true h (.inr h0) _ (by omega)
  · exact big_FnExactBestClue a0_0 A0_1 c0_1 l0_1 w hr0_1 hc0_1 (-1) (szPuzzle_big a0_0 l0_1 hm (by omega)) (by omega)


end Go.Proofs.Ytbkplokoomodcaa.Pure
