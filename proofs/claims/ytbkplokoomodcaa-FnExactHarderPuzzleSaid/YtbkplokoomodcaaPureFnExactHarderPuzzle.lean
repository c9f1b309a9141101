/- The law FnExactHarderPuzzle: for every argument the call returns true. No condition beside what a machine's values are. -/
import Derived.Test.YtbkplokoomodcaaHw
import Derived.Test.YtbkplokoomodcaaHereach
import Derived.Test.YtbkplokoomodcaaHel1
import Derived.Test.YtbkplokoomodcaaHeclue
import Derived.Test.YtbkplokoomodcaaHesols
import Derived.Test.YtbkplokoomodcaaHeszPuzzle
import Derived.Test.YtbkplokoomodcaaHemarksC
import Derived.Test.YtbkplokoomodcaaHeheldC
import Derived.Test.YtbkplokoomodcaaHewithoutP
namespace Go.Proofs.Ytbkplokoomodcaa.Pure
open Go.RowKit Go.Proofs.Ytbkplokoomodcaa Go.Proofs.Ytbkplokoomodcaa.H Go.Proofs.YtbkplokoomodcaaW.PrintWords Go.Proofs.YtbkplokoomodcaaW.PrintLast Go.Proofs.YtbkplokoomodcaaW.PrintMore
set_option linter.unusedVariables false
set_option linter.unusedSimpArgs false

theorem pzSolved_some (fl : Int) (cs : List S25) (hcs : cs.length ≤ 6) (hk : ∀ x ∈ cs, okA fl x.f0 x.f1) (hf0 : 0 ≤ fl) (hf1 : fl ≤ 1000) (k : Nat) (h : 23000 ≤ k) : spec_pzSolved.f k fl cs = some (((solsF fl cs).length : Int) == 1) := by
  unfold spec_pzSolved.f
  rw [pzAll_some fl cs hcs hk hf0 hf1 k h]
  rfl
theorem hardF_len (fl : Int) (n : Nat) (cs : List S25) (i : Nat) : (hardF fl n cs i).length ≤ cs.length := by
  induction n generalizing cs i with
  | zero => exact Nat.le_refl _
  | succ n ih =>
    unfold hardF
    split
    · refine Nat.le_trans (ih _ _) ?_
      unfold woutH
      rw [List.length_append, List.length_take, List.length_drop]
      omega
    · exact ih _ _
theorem hard_l0 (fl : Int) (L0 : List S25) (hf0 : 1 ≤ fl) (hf1 : fl ≤ 40) (n : Nat) : ∀ (cs : List S25) (i k : Nat), i + n = cs.length → cs.length ≤ 6 → (∀ x ∈ cs, okA fl x.f0 x.f1) → 23001 + n < k → spec_HarderPuzzle.l0 k cs (i : Int) fl L0 = some (fl, hardF fl n cs i, true) := by
  induction n with
  | zero =>
    intro cs i k h1 h2 h3 hk
    obtain ⟨k, rfl⟩ : ∃ m, k = m + 1 := ⟨k - 1, by omega⟩
    rw [spec_HarderPuzzle.l0, if_neg (by omega), hardF]
  | succ n ih =>
    intro cs i k h1 h2 h3 hk
    obtain ⟨k, rfl⟩ : ∃ m, k = m + 1 := ⟨k - 1, by omega⟩
    have hwl : (woutH cs i).length = cs.length - 1 := woutH_len (by omega)
    have hwo : ∀ x ∈ woutH cs i, okA fl x.f0 x.f1 := fun x hx => h3 x (by
      unfold woutH at hx
      rcases List.mem_append.1 hx with h | h
      · exact List.mem_of_mem_take h
      · exact List.mem_of_mem_drop h)
    rw [spec_HarderPuzzle.l0, if_pos (by omega)]
    refine Hw.bind_of (pzWithoutP cs (by omega) i (by omega)) ?_
    refine Hw.bind_of (pzSolved_some fl _ (show (woutH cs i).length ≤ 6 by omega) hwo (by omega) (by omega) k (by omega)) ?_
    rw [hardF]
    by_cases he : ((solsF fl (woutH cs i)).length : Int) = 1
    · rw [if_pos (beq_iff_eq.2 he), if_pos he]
      exact ih (woutH cs i) i k (by omega) (by omega) hwo (by omega)
    · rw [if_neg (by simpa using he), if_neg he, Hw.wrap_id (by omega) (by omega)]
      have h := ih cs (i + 1) k (by omega) h2 h3 (by omega)
      rw [show ((i : Int) + 1) = ((i + 1 : Nat) : Int) by omega, h]
theorem eq_HarderPuzzle (a0 : Int) (L : List S25) (hL : L.length ≤ 1000000) : ∃ r1 G r2, ∃ k0, (∀ k, k0 ≤ k → spec_HarderPuzzle.f k a0 L = some (r1, G, r2)) ∧ impl_HarderPuzzle.f a0 L = some (r1, G, r2) ∧ G.length ≤ 1000000 := by
  obtain ⟨q, hq⟩ : ∃ q, impl_IsPuzzle.f a0 L = some q := ⟨_, rfl⟩
  cases q with
  | false =>
    refine ⟨0, [], false, 1000003, fun k hk => ?_, ?_, by simp⟩
    · obtain ⟨k, rfl⟩ : ∃ m, k = m + 1 := ⟨k - 1, by omega⟩
      unfold spec_HarderPuzzle.f
      rw [pzGood_some a0 L hL (k + 1) (by omega), hq]
      rfl
    · unfold impl_HarderPuzzle.f impl_IsSolved.f impl_CountSolutions.f impl_Solutions.f
      rw [hq]
      rfl
  | true =>
    obtain ⟨q0, q1, q2, q3⟩ := isPuzzle_ok hq
    have hs : impl_IsSolved.f a0 L = some (((solsF a0 L).length : Int) == 1, true) := by
      unfold impl_IsSolved.f impl_CountSolutions.f impl_Solutions.f
      rw [hq]
      rfl
    unfold impl_HarderPuzzle.f
    rw [hs, Option.bind_some]
    by_cases he : ((solsF a0 L).length : Int) = 1
    · refine ⟨a0, hardF a0 L.length L 0, true, 1000003, fun k hk => ?_, by simp [he], Nat.le_trans (hardF_len _ _ _ _) hL⟩
      obtain ⟨k, rfl⟩ : ∃ m, k = m + 1 := ⟨k - 1, by omega⟩
      unfold spec_HarderPuzzle.f
      rw [pzGood_some a0 L hL (k + 1) (by omega), hq, Option.bind_some, if_pos rfl, pzSolved_some a0 L q2 q3 (by omega) (by omega) (k + 1) (by omega), Option.bind_some, spec_HarderPuzzle.j0, if_neg (by simp [he]), Option.bind_some, if_pos (by simp only [List.length_nil]; omega), List.nil_append]
      have h := hard_l0 a0 L q0 q1 L.length L 0 k (by omega) q2 q3 (by omega)
      simpa using h
    · refine ⟨0, [], false, 1000003, fun k hk => ?_, by simp [he], by simp⟩
      obtain ⟨k, rfl⟩ : ∃ m, k = m + 1 := ⟨k - 1, by omega⟩
      unfold spec_HarderPuzzle.f
      rw [pzGood_some a0 L hL (k + 1) (by omega), hq, Option.bind_some, if_pos rfl, pzSolved_some a0 L q2 q3 (by omega) (by omega) (k + 1) (by omega), Option.bind_some, spec_HarderPuzzle.j0, if_pos (by simp [he])]

theorem walk_FnExactHarderPuzzle (a0_0 : Int) (A0_1 : Option Addr) (c0_1 : Nat) (l0_1 : List S23) (w : World) (hr0_1 : Kd.C k23 w A0_1 l0_1.length l0_1) (hc0_1 : l0_1.length ≤ c0_1) :
    Calls Try.prog 17 #[.agg #[.int .i64 a0_0, .slice A0_1 l0_1.length c0_1]] w fun e w' => e = .returned (.bool true) ∧ Below w.heap.size w w' := by
  have hm := Kd.C_max hr0_1
  by_cases h : l0_1.length ≤ 1000000
  · have hr := Hw.room_le l0_1.length
    have hF : (fullClue l0_1).length = l0_1.length + Hw.room l0_1.length := by simp [fullClue]
    obtain ⟨r1, G, r2, k0, h1, h2, hG⟩ := eq_HarderPuzzle a0_0 (l0_1.map convClue) (by simpa using h)
    refine hand_FnExactHarderPuzzle (k0 + l0_1.length + Hw.room l0_1.length + G.length + 9) a0_0 A0_1 c0_1 l0_1 w hr0_1 hc0_1 (fullClue l0_1) (if l0_1.length = 0 then [] else fullClue l0_1) (l0_1.map convClue) _ (Hw.room l0_1.length) r1 G _ r2 _ _ _ (szPuzzle_small a0_0 l0_1 h) (by omega)
      (fullClue_some l0_1 false h (.inl rfl) _ (by omega)) ?_ (by simp) ?_ (fun h0 => if_neg h0) (fun h0 => if_pos h0) (room_some _) (by rw [hF, Hw.wrap_id (by omega) (by omega)]; omega) (eqClue_self _ (by omega) _ (by omega))
      (h1 _ (by omega)) h2 (eqPuzzle_self r1 G hG _ (by omega)) (markPuzzle_some a0_0 _ (by simpa using h) _ (by simp; omega)) (by omega) (markPuzzle_some r1 G hG _ (by omega)) (heldPuzzle_some r1 _ hG _ (by omega)) (by omega) (marksC_len _ _)
    · unfold fullClue
      rw [List.take_append_of_le_length (by simp), List.take_of_length_le (by simp)]
    · by_cases h0 : l0_1.length = 0
      · obtain rfl := List.eq_nil_of_length_eq_zero h0
        rw [show (if ([] : List S23).length = 0 then ([] : List S25) else fullClue []) = [] from rfl]
        exact fullClue_nil _ (by omega)
      · rw [if_neg h0]
        exact fullClue_some l0_1 true h (.inr h0) _ (by omega)
  · exact big_FnExactHarderPuzzle a0_0 A0_1 c0_1 l0_1 w hr0_1 hc0_1 (-1) (szPuzzle_big a0_0 l0_1 hm (by omega)) (by omega)

end Go.Proofs.Ytbkplokoomodcaa.Pure
