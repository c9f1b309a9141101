/- The law FnExactNeedlessClues: for every argument the call returns true. No condition beside what a machine's values are. -/
import Derived.Test.YtbkplokoomodcaaHw
import Derived.Test.YtbkplokoomodcaaNereach
import Derived.Test.YtbkplokoomodcaaNeclue
import Derived.Test.YtbkplokoomodcaaNesols
import Derived.Test.YtbkplokoomodcaaNeszPuzzle
import Derived.Test.YtbkplokoomodcaaNemarks
import Derived.Test.YtbkplokoomodcaaNemarksC
namespace Go.Proofs.Ytbkplokoomodcaa.Pure
open Go.RowKit Go.Proofs.Ytbkplokoomodcaa Go.Proofs.Ytbkplokoomodcaa.N Go.Proofs.YtbkplokoomodcaaW.PrintWords Go.Proofs.YtbkplokoomodcaaW.PrintLast Go.Proofs.YtbkplokoomodcaaW.PrintMore
set_option linter.unusedVariables false
set_option linter.unusedSimpArgs false

theorem pzWithout_some (L : List S25) (hl : L.length ≤ 1000) (i : Nat) (hi : i < L.length) : spec_pzWithout.f L (i : Int) = some (withoutL L i) := by
  unfold spec_pzWithout.f withoutL
  rw [Option.bind_some, if_pos (by omega), if_pos (by omega), Int.toNat_natCast, Option.bind_some, if_pos (by simp only [List.length_take, List.length_nil]; omega), Option.bind_some, Hw.wrap_id (by omega) (by omega), if_pos (by omega), if_pos (by omega), Option.bind_some, show ((i : Int) + 1).toNat = i + 1 by omega, if_pos (by simp only [List.nil_append, List.length_take, List.length_drop]; omega), List.nil_append]
theorem need_l0 (fl : Int) (L : List S25) (hl : L.length ≤ 6) (hok : ∀ x ∈ L, okA fl x.f0 x.f1) (hf0 : 1 ≤ fl) (hf1 : fl ≤ 40) (al : Int) (n : Nat) : ∀ (i : Nat) (xs : List Int) (k : Nat), i + n = L.length → xs.length ≤ i → 23001 + n < k → spec_NeedlessClues.l0 k xs al (L.length : Int) (i : Int) fl L = some (xs ++ needFrom fl L al n i, true) := by
  induction n with
  | zero =>
    intro i xs k h1 h2 hk
    obtain ⟨k, rfl⟩ : ∃ m, k = m + 1 := ⟨k - 1, by omega⟩
    rw [spec_NeedlessClues.l0, if_neg (by omega), needFrom, List.append_nil]
  | succ n ih =>
    intro i xs k h1 h2 hk
    obtain ⟨k, rfl⟩ : ∃ m, k = m + 1 := ⟨k - 1, by omega⟩
    have hw : (withoutL L i).length ≤ 6 := by unfold withoutL; rw [List.length_append, List.length_take, List.length_drop]; omega
    have hwo : ∀ x ∈ withoutL L i, okA fl x.f0 x.f1 := fun x hx => hok x (by
      unfold withoutL at hx
      rcases List.mem_append.1 hx with h | h
      · exact List.mem_of_mem_take h
      · exact List.mem_of_mem_drop h)
    rw [spec_NeedlessClues.l0, if_pos (by omega)]
    refine Hw.bind_of (pzWithout_some L (by omega) i (by omega)) ?_
    refine Hw.bind_of (pzAll_some fl _ hw hwo (by omega) (by omega) k (by omega)) ?_
    rw [needFrom]
    by_cases he : ((solsF fl (withoutL L i)).length : Int) = al
    · rw [if_pos he, if_pos he, if_pos (by omega), Hw.wrap_id (by omega) (by omega)]
      have h := ih (i + 1) (xs ++ [(i : Int)]) k (by omega) (by simp; omega) (by omega)
      rw [show ((i : Int) + 1) = ((i + 1 : Nat) : Int) by omega, h]
      simp
    · rw [if_neg he, if_neg he, Hw.wrap_id (by omega) (by omega)]
      have h := ih (i + 1) xs k (by omega) (by omega) (by omega)
      rw [show ((i : Int) + 1) = ((i + 1 : Nat) : Int) by omega, h]
theorem needFrom_len (fl : Int) (L : List S25) (al : Int) (n i : Nat) : (needFrom fl L al n i).length ≤ n := by
  induction n generalizing i with
  | zero => simp [needFrom]
  | succ n ih =>
    unfold needFrom
    split
    · rw [List.length_cons]; exact Nat.succ_le_succ (ih _)
    · exact Nat.le_succ_of_le (ih _)
theorem eq_NeedlessClues (a0 : Int) (L : List S25) (hL : L.length ≤ 1000000) : ∃ G r2, ∃ k0, (∀ k, k0 ≤ k → spec_NeedlessClues.f k a0 L = some (G, r2)) ∧ impl_NeedlessClues.f a0 L = some (G, r2) ∧ G.length ≤ 1000000 := by
  obtain ⟨q, hq⟩ : ∃ q, impl_IsPuzzle.f a0 L = some q := ⟨_, rfl⟩
  unfold impl_NeedlessClues.f
  rw [hq, Option.bind_some]
  cases q with
  | false =>
    refine ⟨[], false, 1000003, fun k hk => ?_, rfl, by simp⟩
    unfold spec_NeedlessClues.f
    rw [pzGood_some a0 L hL k (by omega), hq]
    rfl
  | true =>
    obtain ⟨q0, q1, q2, q3⟩ := isPuzzle_ok hq
    refine ⟨_, true, 1000003, fun k hk => ?_, rfl, Nat.le_trans (needFrom_len _ _ _ _ _) (by omega)⟩
    unfold spec_NeedlessClues.f
    rw [pzGood_some a0 L hL k (by omega), hq, Option.bind_some, if_pos rfl, pzAll_some a0 L q2 q3 (by omega) (by omega) k (by omega), Option.bind_some]
    have h := need_l0 a0 L q2 q3 q0 q1 (solsF a0 L).length L.length 0 [] k (by omega) (by simp) (by omega)
    simpa using h

theorem walk_FnExactNeedlessClues (a0_0 : Int) (A0_1 : Option Addr) (c0_1 : Nat) (l0_1 : List S23) (w : World) (hr0_1 : Kd.C k23 w A0_1 l0_1.length l0_1) (hc0_1 : l0_1.length ≤ c0_1) :
    Calls Try.prog 16 #[.agg #[.int .i64 a0_0, .slice A0_1 l0_1.length c0_1]] w fun e w' => e = .returned (.bool true) ∧ Below w.heap.size w w' := by
  have hm := Kd.C_max hr0_1
  by_cases h : l0_1.length ≤ 1000000
  · have hr := Hw.room_le l0_1.length
    have hF : (fullClue l0_1).length = l0_1.length + Hw.room l0_1.length := by simp [fullClue]
    obtain ⟨G, r2, k0, h1, h2, hG⟩ := eq_NeedlessClues a0_0 (l0_1.map convClue) (by simpa using h)
    refine hand_FnExactNeedlessClues (k0 + l0_1.length + Hw.room l0_1.length + G.length + 9) a0_0 A0_1 c0_1 l0_1 w hr0_1 hc0_1 (fullClue l0_1) (if l0_1.length = 0 then [] else fullClue l0_1) (l0_1.map convClue) _ (Hw.room l0_1.length) G _ r2 _ _ _ (szPuzzle_small a0_0 l0_1 h) (by omega)
      (fullClue_some l0_1 false h (.inl rfl) _ (by omega)) ?_ (by simp) ?_ (fun h0 => if_neg h0) (fun h0 => if_pos h0) (room_some _) (by rw [hF, Hw.wrap_id (by omega) (by omega)]; omega) (eqClue_self _ (by omega) _ (by omega))
      (h1 _ (by omega)) h2 (eqInt_self G hG _ (by omega)) (markPuzzle_some a0_0 _ (by simpa using h) _ (by simp; omega)) (by omega) (markInt_some G hG _ (by omega)) (heldInt_some _ hG _ (by omega)) (by omega) (marksI_len _ _)
    · unfold fullClue
      rw [List.take_append_of_le_length (by simp), List.take_of_length_le (by simp)]
    · by_cases h0 : l0_1.length = 0
      · obtain rfl := List.eq_nil_of_length_eq_zero h0
        rw [show (if ([] : List S23).length = 0 then ([] : List S25) else fullClue []) = [] from rfl]
        exact fullClue_nil _ (by omega)
      · rw [if_neg h0]
        exact fullClue_some l0_1 true h (.inr h0) _ (by omega)
  · exact big_FnExactNeedlessClues a0_0 A0_1 c0_1 l0_1 w hr0_1 hc0_1 (-1) (szPuzzle_big a0_0 l0_1 hm (by omega)) (by omega)


end Go.Proofs.Ytbkplokoomodcaa.Pure
