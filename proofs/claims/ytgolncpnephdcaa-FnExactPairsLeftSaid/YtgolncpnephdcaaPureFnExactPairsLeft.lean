/- The law FnExactPairsLeft: for every argument the call returns true. No condition beside what a machine's values are. -/
import Derived.Test.YtgolncpnephdcaaHw
import Derived.Test.YtgolncpnephdcaaPel1i
import Derived.Test.YtgolncpnephdcaaPekinds
import Derived.Test.YtgolncpnephdcaaPepairs
import Derived.Test.YtgolncpnephdcaaPemarks
import Derived.Test.YtgolncpnephdcaaPemarksK
import Derived.Test.YtgolncpnephdcaaPess
namespace Go.Proofs.Ytgolncpnephdcaa.Pure
open Go.RowKit Go.Proofs.Ytgolncpnephdcaa Go.Proofs.Ytgolncpnephdcaa.P Go.Proofs.YtgolncpnephdcaaW.PrintWords Go.Proofs.YtgolncpnephdcaaW.PrintLast Go.Proofs.YtgolncpnephdcaaW.PrintMore
set_option linter.unusedVariables false
set_option linter.unusedSimpArgs false

theorem pairsRow_two (L : List S65) (wk : Int) (n : Nat) (s : Int) : ∀ x ∈ pairsRow L wk n s, x.length ≤ 1000 := by
  induction n generalizing s with
  | zero => intro x hx; cases hx
  | succ n ih =>
    unfold pairsRow
    split
    · intro x hx
      rcases List.mem_cons.1 hx with rfl | h
      · simp
      · exact ih _ x h
    · exact ih _
theorem pairsAll_two (fl : Int) (L : List S65) (n : Nat) (wk : Int) : ∀ x ∈ pairsAll fl L n wk, x.length ≤ 1000 := by
  induction n generalizing wk with
  | zero => intro x hx; cases hx
  | succ n ih =>
    intro x hx
    unfold pairsAll at hx
    rcases List.mem_append.1 hx with h | h
    · exact pairsRow_two _ _ _ _ x h
    · exact ih _ x h
theorem pairsAll_len (fl : Int) (L : List S65) (n : Nat) (wk : Int) (h0 : 0 ≤ wk) (hf : fl ≤ 6) : (pairsAll fl L n wk).length ≤ 8 * n := by
  induction n generalizing wk with
  | zero => simp [pairsAll]
  | succ n ih =>
    unfold pairsAll
    have h1 := pairsRow_len L wk (fl + 1 - wk).toNat wk
    have h2 := ih (wk + 1) (by omega)
    rw [List.length_append]
    omega
theorem eq_PairsLeft (a0 : Int) (L : List S65) (hL : L.length ≤ 1000000) : ∃ G r2, ∃ k0, (∀ k, k0 ≤ k → spec_PairsLeft.f k a0 L = some (G, r2)) ∧ (∀ k, k0 ≤ k → impl_PairsLeft.f k a0 L = some (G, r2)) ∧ G.length ≤ 100000 ∧ ∀ x ∈ G, x.length ≤ 1000 := by
  obtain ⟨q, hq⟩ : ∃ q, impl_AreKindTests.f a0 L = some q := ⟨_, rfl⟩
  cases q with
  | false =>
    refine ⟨[], false, L.length + 102, fun k hk => ?_, fun k hk => ?_, by simp, by simp⟩
    · unfold spec_PairsLeft.f
      rw [kiTests_some a0 L hL k (by omega), hq]
      rfl
    · unfold impl_PairsLeft.f
      rw [hq]
      rfl
  | true =>
    obtain ⟨q0, q1, q2⟩ := areKind_ok hq
    have hl : (pairsF a0 L).length ≤ 100000 := Nat.le_trans (pairsAll_len a0 L (a0 + 1).toNat 0 (by omega) q1) (by omega)
    refine ⟨pairsF a0 L, true, L.length + 102, fun k hk => ?_, fun k hk => ?_, hl, pairsAll_two _ _ _ _⟩
    · unfold spec_PairsLeft.f
      rw [kiTests_some a0 L hL k (by omega), hq, Option.bind_some, if_pos rfl, spec_pairs a0 L hL q0 q1 k (by omega)]
      rfl
    · unfold impl_PairsLeft.f
      rw [hq, Option.bind_some, if_pos rfl, impl_pairs a0 L q0 q1 k (by omega)]
      rfl

theorem walk_FnExactPairsLeft (a0 : Int) (A1 : Option Addr) (c1 : Nat) (l1 : List S67) (w : World) (hr1 : Kd.C k67 w A1 l1.length l1) (hc1 : l1.length ≤ c1) :
    Calls Try.prog 8 #[.int .i64 a0, .slice A1 l1.length c1] w fun e w' => e = .returned (.bool true) ∧ Below w.heap.size w w' := by
  have hm := Kd.C_max hr1
  by_cases h : l1.length ≤ 1000000
  · have hrm := Hw.room_le l1.length
    have hF : (fullKindTest l1).length = l1.length + Hw.room l1.length := by simp [fullKindTest]
    obtain ⟨G, r2, k0, h1, h2, hG, hX⟩ := eq_PairsLeft a0 (l1.map convKindTest) (by simpa using h)
    refine hand_FnExactPairsLeft (k0 + l1.length + Hw.room l1.length + G.length + 1002 + 9) a0 A1 c1 l1 w hr1 hc1 (fullKindTest l1) (if l1.length = 0 then [] else fullKindTest l1) (l1.map convKindTest) _ (Hw.room l1.length) G r2 _ _ _ _ (szKindTest_small l1 h) (by omega)
      (fullKindTest_some l1 false h (.inl rfl) _ (by omega)) ?_ (by simp) ?_ (fun h0 => if_neg h0) (fun h0 => if_pos h0) (room_some _) (by rw [hF, Hw.wrap_id (by omega) (by omega)]; omega) (eqKindTest_self _ (by omega) _ (by omega))
      (h1 _ (by omega)) (h2 _ (by omega)) (eqSS_self G (by omega) hX _ (by omega)) (markKindTest_some _ (by simpa using h) _ (by simp; omega)) (by omega) (markSS_some G hG hX _) (heldSS_some G hG hX _ (by omega)) (by have := totSS_nn G; omega) (mSS_len _ _)
    · unfold fullKindTest
      rw [List.take_append_of_le_length (by simp), List.take_of_length_le (by simp)]
    · by_cases h0 : l1.length = 0
      · obtain rfl := List.eq_nil_of_length_eq_zero h0
        rw [show (if ([] : List S67).length = 0 then ([] : List S65) else fullKindTest []) = [] from rfl]
        exact fullKindTest_nil _ (by omega)
      · rw [if_neg h0]
        exact fullKindTest_some l1 true h (.inr h0) _ (by omega)
  · exact big_FnExactPairsLeft a0 A1 c1 l1 w hr1 hc1 (-1) (szKindTest_big l1 hm (by omega)) (by omega)

end Go.Proofs.Ytgolncpnephdcaa.Pure
