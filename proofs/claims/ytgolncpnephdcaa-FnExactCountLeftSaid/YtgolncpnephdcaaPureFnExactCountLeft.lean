/- The law FnExactCountLeft: for every argument the call returns true. No condition beside what a machine's values are. -/
import Derived.Test.YtgolncpnephdcaaHw
import Derived.Test.YtgolncpnephdcaaCel1i
import Derived.Test.YtgolncpnephdcaaCekinds
import Derived.Test.YtgolncpnephdcaaCepairs
namespace Go.Proofs.Ytgolncpnephdcaa.Pure
open Go.RowKit Go.Proofs.Ytgolncpnephdcaa Go.Proofs.Ytgolncpnephdcaa.C Go.Proofs.YtgolncpnephdcaaW.PrintWords Go.Proofs.YtgolncpnephdcaaW.PrintLast Go.Proofs.YtgolncpnephdcaaW.PrintMore
set_option linter.unusedVariables false
set_option linter.unusedSimpArgs false

theorem eq_CountLeft (a0 : Int) (L : List S65) (hL : L.length ≤ 1000000) : ∃ r1 r2, ∃ k0, (∀ k, k0 ≤ k → spec_CountLeft.f k a0 L = some (r1, r2)) ∧ (∀ k, k0 ≤ k → impl_CountLeft.f k a0 L = some (r1, r2)) := by
  obtain ⟨q, hq⟩ : ∃ q, impl_AreKindTests.f a0 L = some q := ⟨_, rfl⟩
  cases q with
  | false =>
    refine ⟨0, false, L.length + 102, fun k hk => ?_, fun k hk => ?_⟩
    · unfold spec_CountLeft.f
      rw [kiTests_some a0 L hL k (by omega), hq]
      rfl
    · unfold impl_CountLeft.f
      rw [hq]
      rfl
  | true =>
    obtain ⟨q0, q1, q2⟩ := areKind_ok hq
    refine ⟨((pairsF a0 L).length : Int), true, L.length + 102, fun k hk => ?_, fun k hk => ?_⟩
    · unfold spec_CountLeft.f
      rw [kiTests_some a0 L hL k (by omega), hq, Option.bind_some, if_pos rfl, spec_pairs a0 L hL q0 q1 k (by omega)]
      rfl
    · unfold impl_CountLeft.f
      rw [hq, Option.bind_some, if_pos rfl, impl_pairs a0 L q0 q1 k (by omega)]
      rfl

theorem walk_FnExactCountLeft (a0 : Int) (A1 : Option Addr) (c1 : Nat) (l1 : List S67) (w : World) (hr1 : Kd.C k67 w A1 l1.length l1) (hc1 : l1.length ≤ c1) :
    Calls Try.prog 5 #[.int .i64 a0, .slice A1 l1.length c1] w fun e w' => e = .returned (.bool true) ∧ Below w.heap.size w w' := by
  have hm := Kd.C_max hr1
  by_cases h : l1.length ≤ 1000000
  · have hrm := Hw.room_le l1.length
    have hF : (fullKindTest l1).length = l1.length + Hw.room l1.length := by simp [fullKindTest]
    obtain ⟨r1, r2, k0, h1, h2⟩ := eq_CountLeft a0 (l1.map convKindTest) (by simpa using h)
    refine hand_FnExactCountLeft (k0 + l1.length + Hw.room l1.length + 9) a0 A1 c1 l1 w hr1 hc1 (fullKindTest l1) (if l1.length = 0 then [] else fullKindTest l1) (l1.map convKindTest) (Hw.room l1.length) r1 r2 _ (szKindTest_small l1 h) (by omega)
      (fullKindTest_some l1 false h (.inl rfl) _ (by omega)) ?_ (by simp) ?_ (fun h0 => if_neg h0) (fun h0 => if_pos h0) (room_some _) (by rw [hF, Hw.wrap_id (by omega) (by omega)]; omega) (eqKindTest_self _ (by omega) _ (by omega))
      (h1 _ (by omega)) (h2 _ (by omega))
    · unfold fullKindTest
      rw [List.take_append_of_le_length (by simp), List.take_of_length_le (by simp)]
    · by_cases h0 : l1.length = 0
      · obtain rfl := List.eq_nil_of_length_eq_zero h0
        rw [show (if ([] : List S67).length = 0 then ([] : List S65) else fullKindTest []) = [] from rfl]
        exact fullKindTest_nil _ (by omega)
      · rw [if_neg h0]
        exact fullKindTest_some l1 true h (.inr h0) _ (by omega)
  · exact big_FnExactCountLeft a0 A1 c1 l1 w hr1 hc1 (-1) (szKindTest_big l1 hm (by omega)) (by omega)

end Go.Proofs.Ytgolncpnephdcaa.Pure
