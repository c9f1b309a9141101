/- The law FnExactFitsKinds: for every argument the call returns true. No condition beside what a machine's values are. -/
import Derived.Test.YtgolncpnephdcaaHw
import Derived.Test.YtgolncpnephdcaaKel1i
import Derived.Test.YtgolncpnephdcaaKekinds
namespace Go.Proofs.Ytgolncpnephdcaa.Pure
open Go.RowKit Go.Proofs.Ytgolncpnephdcaa Go.Proofs.Ytgolncpnephdcaa.K Go.Proofs.YtgolncpnephdcaaW.PrintWords Go.Proofs.YtgolncpnephdcaaW.PrintLast Go.Proofs.YtgolncpnephdcaaW.PrintMore
set_option linter.unusedVariables false
set_option linter.unusedSimpArgs false

theorem eq_FitsKinds (a0 : Int) (L : List S65) (a2 a3 : Int) (hL : L.length ≤ 1000000) : ∃ r1 r2, ∃ k0, (∀ k, k0 ≤ k → spec_FitsKinds.f k a0 L a2 a3 = some (r1, r2)) ∧ impl_FitsKinds.f a0 L a2 a3 = some (r1, r2) := by
  obtain ⟨q, hq⟩ : ∃ q, impl_AreKindTests.f a0 L = some q := ⟨_, rfl⟩
  have hp : spec_kiPair.f a0 a2 a3 = impl_isPair.f a0 a2 a3 ∨ spec_kiPair.f a0 a2 a3 = impl_isPair.f a0 a2 a3 := by
    left
    unfold spec_kiPair.f impl_isPair.f
    rw [l1In_some, ki_within, Option.bind_some, Option.bind_some, l1In_some, Option.bind_some]
    by_cases h1 : 0 ≤ a2 <;> by_cases h2 : a2 ≤ a3 <;> by_cases h3 : a3 ≤ a0 <;> by_cases h4 : 0 ≤ a3 <;> first | (simp [h1, h2, h3, h4]; done) | (exfalso; omega)
  replace hp := hp.elim id id
  obtain ⟨b, hb⟩ : ∃ b, impl_isPair.f a0 a2 a3 = some b := by
    unfold impl_isPair.f
    rw [ki_within, Option.bind_some]
    split <;> exact ⟨_, rfl⟩
  unfold impl_FitsKinds.f
  rw [hq, Option.bind_some]
  cases q with
  | false =>
    refine ⟨false, false, L.length + 2, fun k hk => ?_, rfl⟩
    unfold spec_FitsKinds.f
    rw [kiTests_some a0 L hL k (by omega), hq]
    rfl
  | true =>
    cases b with
    | false =>
      refine ⟨false, false, L.length + 2, fun k hk => ?_, by rw [if_pos rfl, hb]; rfl⟩
      unfold spec_FitsKinds.f
      rw [kiTests_some a0 L hL k (by omega), hq, Option.bind_some, if_pos rfl, hp, hb]
      rfl
    | true =>
      refine ⟨L.all (kfits a2 a3), true, L.length + 2, fun k hk => ?_, by rw [if_pos rfl, hb]; rfl⟩
      unfold spec_FitsKinds.f
      rw [kiTests_some a0 L hL k (by omega), hq, Option.bind_some, if_pos rfl, hp, hb, Option.bind_some, if_pos rfl, kiFits_some L a2 a3 hL k (by omega)]
      rfl

theorem walk_FnExactFitsKinds (a0 : Int) (A1 : Option Addr) (c1 : Nat) (l1 : List S67) (a2 : Int) (a3 : Int) (w : World) (hr1 : Kd.C k67 w A1 l1.length l1) (hc1 : l1.length ≤ c1) :
    Calls Try.prog 4 #[.int .i64 a0, .slice A1 l1.length c1, .int .i64 a2, .int .i64 a3] w fun e w' => e = .returned (.bool true) ∧ Below w.heap.size w w' := by
  have hm := Kd.C_max hr1
  by_cases h : l1.length ≤ 1000000
  · have hrm := Hw.room_le l1.length
    have hF : (fullKindTest l1).length = l1.length + Hw.room l1.length := by simp [fullKindTest]
    obtain ⟨r1, r2, k0, h1, h2⟩ := eq_FitsKinds a0 (l1.map convKindTest) a2 a3 (by simpa using h)
    refine hand_FnExactFitsKinds (k0 + l1.length + Hw.room l1.length + 9) a0 A1 c1 l1 a2 a3 w hr1 hc1 (fullKindTest l1) (if l1.length = 0 then [] else fullKindTest l1) (l1.map convKindTest) (Hw.room l1.length) r1 r2 _ (szKindTest_small l1 h) (by omega)
      (fullKindTest_some l1 false h (.inl rfl) _ (by omega)) ?_ (by simp) ?_ (fun h0 => if_neg h0) (fun h0 => if_pos h0) (room_some _) (by rw [hF, Hw.wrap_id (by omega) (by omega)]; omega) (eqKindTest_self _ (by omega) _ (by omega))
      (h1 _ (by omega)) h2
    · unfold fullKindTest
      rw [List.take_append_of_le_length (by simp), List.take_of_length_le (by simp)]
    · by_cases h0 : l1.length = 0
      · obtain rfl := List.eq_nil_of_length_eq_zero h0
        rw [show (if ([] : List S67).length = 0 then ([] : List S65) else fullKindTest []) = [] from rfl]
        exact fullKindTest_nil _ (by omega)
      · rw [if_neg h0]
        exact fullKindTest_some l1 true h (.inr h0) _ (by omega)
  · exact big_FnExactFitsKinds a0 A1 c1 l1 a2 a3 w hr1 hc1 (-1) (szKindTest_big l1 hm (by omega)) (by omega)

end Go.Proofs.Ytgolncpnephdcaa.Pure
