/- The law FnExactIdleKindTests: for every argument the call returns true. No condition beside what a machine's values are. -/
import Derived.Test.YtgolncpnephdcaaHw
import Derived.Test.YtgolncpnephdcaaIel1i
import Derived.Test.YtgolncpnephdcaaIekinds
import Derived.Test.YtgolncpnephdcaaIepairs
import Derived.Test.YtgolncpnephdcaaIemarks
import Derived.Test.YtgolncpnephdcaaIemarksK
namespace Go.Proofs.Ytgolncpnephdcaa.Pure
open Go.RowKit Go.Proofs.Ytgolncpnephdcaa Go.Proofs.Ytgolncpnephdcaa.I Go.Proofs.YtgolncpnephdcaaW.PrintWords Go.Proofs.YtgolncpnephdcaaW.PrintLast Go.Proofs.YtgolncpnephdcaaW.PrintMore
set_option linter.unusedVariables false
set_option linter.unusedSimpArgs false

def idleF (fl : Int) (L : List S65) : Nat → Nat → List Int
  | 0, _ => []
  | n + 1, i => if ((pairsF fl (L.take (i + 1))).length : Int) = ((pairsF fl (L.take i)).length : Int) then (i : Int) :: idleF fl L n (i + 1) else if ((pairsF fl (L.take (i + 1))).length : Int) = 0 then (i : Int) :: idleF fl L n (i + 1) else idleF fl L n (i + 1)
theorem idleF_len (fl : Int) (L : List S65) (n i : Nat) : (idleF fl L n i).length ≤ n := by
  induction n generalizing i with
  | zero => simp [idleF]
  | succ n ih =>
    unfold idleF
    repeat' split
    · rw [List.length_cons]; exact Nat.succ_le_succ (ih _)
    · rw [List.length_cons]; exact Nat.succ_le_succ (ih _)
    · exact Nat.le_succ_of_le (ih _)
theorem idle_impl (fl : Int) (L : List S65) (h0 : 0 ≤ fl) (hf : fl ≤ 6) (hl : L.length ≤ 40) (n : Nat) : ∀ (i : Nat) (xs : List Int) (K : Nat), i + n = L.length → xs.length ≤ i → 101 + n < K → impl_IdleKindTests.l0 K fl L xs (L.length : Int) (i : Int) = some (xs ++ idleF fl L n i, true) := by
  induction n with
  | zero =>
    intro i xs K h1 h2 hK
    obtain ⟨K, rfl⟩ : ∃ m, K = m + 1 := ⟨K - 1, by omega⟩
    rw [impl_IdleKindTests.l0, if_neg (by omega), idleF, List.append_nil]
  | succ n ih =>
    intro i xs K h1 h2 hK
    obtain ⟨K, rfl⟩ : ∃ m, K = m + 1 := ⟨K - 1, by omega⟩
    have hi : wrap64 ((i : Int) + 1) = ((i + 1 : Nat) : Int) := by rw [Hw.wrap_id (by omega) (by omega)]; omega
    rw [impl_IdleKindTests.l0, if_pos (by omega), if_pos (by omega), if_pos (by omega), hi, Int.toNat_natCast, Int.toNat_natCast]
    refine Hw.bind_of (impl_pairs fl _ h0 hf K (by omega)) ?_
    rw [if_pos (by omega), if_pos (by omega)]
    refine Hw.bind_of (impl_pairs fl _ h0 hf K (by omega)) ?_
    have ha := ih (i + 1) (xs ++ [(i : Int)]) K (by omega) (by simp; omega) (by omega)
    have hb := ih (i + 1) xs K (by omega) (by omega) (by omega)
    rw [idleF]
    split
    · rw [if_pos (by omega), ha]; simp
    · split
      · rw [if_pos (by omega), ha]; simp
      · exact hb
theorem idle_spec (fl : Int) (L : List S65) (h0 : 0 ≤ fl) (hf : fl ≤ 6) (hl : L.length ≤ 40) (n : Nat) : ∀ (i : Nat) (xs : List Int) (K : Nat), i + n = L.length → xs.length ≤ i → 201 + n < K → spec_IdleKindTests.l0 K fl L xs (L.length : Int) (i : Int) = some (xs ++ idleF fl L n i, true) := by
  induction n with
  | zero =>
    intro i xs K h1 h2 hK
    obtain ⟨K, rfl⟩ : ∃ m, K = m + 1 := ⟨K - 1, by omega⟩
    rw [spec_IdleKindTests.l0, if_neg (by omega), idleF, List.append_nil]
  | succ n ih =>
    intro i xs K h1 h2 hK
    obtain ⟨K, rfl⟩ : ∃ m, K = m + 1 := ⟨K - 1, by omega⟩
    have hi : wrap64 ((i : Int) + 1) = ((i + 1 : Nat) : Int) := by rw [Hw.wrap_id (by omega) (by omega)]; omega
    have t1 : (L.take i).length ≤ 40 := by rw [List.length_take]; omega
    have t2 : (L.take (i + 1)).length ≤ 40 := by rw [List.length_take]; omega
    rw [spec_IdleKindTests.l0, if_pos (by omega), if_pos (by omega), if_pos (by omega), hi, Int.toNat_natCast, Int.toNat_natCast]
    refine Hw.bind_of (spec_pairs fl _ (by omega) h0 hf K (by omega)) ?_
    rw [if_pos (by omega), if_pos (by omega)]
    refine Hw.bind_of (spec_pairs fl _ (by omega) h0 hf K (by omega)) ?_
    have ha := ih (i + 1) (xs ++ [(i : Int)]) K (by omega) (by simp; omega) (by omega)
    have hb := ih (i + 1) xs K (by omega) (by omega) (by omega)
    rw [idleF]
    by_cases e1 : ((pairsF fl (L.take (i + 1))).length : Int) = ((pairsF fl (L.take i)).length : Int)
    · rw [if_pos e1.symm, if_pos e1, if_pos (by omega), ha]; simp
    · rw [if_neg (fun h => e1 h.symm), if_neg e1]
      by_cases e2 : ((pairsF fl (L.take (i + 1))).length : Int) = 0
      · rw [if_pos e2, if_pos e2, if_pos (by omega), ha]; simp
      · rw [if_neg e2, if_neg e2, hb]
theorem eq_IdleKindTests (a0 : Int) (L : List S65) (hL : L.length ≤ 1000000) : ∃ G r2, ∃ k0, (∀ k, k0 ≤ k → spec_IdleKindTests.f k a0 L = some (G, r2)) ∧ (∀ k, k0 ≤ k → impl_IdleKindTests.f k a0 L = some (G, r2)) ∧ G.length ≤ 1000000 := by
  obtain ⟨q, hq⟩ : ∃ q, impl_AreKindTests.f a0 L = some q := ⟨_, rfl⟩
  cases q with
  | false =>
    refine ⟨[], false, L.length + 2, fun k hk => ?_, fun k hk => ?_, by simp⟩
    · unfold spec_IdleKindTests.f
      rw [kiTests_some a0 L hL k (by omega), hq]
      rfl
    · unfold impl_IdleKindTests.f
      rw [hq]
      rfl
  | true =>
    obtain ⟨q0, q1, q2⟩ := areKind_ok hq
    refine ⟨idleF a0 L L.length 0, true, 300, fun k hk => ?_, fun k hk => ?_, Nat.le_trans (idleF_len _ _ _ _) hL⟩
    · unfold spec_IdleKindTests.f
      rw [kiTests_some a0 L hL k (by omega), hq, Option.bind_some, if_pos rfl]
      have h := idle_spec a0 L q0 q1 q2 L.length 0 [] k (by omega) (by simp) (by omega)
      simpa using h
    · unfold impl_IdleKindTests.f
      rw [hq, Option.bind_some, if_pos rfl]
      have h := idle_impl a0 L q0 q1 q2 L.length 0 [] k (by omega) (by simp) (by omega)
      simpa using h

theorem walk_FnExactIdleKindTests (a0 : Int) (A1 : Option Addr) (c1 : Nat) (l1 : List S67) (w : World) (hr1 : Kd.C k67 w A1 l1.length l1) (hc1 : l1.length ≤ c1) :
    Calls Try.prog 7 #[.int .i64 a0, .slice A1 l1.length c1] w fun e w' => e = .returned (.bool true) ∧ Below w.heap.size w w' := by
  have hm := Kd.C_max hr1
  by_cases h : l1.length ≤ 1000000
  · have hrm := Hw.room_le l1.length
    have hF : (fullKindTest l1).length = l1.length + Hw.room l1.length := by simp [fullKindTest]
    obtain ⟨G, r2, k0, h1, h2, hG⟩ := eq_IdleKindTests a0 (l1.map convKindTest) (by simpa using h)
    refine hand_FnExactIdleKindTests (k0 + l1.length + Hw.room l1.length + G.length + 9) a0 A1 c1 l1 w hr1 hc1 (fullKindTest l1) (if l1.length = 0 then [] else fullKindTest l1) (l1.map convKindTest) _ (Hw.room l1.length) G r2 _ _ _ _ (szKindTest_small l1 h) (by omega)
      (fullKindTest_some l1 false h (.inl rfl) _ (by omega)) ?_ (by simp) ?_ (fun h0 => if_neg h0) (fun h0 => if_pos h0) (room_some _) (by rw [hF, Hw.wrap_id (by omega) (by omega)]; omega) (eqKindTest_self _ (by omega) _ (by omega))
      (h1 _ (by omega)) (h2 _ (by omega)) (eqInt_self G hG _ (by omega)) (markKindTest_some _ (by simpa using h) _ (by simp; omega)) (by omega) (markInt_some G hG _ (by omega)) (heldInt_some _ hG _ (by omega)) (by omega) (marksI_len _ _)
    · unfold fullKindTest
      rw [List.take_append_of_le_length (by simp), List.take_of_length_le (by simp)]
    · by_cases h0 : l1.length = 0
      · obtain rfl := List.eq_nil_of_length_eq_zero h0
        rw [show (if ([] : List S67).length = 0 then ([] : List S65) else fullKindTest []) = [] from rfl]
        exact fullKindTest_nil _ (by omega)
      · rw [if_neg h0]
        exact fullKindTest_some l1 true h (.inr h0) _ (by omega)
  · exact big_FnExactIdleKindTests a0 A1 c1 l1 w hr1 hc1 (-1) (szKindTest_big l1 hm (by omega)) (by omega)

end Go.Proofs.Ytgolncpnephdcaa.Pure
