/- Plain lemmas of this session: what the printed functions answer. -/
import Derived.Test.YtgolncpnephdcaaPx0
import Derived.Test.YtgolncpnephdcaaPx1
import Derived.Test.YtgolncpnephdcaaPx2
import Derived.Test.YtgolncpnephdcaaPx3
import Derived.Test.YtgolncpnephdcaaPx4
import Derived.Test.YtgolncpnephdcaaPx5
import Derived.Test.YtgolncpnephdcaaHw
import Derived.Test.YtgolncpnephdcaaPel1i
import Derived.Test.YtgolncpnephdcaaPekinds
namespace Go.Proofs.Ytgolncpnephdcaa.P
open Go.RowKit Go.Proofs.YtgolncpnephdcaaW.PrintWords Go.Proofs.YtgolncpnephdcaaW.PrintLast Go.Proofs.YtgolncpnephdcaaW.PrintMore
set_option linter.unusedVariables false
set_option linter.unusedSimpArgs false
/-! Pairs that fit tests. -/
def pairsRow (L : List S65) (wk : Int) : Nat → Int → List (List Int)
  | 0, _ => []
  | n + 1, s => if L.all (kfits wk s) = true then [wk, s] :: pairsRow L wk n (s + 1) else pairsRow L wk n (s + 1)
def pairsAll (fl : Int) (L : List S65) : Nat → Int → List (List Int)
  | 0, _ => []
  | n + 1, wk => pairsRow L wk (fl + 1 - wk).toNat wk ++ pairsAll fl L n (wk + 1)
def pairsF (fl : Int) (L : List S65) : List (List Int) := pairsAll fl L (fl + 1).toNat 0
theorem pairsRow_len (L : List S65) (wk : Int) (n : Nat) (s : Int) : (pairsRow L wk n s).length ≤ n := by
  induction n generalizing s with
  | zero => simp [pairsRow]
  | succ n ih =>
    unfold pairsRow
    split
    · rw [List.length_cons]; exact Nat.succ_le_succ (ih _)
    · exact Nat.le_succ_of_le (ih _)
theorem impl_l1 (fl : Int) (L : List S65) (wk : Int) (h0 : 0 ≤ wk) (hf : fl ≤ 6) (n : Nat) : ∀ (s : Int) (xs : List (List Int)) (K : Nat), 0 ≤ s → s + n = fl + 1 → xs.length + n ≤ 1000 →
    impl_pairsLeft.l1 (K + n + 1) fl L xs wk s (fl + 1) wk = impl_pairsLeft.l0 K fl L (xs ++ pairsRow L wk n s) (fl + 1) (wrap64 (wk + 1)) := by
  induction n with
  | zero =>
    intro s xs K h1 h2 h3
    rw [impl_pairsLeft.l1, if_neg (by omega), pairsRow, List.append_nil]
  | succ n ih =>
    intro s xs K h1 h2 h3
    rw [show K + (n + 1) + 1 = (K + n + 1) + 1 by omega, impl_pairsLeft.l1, if_pos (by omega)]
    unfold impl_fitsAll.f
    rw [Option.bind_some, pairsRow, Hw.wrap_id (i := s + 1) (by omega) (by omega)]
    by_cases hb : L.all (kfits wk s) = true
    · rw [if_pos hb, if_pos hb, if_pos (by omega), ih (s + 1) _ K (by omega) (by omega) (by simp; omega)]
      simp
    · rw [if_neg hb, if_neg hb, ih (s + 1) _ K (by omega) (by omega) (by omega)]
theorem impl_l0 (fl : Int) (L : List S65) (hf : fl ≤ 6) (n : Nat) : ∀ (wk : Int) (xs : List (List Int)) (K : Nat), 0 ≤ wk → wk + n = fl + 1 → xs.length + 8 * n ≤ 1000 → 9 * n < K →
    impl_pairsLeft.l0 K fl L xs (fl + 1) wk = some (xs ++ pairsAll fl L n wk) := by
  induction n with
  | zero =>
    intro wk xs K h1 h2 h3 hK
    obtain ⟨K, rfl⟩ : ∃ m, K = m + 1 := ⟨K - 1, by omega⟩
    rw [impl_pairsLeft.l0, if_neg (by omega), pairsAll, List.append_nil]
  | succ n ih =>
    intro wk xs K h1 h2 h3 hK
    obtain ⟨m, hm⟩ : ∃ m : Nat, m = (fl + 1 - wk).toNat := ⟨_, rfl⟩
    obtain ⟨K2, rfl⟩ : ∃ K2, K = K2 + m + 1 + 1 := ⟨K - m - 2, by omega⟩
    rw [impl_pairsLeft.l0, if_pos (by omega), impl_l1 fl L wk h1 hf m wk xs K2 h1 (by omega) (by omega), Hw.wrap_id (by omega) (by omega), pairsAll, ← hm]
    have hl := pairsRow_len L wk m wk
    rw [ih (wk + 1) _ K2 (by omega) (by omega) (by simp; omega) (by omega), List.append_assoc]
theorem impl_pairs (fl : Int) (L : List S65) (h0 : 0 ≤ fl) (hf : fl ≤ 6) (K : Nat) (hK : 100 ≤ K) : impl_pairsLeft.f K fl L = some (pairsF fl L) := by
  unfold impl_pairsLeft.f pairsF
  rw [Hw.wrap_id (by omega) (by omega), impl_l0 fl L hf (fl + 1).toNat 0 [] K (by omega) (by omega) (by simp; omega) (by omega), List.nil_append]
theorem spec_l1 (fl : Int) (L : List S65) (hL : L.length ≤ 1000000) (wk : Int) (h0 : 0 ≤ wk) (hf : fl ≤ 6) (n : Nat) : ∀ (s : Int) (xs : List (List Int)) (K : Nat), 0 ≤ s → s + n = fl + 1 → xs.length + n ≤ 1000 → L.length < K →
    spec_kiLeft.l1 (K + n + 1) fl L xs wk s = spec_kiLeft.l0 K fl L (xs ++ pairsRow L wk n s) (wrap64 (wk + 1)) := by
  induction n with
  | zero =>
    intro s xs K h1 h2 h3 hK
    rw [spec_kiLeft.l1, if_neg (by omega), pairsRow, List.append_nil]
  | succ n ih =>
    intro s xs K h1 h2 h3 hK
    rw [show K + (n + 1) + 1 = (K + n + 1) + 1 by omega, spec_kiLeft.l1, if_pos (by omega), kiFits_some L wk s hL (K + n + 1) (by omega), Option.bind_some, pairsRow, Hw.wrap_id (i := s + 1) (by omega) (by omega)]
    by_cases hb : L.all (kfits wk s) = true
    · rw [if_pos hb, if_pos hb, if_pos (by omega), ih (s + 1) _ K (by omega) (by omega) (by simp; omega) hK]
      simp
    · rw [if_neg hb, if_neg hb, ih (s + 1) _ K (by omega) (by omega) (by omega) hK]
theorem spec_l0 (fl : Int) (L : List S65) (hL : L.length ≤ 1000000) (hf : fl ≤ 6) (n : Nat) : ∀ (wk : Int) (xs : List (List Int)) (K : Nat), 0 ≤ wk → wk + n = fl + 1 → xs.length + 8 * n ≤ 1000 → 9 * n + L.length < K →
    spec_kiLeft.l0 K fl L xs wk = some (xs ++ pairsAll fl L n wk) := by
  induction n with
  | zero =>
    intro wk xs K h1 h2 h3 hK
    obtain ⟨K, rfl⟩ : ∃ m, K = m + 1 := ⟨K - 1, by omega⟩
    rw [spec_kiLeft.l0, if_neg (by omega), pairsAll, List.append_nil]
  | succ n ih =>
    intro wk xs K h1 h2 h3 hK
    obtain ⟨m, hm⟩ : ∃ m : Nat, m = (fl + 1 - wk).toNat := ⟨_, rfl⟩
    obtain ⟨K2, rfl⟩ : ∃ K2, K = K2 + m + 1 + 1 := ⟨K - m - 2, by omega⟩
    rw [spec_kiLeft.l0, if_pos (by omega), spec_l1 fl L hL wk h1 hf m wk xs K2 h1 (by omega) (by omega) (by omega), Hw.wrap_id (by omega) (by omega), pairsAll, ← hm]
    have hl := pairsRow_len L wk m wk
    rw [ih (wk + 1) _ K2 (by omega) (by omega) (by simp; omega) (by omega), List.append_assoc]
theorem spec_pairs (fl : Int) (L : List S65) (hL : L.length ≤ 1000000) (h0 : 0 ≤ fl) (hf : fl ≤ 6) (K : Nat) (hK : 100 + L.length ≤ K) : spec_kiLeft.f K fl L = some (pairsF fl L) := by
  unfold spec_kiLeft.f pairsF
  rw [spec_l0 fl L hL hf (fl + 1).toNat 0 [] K (by omega) (by omega) (by simp; omega) (by omega), List.nil_append]
theorem areKind_ok {fl : Int} {L : List S65} (h : impl_AreKindTests.f fl L = some true) : 0 ≤ fl ∧ fl ≤ 6 ∧ L.length ≤ 40 := by
  unfold impl_AreKindTests.f at h
  have h1 := Option.some.inj h
  simp only [Bool.and_eq_true, decide_eq_true_eq] at h1
  exact ⟨h1.1.1.1, h1.1.1.2, h1.1.2⟩
end Go.Proofs.Ytgolncpnephdcaa.P
