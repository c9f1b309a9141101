/- Plain lemmas of this session: what the printed functions answer. -/
import Derived.Test.YtgolncpnephdcaaPx0
import Derived.Test.YtgolncpnephdcaaPx1
import Derived.Test.YtgolncpnephdcaaPx2
import Derived.Test.YtgolncpnephdcaaPx3
import Derived.Test.YtgolncpnephdcaaPx4
import Derived.Test.YtgolncpnephdcaaPx5
import Derived.Test.YtgolncpnephdcaaHw
import Derived.Test.YtgolncpnephdcaaPel1i
namespace Go.Proofs.Ytgolncpnephdcaa.P
open Go.RowKit Go.Proofs.YtgolncpnephdcaaW.PrintWords Go.Proofs.YtgolncpnephdcaaW.PrintLast Go.Proofs.YtgolncpnephdcaaW.PrintMore
set_option linter.unusedVariables false
set_option linter.unusedSimpArgs false
/-! Tests of two kinds: the reference's are the program's. -/
theorem szKindTest_big (l : List S67) (hl : l.length ≤ 9223372036854775807) (h : 1000000 < l.length) : laws_szKindTestS.f l 1000000 = some (-1) := by
  unfold laws_szKindTestS.f
  rw [Hw.wrap_id (by omega) (by omega), if_pos (by omega)]
theorem szKindTest_small (l : List S67) (h : l.length ≤ 1000000) : laws_szKindTestS.f l 1000000 = some (1000000 - (l.length : Int)) := by
  unfold laws_szKindTestS.f
  rw [Hw.wrap_id (by omega) (by omega), if_neg (by omega)]
theorem kiTests_l0 (fl : Int) (L : List S65) (hb : L.length ≤ 1000000) : ∀ (n i k : Nat), i + n = L.length → n < k → spec_kiTests.l0 k fl L (L.length : Int) (i : Int) = some ((L.drop i).all (inFl fl)) := by
  intro n
  induction n with
  | zero =>
    intro i k h1 hk
    obtain ⟨k, rfl⟩ : ∃ m, k = m + 1 := ⟨k - 1, by omega⟩
    rw [spec_kiTests.l0, if_neg (by omega), List.drop_of_length_le (by omega)]
    rfl
  | succ n ih =>
    intro i k h1 hk
    obtain ⟨k, rfl⟩ : ∃ m, k = m + 1 := ⟨k - 1, by omega⟩
    have hlt : i < L.length := by omega
    have hr : rd_T65 L (i : Int) = L[i] := by simp [rd_T65, hlt]
    rw [spec_kiTests.l0, if_pos (by omega), if_pos (by omega), if_pos (by omega), hr, l1In_some, Option.bind_some, List.drop_eq_getElem_cons hlt, List.all_cons, Hw.wrap_id (by omega) (by omega)]
    have h := ih (i + 1) k (by omega) (by omega)
    rw [show ((i : Int) + 1) = ((i + 1 : Nat) : Int) by omega, h]
    show (if inFl fl L[i] = true then _ else _) = _
    cases inFl fl L[i] <;> simp
theorem kiTests_some (fl : Int) (L : List S65) (hb : L.length ≤ 1000000) (k : Nat) (hk : L.length + 1 < k) : spec_kiTests.f k fl L = impl_AreKindTests.f fl L := by
  unfold spec_kiTests.f impl_AreKindTests.f spec_kiFloors.f
  obtain ⟨k, rfl⟩ : ∃ m, k = m + 1 := ⟨k - 1, by omega⟩
  rw [l1In_some, Option.bind_some, Option.bind_some]
  have h := kiTests_l0 fl L hb L.length 0 k (by omega) (by omega)
  rw [List.drop_zero] at h
  by_cases hf : 0 ≤ fl ∧ fl ≤ 6
  · rw [if_pos (by simp [hf]), spec_kiTests.j0]
    by_cases h4 : L.length ≤ 40
    · rw [decide_eq_false (show ¬ ((L.length : Int) > 40) by omega), if_neg (by decide)]
      simpa [hf, h4] using h
    · rw [decide_eq_true (show (L.length : Int) > 40 by omega), if_pos rfl, decide_eq_false h4]
      simp
  · rw [if_neg (by simp; omega), spec_kiTests.j0, if_pos rfl]
    have h0 : (decide (0 ≤ fl) && decide (fl ≤ 6)) = false := by simp; omega
    rw [h0]
    rfl
theorem kiFits_l0 (L : List S65) (wk st : Int) (hb : L.length ≤ 1000000) : ∀ (n i k : Nat), i + n = L.length → n < k → spec_kiFits.l0 k wk st L (L.length : Int) (i : Int) = some ((L.drop i).all (kfits wk st)) := by
  intro n
  induction n with
  | zero =>
    intro i k h1 hk
    obtain ⟨k, rfl⟩ : ∃ m, k = m + 1 := ⟨k - 1, by omega⟩
    rw [spec_kiFits.l0, if_neg (by omega), List.drop_of_length_le (by omega)]
    rfl
  | succ n ih =>
    intro i k h1 hk
    obtain ⟨k, rfl⟩ : ∃ m, k = m + 1 := ⟨k - 1, by omega⟩
    have hlt : i < L.length := by omega
    have hr : rd_T65 L (i : Int) = L[i] := by simp [rd_T65, hlt]
    rw [spec_kiFits.l0, if_pos (by omega), if_pos (by omega), if_pos (by omega), hr, List.drop_eq_getElem_cons hlt, List.all_cons, Hw.wrap_id (by omega) (by omega)]
    have h := ih (i + 1) k (by omega) (by omega)
    rw [show ((i : Int) + 1) = ((i + 1 : Nat) : Int) by omega, h]
    have hk2 : ∃ b, spec_kiBreaks.f L[i].f0 L[i].f1 wk st = some b ∧ kfits wk st L[i] = (L[i].f2 == b) := by
      unfold spec_kiBreaks.f kfits impl_KindTest_fits.f
      split
      · exact ⟨_, rfl, rfl⟩
      · exact ⟨_, rfl, rfl⟩
    obtain ⟨b, hb1, hb2⟩ := hk2
    rw [hb1, Option.bind_some, hb2]
    cases b <;> cases L[i].f2 <;> simp
theorem kiFits_some (L : List S65) (wk st : Int) (hb : L.length ≤ 1000000) (k : Nat) (hk : L.length < k) : spec_kiFits.f k L wk st = some (L.all (kfits wk st)) := by
  unfold spec_kiFits.f
  have h := kiFits_l0 L wk st hb L.length 0 k (by omega) hk
  simpa using h
end Go.Proofs.Ytgolncpnephdcaa.P
