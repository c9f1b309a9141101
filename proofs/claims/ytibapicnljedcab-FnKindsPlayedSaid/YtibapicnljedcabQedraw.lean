/- Plain lemmas of this session: what the printed functions answer. -/
import Derived.Test.YtibapicnljedcabQx0
import Derived.Test.YtibapicnljedcabQx1
import Derived.Test.YtibapicnljedcabQx10
import Derived.Test.YtibapicnljedcabQx11
import Derived.Test.YtibapicnljedcabQx12
import Derived.Test.YtibapicnljedcabQx2
import Derived.Test.YtibapicnljedcabQx3
import Derived.Test.YtibapicnljedcabQx4
import Derived.Test.YtibapicnljedcabQx5
import Derived.Test.YtibapicnljedcabQx6
import Derived.Test.YtibapicnljedcabQx7
import Derived.Test.YtibapicnljedcabQx8
import Derived.Test.YtibapicnljedcabQx9
import Derived.Test.YtibapicnljedcabHw
namespace Go.Proofs.Ytibapicnljedcab.Q
open Go.RowKit Go.Proofs.YtibapicnljedcabW.PrintWords Go.Proofs.YtibapicnljedcabW.PrintLast Go.Proofs.YtibapicnljedcabW.PrintMore
set_option linter.unusedVariables false
set_option linter.unusedSimpArgs false
/-! ### The draws: each choice is there and in its range -/
def BytesOk (l : List Int) : Prop := ∀ x ∈ l, 0 ≤ x ∧ x ≤ 255
theorem BytesOk.at_ {l : List Int} (h : BytesOk l) (i : Int) : 0 ≤ rd l i ∧ rd l i ≤ 255 := by
  unfold rd
  rw [List.getD_eq_getElem?_getD]
  cases hq : l[i.toNat]? with
  | none => simp
  | some x => simpa using h x (List.mem_of_getElem? hq)
theorem u64_range (z : Int) : 0 ≤ IntKind.u64.wrap z ∧ IntKind.u64.wrap z < 18446744073709551616 := by
  have h : IntKind.u64.wrap z = z % 18446744073709551616 := by simp [IntKind.wrap, IntKind.bits, IntKind.signed]
  rw [h]; omega
theorem mask_range (z : Int) (h0 : 0 ≤ z) (h1 : z < 18446744073709551616) : 0 ≤ Go.bits .and .u64 (z / 1099511627776) 255 ∧ Go.bits .and .u64 (z / 1099511627776) 255 ≤ 255 := by
  have h := bits_mask .u64 24 (by decide) (fun n a b => by simp [IntKind.wrap, IntKind.bits, IntKind.signed]; omega) 8 (by decide) (z / 1099511627776) (by omega) (by simp; omega)
  have h2 : Go.bits .and .u64 (z / 1099511627776) 255 = (z / 1099511627776) % 256 := by simpa using h
  rw [h2]; omega
theorem next_tot {l : List Int} (hl : BytesOk l) (a s : Int) (h0 : 0 ≤ a) (h1 : a < 4611686018427387904) : ∃ v s', spec_l1Cur_next.f l a s = some (v, a + 1, s') ∧ 0 ≤ v ∧ v ≤ 255 := by
  have hw : wrap64 (a + 1) = a + 1 := Hw.wrap_id (by omega) (by omega)
  have hr := hl.at_ a
  have hr2 : wrap64 (rd l a) = rd l a := Hw.wrap_id (by omega) (by omega)
  unfold spec_l1Cur_next.f
  rw [hw, hr2]
  by_cases c1 : a < (l.length : Int)
  · rw [if_pos c1, if_pos h0]
    by_cases c2 : a + 1 ≤ (l.length : Int)
    · rw [if_pos c2]; exact ⟨_, _, rfl, hr.1, hr.2⟩
    · rw [if_neg c2]
      refine ⟨_, _, rfl, ?_⟩
      have hu := u64_range (IntKind.u64.wrap (IntKind.u64.wrap (s * 6364136223846793005) + IntKind.u64.wrap (rd l a)) + 1442695040888963407)
      have hm := mask_range _ hu.1 hu.2
      rw [Hw.wrap_id (by omega) (by omega)]; exact hm
  · rw [if_neg c1]
    by_cases c2 : a + 1 ≤ (l.length : Int)
    · rw [if_pos c2]; exact ⟨_, _, rfl, by omega, by omega⟩
    · rw [if_neg c2]
      refine ⟨_, _, rfl, ?_⟩
      have hu := u64_range (IntKind.u64.wrap (IntKind.u64.wrap (s * 6364136223846793005) + 0) + 1442695040888963407)
      have hm := mask_range _ hu.1 hu.2
      rw [Hw.wrap_id (by omega) (by omega)]; exact hm
theorem pick_tot {l : List Int} (hl : BytesOk l) (a s n : Int) (h0 : 0 ≤ a) (h1 : a < 4611686018427387000) : ∃ v a' s', spec_l1Cur_pick.f l a s n = some (v, a', s') ∧ 0 ≤ v ∧ (1 ≤ n → v < n) ∧ a ≤ a' ∧ a' ≤ a + 2 := by
  unfold spec_l1Cur_pick.f
  by_cases c1 : n ≤ 1
  · rw [if_pos c1]; exact ⟨_, _, _, rfl, by omega, by omega, by omega, by omega⟩
  · rw [if_neg c1]
    obtain ⟨v, s1, e1, r1, r2⟩ := next_tot hl a s h0 (by omega)
    rw [e1, Option.bind_some]
    by_cases c2 : n > 200
    · rw [if_pos c2]
      obtain ⟨y, s2, e2, r3, r4⟩ := next_tot hl (a + 1) s1 (by omega) (by omega)
      rw [e2, Option.bind_some, if_neg (by omega)]
      have hw : wrap64 (v * 256) = v * 256 := Hw.wrap_id (by omega) (by omega)
      have hw2 : wrap64 (v * 256 + y) = v * 256 + y := Hw.wrap_id (by omega) (by omega)
      refine ⟨_, _, _, rfl, ?_, fun _ => ?_, by simp only; omega, by simp only; omega⟩
      · simp only [hw, hw2]; exact Int.tmod_nonneg n (by omega)
      · simp only [hw, hw2]; exact Int.tmod_lt_of_pos _ (by omega)
    · rw [if_neg c2, if_neg (by omega)]
      exact ⟨_, _, _, rfl, Int.tmod_nonneg n r1, fun _ => Int.tmod_lt_of_pos _ (by omega), by simp only; omega, by simp only; omega⟩
theorem one_tot {l : List Int} (hl : BytesOk l) (a s n : Int) (h0 : 0 ≤ a) (h1 : a < 4611686018427387000) : ∃ v a' s', spec_l1Cur_one.f l a s n = some (v, a', s') ∧ a ≤ a' ∧ a' ≤ a + 2 := by
  obtain ⟨v, a', s', e, _, _, h2, h3⟩ := pick_tot hl a s n h0 h1
  unfold spec_l1Cur_one.f
  rw [e, Option.bind_some]
  exact ⟨_, _, _, rfl, h2, h3⟩
theorem among_tot {l : List Int} (hl : BytesOk l) (a s : Int) (xs : List Int) (hx : 0 < xs.length) (h0 : 0 ≤ a) (h1 : a < 4611686018427387000) : ∃ v a' s', spec_l1Cur_among.f l a s xs = some (v, a', s') ∧ v ∈ xs ∧ a ≤ a' ∧ a' ≤ a + 2 := by
  obtain ⟨v, a', s', e, r1, r2, h2, h3⟩ := pick_tot hl a s (xs.length : Int) h0 h1
  unfold spec_l1Cur_among.f
  have r3 := r2 (by omega)
  rw [e, Option.bind_some, if_pos r1, if_pos r3]
  refine ⟨_, _, _, rfl, ?_, h2, h3⟩
  simp only [rd]
  rw [List.getD_eq_getElem?_getD, List.getElem?_eq_getElem (show v.toNat < xs.length by omega)]
  exact List.getElem_mem _
theorem bytes_ok {l : List Int} (h : ∀ p_ ∈ l, (Lit.int .u8 p_).wf = true) : BytesOk l := by
  intro x hx
  have h1 := h x hx
  have e0 : IntKind.u8.min = 0 := by rfl
  have e1 : IntKind.u8.max = 255 := by rfl
  simp [Lit.wf, e0, e1] at h1
  omega
end Go.Proofs.Ytibapicnljedcab.Q
