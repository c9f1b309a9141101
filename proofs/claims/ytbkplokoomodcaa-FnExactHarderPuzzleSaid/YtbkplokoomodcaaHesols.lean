/- Plain lemmas of this session: what the printed functions answer. -/
import Derived.Test.YtbkplokoomodcaaHx0
import Derived.Test.YtbkplokoomodcaaHx1
import Derived.Test.YtbkplokoomodcaaHx2
import Derived.Test.YtbkplokoomodcaaHx3
import Derived.Test.YtbkplokoomodcaaHx4
import Derived.Test.YtbkplokoomodcaaHx5
import Derived.Test.YtbkplokoomodcaaHx6
import Derived.Test.YtbkplokoomodcaaHx7
import Derived.Test.YtbkplokoomodcaaHx8
import Derived.Test.YtbkplokoomodcaaHx9
import Derived.Test.YtbkplokoomodcaaHw
import Derived.Test.YtbkplokoomodcaaHereach
import Derived.Test.YtbkplokoomodcaaHel1
import Derived.Test.YtbkplokoomodcaaHeclue
namespace Go.Proofs.Ytbkplokoomodcaa.H
open Go.RowKit Go.Proofs.YtbkplokoomodcaaW.PrintWords Go.Proofs.YtbkplokoomodcaaW.PrintLast Go.Proofs.YtbkplokoomodcaaW.PrintMore
set_option linter.unusedVariables false
set_option linter.unusedSimpArgs false
/-! The reference's solutions are the program's. -/
theorem pzFits_some (fl kd a v br : Int) (hk : okA fl kd a) (hf0 : 0 ≤ fl) (hf1 : fl ≤ 1000) (hb0 : 0 ≤ br) (hb1 : br ≤ fl) (k : Nat) (h : 14000 ≤ k) : spec_pzFits.f k fl kd a v br = some (asHasV fl kd a br == v) := by
  unfold spec_pzFits.f
  rw [pzValue_some fl kd a br hk hf0 hf1 hb0 hb1 k h]
  rfl
theorem pzAll_l1 (fl b : Int) (cs : List S25) (acc : List Int) (hcs : cs.length ≤ 1000000) (hk : ∀ x ∈ cs, okA fl x.f0 x.f1) (hf0 : 0 ≤ fl) (hf1 : fl ≤ 1000) (hb0 : 0 ≤ b) (hb1 : b ≤ fl) (hacc : acc.length ≤ 100000) (m : Nat) (hm : 14000 ≤ m) (n i : Nat) (hn : i + n = cs.length) (fit : Bool) :
    spec_pzAll.l1 (m + n + 1) fl cs acc b fit cs (cs.length : Int) (i : Int) = if (fit && (cs.drop i).all (fitsB fl b)) = true then spec_pzAll.l0 m fl cs (acc ++ [b]) (b + 1) else spec_pzAll.l0 m fl cs acc (b + 1) := by
  induction n generalizing i fit with
  | zero =>
    rw [spec_pzAll.l1, if_neg (by omega), List.drop_of_length_le (by omega), List.all_nil, Bool.and_true, Hw.wrap_id (i := b + 1) (by omega) (by omega), if_pos (show acc.length < 17592186044416 by omega)]
  | succ n ih =>
    have hlt : i < cs.length := by omega
    have hr : rd_T25 cs (i : Int) = cs[i] := by simp [rd_T25, hlt]
    rw [spec_pzAll.l1, if_pos (by omega), if_pos (by omega), if_pos (by omega), hr, Hw.wrap_id (i := (i : Int) + 1) (by omega) (by omega), List.drop_eq_getElem_cons hlt, List.all_cons, show m + (n + 1) = m + n + 1 by omega]
    have h1 := fun ft => ih (i + 1) (by omega) ft
    simp only [Int.natCast_add, Int.natCast_one] at h1
    cases fit with
    | false =>
      rw [if_neg (show ¬ (false = true) by decide), h1, Bool.false_and, Bool.false_and]
    | true =>
      rw [if_pos rfl, pzFits_some fl _ _ _ b (hk _ (List.getElem_mem hlt)) hf0 hf1 hb0 hb1 _ (by omega), Option.bind_some, h1, Bool.true_and]
      rfl
theorem pzAll_l0 (fl : Int) (cs : List S25) (hcs : cs.length ≤ 1000000) (hk : ∀ x ∈ cs, okA fl x.f0 x.f1) (hf0 : 0 ≤ fl) (hf1 : fl ≤ 1000) (n : Nat) (b : Int) (acc : List Int) (m : Nat) (hm : 14000 ≤ m) (hb0 : 0 ≤ b) (hn : b + n = fl + 1) (hacc : acc.length ≤ b) :
    spec_pzAll.l0 (m + n * (cs.length + 2) + 1) fl cs acc b = some (acc ++ solsFrom fl cs n b) := by
  induction n generalizing b acc with
  | zero => rw [spec_pzAll.l0, if_neg (by omega), solsFrom, List.append_nil]
  | succ n ih =>
    rw [spec_pzAll.l0, if_pos (by omega), show m + (n + 1) * (cs.length + 2) = (m + n * (cs.length + 2) + 1) + cs.length + 1 by rw [Nat.add_mul]; omega]
    have h1 := pzAll_l1 fl b cs acc hcs hk hf0 hf1 hb0 (by omega) (by omega) (m + n * (cs.length + 2) + 1) (by omega) cs.length 0 (by omega) true
    simp only [Int.natCast_zero, List.drop_zero, Bool.true_and] at h1
    rw [h1, solsFrom]
    split
    · rw [ih (b + 1) _ (by omega) (by omega) (by rw [List.length_append, List.length_singleton]; omega), List.append_assoc]
      rfl
    · rw [ih (b + 1) _ (by omega) (by omega) (by omega)]
theorem pzAll_some (fl : Int) (cs : List S25) (hcs : cs.length ≤ 6) (hk : ∀ x ∈ cs, okA fl x.f0 x.f1) (hf0 : 0 ≤ fl) (hf1 : fl ≤ 1000) (k : Nat) (h : 23000 ≤ k) : spec_pzAll.f k fl cs = some (solsF fl cs) := by
  unfold spec_pzAll.f solsF
  have h2 : (fl + 1).toNat * (cs.length + 2) ≤ 8008 := Nat.le_trans (Nat.mul_le_mul (show (fl + 1).toNat ≤ 1001 by omega) (show cs.length + 2 ≤ 8 by omega)) (by omega)
  have h1 := pzAll_l0 fl cs (by omega) hk hf0 hf1 (fl + 1).toNat 0 [] (k - 1 - (fl + 1).toNat * (cs.length + 2)) (by omega) (by omega) (by omega) (by simp)
  rw [show k - 1 - (fl + 1).toNat * (cs.length + 2) + (fl + 1).toNat * (cs.length + 2) + 1 = k by omega] at h1
  simpa using h1
/-! The reference's guard on puzzles is the program's. -/
def pzB (fl : Int) (x : S25) : Bool := (spec_pzClue.f fl x.f0 x.f1 x.f2).getD false
theorem pzB_some (fl : Int) (x : S25) : spec_pzClue.f fl x.f0 x.f1 x.f2 = some (pzB fl x) := pzClue_some _ _ _ _
theorem pzGood_l0 (fl : Int) (L : List S25) (hb : L.length < 9223372036854775807) : ∀ (d : Nat) (k : Nat) (i : Nat), i + d = L.length → d < k → spec_pzGood.l0 k L (L.length : Int) (i : Int) fl L = some ((L.drop i).all (pzB fl)) := by
  intro d
  induction d with
  | zero =>
    intro k i hi hk
    obtain ⟨k, rfl⟩ : ∃ m, k = m + 1 := ⟨k - 1, by omega⟩
    simp only [spec_pzGood.l0]
    rw [if_neg (by omega), List.drop_of_length_le (by omega)]
    rfl
  | succ d ih =>
    intro k i hi hk
    obtain ⟨k, rfl⟩ : ∃ m, k = m + 1 := ⟨k - 1, by omega⟩
    have hlt : i < L.length := by omega
    have h1 := ih k (i + 1) (by omega) (by omega)
    have hx : rd_T25 L (i : Int) = L[i] := by simp [rd_T25, List.getD_eq_getElem?_getD, List.getElem?_eq_getElem hlt]
    simp only [spec_pzGood.l0]
    refine Hw.ite_of (by omega) (Hw.ite_of (by omega) (Hw.ite_of (by omega) (Hw.bind_of (pzB_some fl (rd_T25 L i)) ?_)))
    rw [hx, Hw.wrap_id (by omega) (by omega), List.drop_eq_getElem_cons hlt, List.all_cons]
    cases h : pzB fl L[i]
    · rfl
    · rw [if_pos rfl, Bool.true_and]; exact h1
theorem isClue_pz (fl : Int) (h : 1 ≤ fl ∧ fl ≤ 40) (x : S25) : isClueB fl x = pzB fl x := by
  unfold isClueB
  rw [isClue_eq, if_pos h, pzB_some]
  rfl
theorem pzGood_some (fl : Int) (L : List S25) (hb : L.length ≤ 1000000) (k : Nat) (hk : 1000002 < k) : spec_pzGood.f k fl L = impl_IsPuzzle.f fl L := by
  unfold spec_pzGood.f impl_IsPuzzle.f
  obtain ⟨k, rfl⟩ : ∃ m, k = m + 1 := ⟨k - 1, by omega⟩
  refine Hw.bind_of (pzFloors_some fl) ?_
  by_cases h : 1 ≤ fl ∧ fl ≤ 40
  · rw [if_pos (by simp [h])]
    simp only [spec_pzGood.j0]
    have he : L.all (isClueB fl) = L.all (pzB fl) := congrArg L.all (funext (isClue_pz fl h))
    rw [he]
    by_cases h6 : L.length ≤ 6
    · rw [decide_eq_false (show ¬ ((L.length : Int) > 6) by omega), if_neg (by decide), decide_eq_true h6]
      have := pzGood_l0 fl L (by omega) L.length k 0 (by omega) (by omega)
      simpa [h] using this
    · rw [decide_eq_true (show (L.length : Int) > 6 by omega), if_pos rfl, decide_eq_false h6]
      simp
  · rw [if_neg (by simp; omega)]
    simp only [spec_pzGood.j0]
    have h0 : (decide (1 ≤ fl) && decide (fl ≤ 40)) = false := by simp; omega
    rw [h0]
    rfl
end Go.Proofs.Ytbkplokoomodcaa.H
