/- Plain lemmas of this session: what the printed functions answer. -/
import Derived.Test.YtmakhnpjfdgocaaDoorPx0
import Derived.Test.YtmakhnpjfdgocaaDoorPx1
import Derived.Test.YtmakhnpjfdgocaaDoorPx2
import Derived.Test.YtmakhnpjfdgocaaDoorPx3
import Derived.Test.YtmakhnpjfdgocaaDoorPx4
import Derived.Test.YtmakhnpjfdgocaaDoorPx5
import Derived.Test.YtmakhnpjfdgocaaDoorPx6
import Derived.Test.YtmakhnpjfdgocaaDoorPx7
import Derived.Test.YtmakhnpjfdgocaaDoorPx8
import Derived.Test.YtmakhnpjfdgocaaDoorHw
import Derived.Test.YtmakhnpjfdgocaaDoorPel1
import Derived.Test.YtmakhnpjfdgocaaDoorPeclue
namespace Go.Proofs.YtmakhnpjfdgocaaDoor.P
open Go.RowKit Go.Proofs.YtmakhnpjfdgocaaDoorW.PrintWords Go.Proofs.YtmakhnpjfdgocaaDoorW.PrintLast Go.Proofs.YtmakhnpjfdgocaaDoorW.PrintMore
set_option linter.unusedVariables false
set_option linter.unusedSimpArgs false
/-! The reference's test of puzzles is the program's. -/
def pzB (fl : Int) (x : S49) : Bool := (spec_pzClue.f fl x.f0 x.f1 x.f2).getD false
theorem pzB_some (fl : Int) (x : S49) : spec_pzClue.f fl x.f0 x.f1 x.f2 = some (pzB fl x) := pzClue_some _ _ _ _
theorem pzGood_l0 (fl : Int) (L : List S49) (hb : L.length < 9223372036854775807) : ∀ (d : Nat) (k : Nat) (i : Nat), i + d = L.length → d < k → spec_pzGood.l0 k L (L.length : Int) (i : Int) fl L = some ((L.drop i).all (pzB fl)) := by
  intro d
  induction d with
  | zero =>
    intro k i hi hk
    obtain ⟨k, rfl⟩ : ∃ m, k = m + 1 := ⟨k - 1, by omega⟩
    simp only [spec_pzGood.l0]
    rw [if_neg (by omega), List.drop_of_length_le (by omega)]
    rfl
  | succ d ih =>
    intro k i hi hk
    obtain ⟨k, rfl⟩ : ∃ m, k = m + 1 := ⟨k - 1, by omega⟩
    have hlt : i < L.length := by omega
    have h1 := ih k (i + 1) (by omega) (by omega)
    have hx : rd_T49 L (i : Int) = L[i] := by simp [rd_T49, List.getD_eq_getElem?_getD, List.getElem?_eq_getElem hlt]
    simp only [spec_pzGood.l0]
    refine Hw.ite_of (by omega) (Hw.ite_of (by omega) (Hw.ite_of (by omega) (Hw.bind_of (pzB_some fl (rd_T49 L i)) ?_)))
    rw [hx, Hw.wrap_id (by omega) (by omega), List.drop_eq_getElem_cons hlt, List.all_cons]
    cases h : pzB fl L[i]
    · rfl
    · rw [if_pos rfl, Bool.true_and]; exact h1
theorem isClue_pz (fl : Int) (h : 1 ≤ fl ∧ fl ≤ 40) (x : S49) : isClueB fl x = pzB fl x := by
  unfold isClueB
  rw [isClue_eq, if_pos h, pzB_some]
  rfl
theorem pzGood_some (fl : Int) (L : List S49) (hb : L.length ≤ 1000000) (k : Nat) (hk : 1000002 < k) : spec_pzGood.f k fl L = impl_IsPuzzle.f fl L := by
  unfold spec_pzGood.f impl_IsPuzzle.f
  obtain ⟨k, rfl⟩ : ∃ m, k = m + 1 := ⟨k - 1, by omega⟩
  refine Hw.bind_of (pzFloors_some fl) ?_
  by_cases h : 1 ≤ fl ∧ fl ≤ 40
  · rw [if_pos (by simp [h])]
    simp only [spec_pzGood.j0]
    have he : L.all (isClueB fl) = L.all (pzB fl) := congrArg L.all (funext (isClue_pz fl h))
    rw [he]
    by_cases h6 : L.length ≤ 6
    · rw [decide_eq_false (show ¬ ((L.length : Int) > 6) by omega), if_neg (by decide), decide_eq_true h6]
      have := pzGood_l0 fl L (by omega) L.length k 0 (by omega) (by omega)
      simpa [h] using this
    · rw [decide_eq_true (show (L.length : Int) > 6 by omega), if_pos rfl, decide_eq_false h6]
      simp
  · rw [if_neg (by simp; omega)]
    simp only [spec_pzGood.j0]
    have h0 : (decide (1 ≤ fl) && decide (fl ≤ 40)) = false := by simp; omega
    rw [h0]
    rfl
end Go.Proofs.YtmakhnpjfdgocaaDoor.P
