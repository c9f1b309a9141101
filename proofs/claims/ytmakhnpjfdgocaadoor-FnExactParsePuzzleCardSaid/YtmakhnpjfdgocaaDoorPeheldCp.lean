/- Plain lemmas of this session: what the printed functions answer. -/
import Derived.Test.YtmakhnpjfdgocaaDoorPx0
import Derived.Test.YtmakhnpjfdgocaaDoorPx1
import Derived.Test.YtmakhnpjfdgocaaDoorPx2
import Derived.Test.YtmakhnpjfdgocaaDoorPx3
import Derived.Test.YtmakhnpjfdgocaaDoorPx4
import Derived.Test.YtmakhnpjfdgocaaDoorPx5
import Derived.Test.YtmakhnpjfdgocaaDoorPx6
import Derived.Test.YtmakhnpjfdgocaaDoorPx7
import Derived.Test.YtmakhnpjfdgocaaDoorPx8
import Derived.Test.YtmakhnpjfdgocaaDoorHw
import Derived.Test.YtmakhnpjfdgocaaDoorPel1
import Derived.Test.YtmakhnpjfdgocaaDoorPeclue
import Derived.Test.YtmakhnpjfdgocaaDoorPegood
import Derived.Test.YtmakhnpjfdgocaaDoorPemarksCp
namespace Go.Proofs.YtmakhnpjfdgocaaDoor.P
open Go.RowKit Go.Proofs.YtmakhnpjfdgocaaDoorW.PrintWords Go.Proofs.YtmakhnpjfdgocaaDoorW.PrintLast Go.Proofs.YtmakhnpjfdgocaaDoorW.PrintMore
set_option linter.unusedVariables false
set_option linter.unusedSimpArgs false
/-! Held clues; a puzzle equals itself. -/
theorem heldClue_l0 (n : Nat) (pre : List S49) (a : Int) (m : Nat) (h0 : 0 ≤ a) (h1 : a + 3 * n ≤ 1000000000) (h2 : pre.length + n ≤ 1000000000) :
    laws_heldClueS.l0 (m + n + 1) (pre ++ marksC n a) a (pre.length : Int) = some (a + 3 * n) := by
  induction n generalizing pre a with
  | zero =>
    rw [laws_heldClueS.l0, if_neg (by simp [marksC])]
    simp
  | succ n ih =>
    have w1 : wrap64 (a + 1) = a + 1 := Hw.wrap_id (by omega) (by omega)
    have w2 : wrap64 (a + 1 + 1) = a + 2 := by rw [Hw.wrap_id (by omega) (by omega)]; omega
    have w3 : wrap64 (a + 2 + 1) = a + 3 := by rw [Hw.wrap_id (by omega) (by omega)]; omega
    have w4 : wrap64 ((pre.length : Int) + 1) = ((pre.length + 1 : Nat) : Int) := by rw [Hw.wrap_id (by omega) (by omega)]; omega
    rw [laws_heldClueS.l0, if_pos (by rw [List.length_append, marksC_len]; omega), if_pos (by omega), marksC, rdCl, if_pos rfl, w1, if_pos rfl, w2, if_pos rfl, w3, w4]
    have h := ih (pre ++ [⟨a, a + 1, a + 2⟩]) (a + 3) (by omega) (by omega) (by simp; omega)
    rw [List.append_assoc, List.singleton_append, List.length_append, List.length_singleton] at h
    rw [show m + (n + 1) = m + n + 1 by omega, h]
    congr 1
    omega
theorem heldClue_some (n : Nat) (hn : n ≤ 1000000) (K : Nat) (hK : n < K) : laws_heldClueS.f K (marksC n 101) 101 = some (101 + 3 * (n : Int)) := by
  have := heldClue_l0 n [] 101 (K - n - 1) (by omega) (by omega) (by simp; omega)
  rw [show K - n - 1 + n + 1 = K by omega] at this
  simpa [laws_heldClueS.f] using this
theorem heldPuzzle_some (a0 : Int) (n : Nat) (hn : n ≤ 1000000) (K : Nat) (hK : n < K) : laws_heldPuzzle.f K a0 (marksC n 101) 101 = some (101 + 3 * (n : Int)) := by
  unfold laws_heldPuzzle.f
  rw [heldClue_some n hn K hK, Option.bind_some, if_neg (by omega)]
theorem eqClueM_l0 (F : List S49) (hb : F.length ≤ 1000000) (n : Nat) : ∀ (i k : Nat), i + n = F.length → n < k → laws_eqClueS.l0 k F F (i : Int) = some true := by
  induction n with
  | zero =>
    intro i k h1 hk
    obtain ⟨k, rfl⟩ : ∃ m, k = m + 1 := ⟨k - 1, by omega⟩
    rw [laws_eqClueS.l0, if_neg (by omega)]
  | succ n ih =>
    intro i k h1 hk
    obtain ⟨k, rfl⟩ : ∃ m, k = m + 1 := ⟨k - 1, by omega⟩
    rw [laws_eqClueS.l0, if_pos (by omega), if_pos (by omega), if_pos (by omega)]
    refine Hw.bind_of (a := true) (by simp [laws_eqClue.f]) ?_
    rw [if_pos rfl, Hw.wrap_id (by omega) (by omega), show (i : Int) + 1 = ((i + 1 : Nat) : Int) by omega]
    exact ih (i + 1) k (by omega) (by omega)
theorem eqPuzzle_self (a0 : Int) (F : List S49) (hb : F.length ≤ 1000000) (k : Nat) (hk : F.length < k) : laws_eqPuzzle.f k a0 F a0 F = some true := by
  unfold laws_eqPuzzle.f laws_eqClueS.f
  rw [if_pos rfl, if_pos rfl, show (0 : Int) = ((0 : Nat) : Int) from rfl, eqClueM_l0 F hb F.length 0 k (by omega) hk]
  rfl
end Go.Proofs.YtmakhnpjfdgocaaDoor.P
