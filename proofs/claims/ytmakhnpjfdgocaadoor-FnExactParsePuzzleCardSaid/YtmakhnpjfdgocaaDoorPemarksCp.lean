/- Plain lemmas of this session: what the printed functions answer. -/
import Derived.Test.YtmakhnpjfdgocaaDoorPx0
import Derived.Test.YtmakhnpjfdgocaaDoorPx1
import Derived.Test.YtmakhnpjfdgocaaDoorPx2
import Derived.Test.YtmakhnpjfdgocaaDoorPx3
import Derived.Test.YtmakhnpjfdgocaaDoorPx4
import Derived.Test.YtmakhnpjfdgocaaDoorPx5
import Derived.Test.YtmakhnpjfdgocaaDoorPx6
import Derived.Test.YtmakhnpjfdgocaaDoorPx7
import Derived.Test.YtmakhnpjfdgocaaDoorPx8
import Derived.Test.YtmakhnpjfdgocaaDoorHw
import Derived.Test.YtmakhnpjfdgocaaDoorPel1
import Derived.Test.YtmakhnpjfdgocaaDoorPeclue
import Derived.Test.YtmakhnpjfdgocaaDoorPegood
namespace Go.Proofs.YtmakhnpjfdgocaaDoor.P
open Go.RowKit Go.Proofs.YtmakhnpjfdgocaaDoorW.PrintWords Go.Proofs.YtmakhnpjfdgocaaDoorW.PrintLast Go.Proofs.YtmakhnpjfdgocaaDoorW.PrintMore
set_option linter.unusedVariables false
set_option linter.unusedSimpArgs false
/-! Marked clues are held. -/
def marksC : Nat → Int → List S49
  | 0, _ => []
  | n + 1, k => ⟨k, k + 1, k + 2⟩ :: marksC n (k + 3)
theorem marksC_len (n : Nat) (k : Int) : (marksC n k).length = n := by
  induction n generalizing k with
  | zero => rfl
  | succ n ih => simp [marksC, ih]
theorem rdCl (pre xs : List S49) (x : S49) : rd_T49 (pre ++ x :: xs) (pre.length : Int) = x := by simp [rd_T49]
theorem setC (pre xs : List S49) (x y : S49) : (pre ++ x :: xs).set pre.length y = pre ++ y :: xs := by
  rw [List.set_append_right _ _ (Nat.le_refl _), Nat.sub_self, List.set_cons_zero]
theorem markClue_l0 (pre post : List S49) (a : Int) (K : Nat) (h0 : 0 ≤ a) (h1 : a + 3 * post.length ≤ 1000000000) (h2 : pre.length + post.length ≤ 1000000000) (hK : post.length < K) :
    laws_markClueS.l0 K (pre ++ post) a (pre.length : Int) = some (a + 3 * post.length, pre ++ marksC post.length a) := by
  induction post generalizing pre a K with
  | nil =>
    obtain ⟨K, rfl⟩ : ∃ m, K = m + 1 := ⟨K - 1, by simp at hK; omega⟩
    rw [laws_markClueS.l0, if_neg (by simp)]
    simp [marksC]
  | cons x xs ih =>
    obtain ⟨K, rfl⟩ : ∃ m, K = m + 1 := ⟨K - 1, by omega⟩
    rw [List.length_cons] at h1 h2 hK
    have w1 : wrap64 (a + 1) = a + 1 := Hw.wrap_id (by omega) (by omega)
    have w2 : wrap64 (a + 1 + 1) = a + 2 := by rw [Hw.wrap_id (by omega) (by omega)]; omega
    have w3 : wrap64 (a + 2 + 1) = a + 3 := by rw [Hw.wrap_id (by omega) (by omega)]; omega
    have w4 : wrap64 ((pre.length : Int) + 1) = ((pre.length + 1 : Nat) : Int) := by rw [Hw.wrap_id (by omega) (by omega)]; omega
    rw [laws_markClueS.l0, if_pos (by simp; omega), if_pos (by omega), Int.toNat_natCast, rdCl, setC, Option.bind_some, rdCl, setC, Option.bind_some, rdCl, setC, w1, w2, w3, w4]
    have h := ih (pre ++ [⟨a, a + 1, a + 2⟩]) (a + 3) K (by omega) (by omega) (by simp; omega) (by omega)
    rw [List.append_assoc, List.singleton_append, List.length_append, List.length_singleton] at h
    rw [h, List.length_cons, marksC]
    simp
    omega
theorem markClue_some (l : List S49) (hl : l.length ≤ 1000000) (K : Nat) (hK : l.length < K) : laws_markClueS.f K l 101 = some (101 + 3 * (l.length : Int), marksC l.length 101) := by
  have := markClue_l0 [] l 101 K (by omega) (by omega) (by simp; omega) hK
  simpa [laws_markClueS.f] using this
theorem markPuzzle_some (a0 : Int) (l : List S49) (hl : l.length ≤ 1000000) (K : Nat) (hK : l.length < K) : laws_markPuzzle.f K a0 l 101 = some (101 + 3 * (l.length : Int), marksC l.length 101) := by
  unfold laws_markPuzzle.f
  rw [markClue_some l hl K hK]
  rfl
end Go.Proofs.YtmakhnpjfdgocaaDoor.P
