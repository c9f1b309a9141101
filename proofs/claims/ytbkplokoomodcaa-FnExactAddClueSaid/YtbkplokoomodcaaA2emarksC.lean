/- Plain lemmas of this session: what the printed functions answer. -/
import Derived.Test.YtbkplokoomodcaaA2x0
import Derived.Test.YtbkplokoomodcaaA2x1
import Derived.Test.YtbkplokoomodcaaA2x2
import Derived.Test.YtbkplokoomodcaaA2x3
import Derived.Test.YtbkplokoomodcaaA2x4
import Derived.Test.YtbkplokoomodcaaA2x5
import Derived.Test.YtbkplokoomodcaaA2x6
import Derived.Test.YtbkplokoomodcaaA2x7
import Derived.Test.YtbkplokoomodcaaHw
import Derived.Test.YtbkplokoomodcaaA2el1
import Derived.Test.YtbkplokoomodcaaA2eclue
import Derived.Test.YtbkplokoomodcaaA2egood
import Derived.Test.YtbkplokoomodcaaA2eszPuzzle
namespace Go.Proofs.Ytbkplokoomodcaa.A2
open Go.RowKit Go.Proofs.YtbkplokoomodcaaW.PrintWords Go.Proofs.YtbkplokoomodcaaW.PrintLast Go.Proofs.YtbkplokoomodcaaW.PrintMore
set_option linter.unusedVariables false
set_option linter.unusedSimpArgs false
/-! Marked clues are held. -/
def marksC : Nat → Int → List S25
  | 0, _ => []
  | n + 1, k => ⟨k, k + 1, k + 2⟩ :: marksC n (k + 3)
theorem marksC_len (n : Nat) (k : Int) : (marksC n k).length = n := by
  induction n generalizing k with
  | zero => rfl
  | succ n ih => simp [marksC, ih]
theorem rdC (pre xs : List S25) (x : S25) : rd_T25 (pre ++ x :: xs) (pre.length : Int) = x := by simp [rd_T25]
theorem setC (pre xs : List S25) (x y : S25) : (pre ++ x :: xs).set pre.length y = pre ++ y :: xs := by
  rw [List.set_append_right _ _ (Nat.le_refl _), Nat.sub_self, List.set_cons_zero]
theorem markClue_l0 (pre post : List S25) (a : Int) (K : Nat) (h0 : 0 ≤ a) (h1 : a + 3 * post.length ≤ 1000000000) (h2 : pre.length + post.length ≤ 1000000000) (hK : post.length < K) :
    laws_markClueS.l0 K (pre ++ post) a (pre.length : Int) = some (a + 3 * post.length, pre ++ marksC post.length a) := by
  induction post generalizing pre a K with
  | nil =>
    obtain ⟨K, rfl⟩ : ∃ m, K = m + 1 := ⟨K - 1, by simp at hK; omega⟩
    rw [laws_markClueS.l0, if_neg (by simp)]
    simp [marksC]
  | cons x xs ih =>
    obtain ⟨K, rfl⟩ : ∃ m, K = m + 1 := ⟨K - 1, by omega⟩
    rw [List.length_cons] at h1 h2 hK
    have w1 : wrap64 (a + 1) = a + 1 := Hw.wrap_id (by omega) (by omega)
    have w2 : wrap64 (a + 1 + 1) = a + 2 := by rw [Hw.wrap_id (by omega) (by omega)]; omega
    have w3 : wrap64 (a + 2 + 1) = a + 3 := by rw [Hw.wrap_id (by omega) (by omega)]; omega
    have w4 : wrap64 ((pre.length : Int) + 1) = ((pre.length + 1 : Nat) : Int) := by rw [Hw.wrap_id (by omega) (by omega)]; omega
    rw [laws_markClueS.l0, if_pos (by simp; omega), if_pos (by omega), Int.toNat_natCast, rdC, setC, Option.bind_some, rdC, setC, Option.bind_some, rdC, setC, w1, w2, w3, w4]
    have h := ih (pre ++ [⟨a, a + 1, a + 2⟩]) (a + 3) K (by omega) (by omega) (by simp; omega) (by omega)
    rw [List.append_assoc, List.singleton_append, List.length_append, List.length_singleton] at h
    rw [h, List.length_cons, marksC]
    simp
    omega
theorem markClue_some (l : List S25) (hl : l.length ≤ 1000000) (K : Nat) (hK : l.length < K) : laws_markClueS.f K l 101 = some (101 + 3 * (l.length : Int), marksC l.length 101) := by
  have := markClue_l0 [] l 101 K (by omega) (by omega) (by simp; omega) hK
  simpa [laws_markClueS.f] using this
theorem markPuzzle_some (a0 : Int) (l : List S25) (hl : l.length ≤ 1000000) (K : Nat) (hK : l.length < K) : laws_markPuzzle.f K a0 l 101 = some (101 + 3 * (l.length : Int), marksC l.length 101) := by
  unfold laws_markPuzzle.f
  rw [markClue_some l hl K hK]
  rfl
end Go.Proofs.Ytbkplokoomodcaa.A2
