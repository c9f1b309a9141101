/- Plain lemmas of this session: what the printed functions answer. -/
import Derived.Test.YtoomacelbhojhaaAx0
import Derived.Test.YtoomacelbhojhaaAx1
import Derived.Test.YtoomacelbhojhaaAx10
import Derived.Test.YtoomacelbhojhaaAx11
import Derived.Test.YtoomacelbhojhaaAx2
import Derived.Test.YtoomacelbhojhaaAx3
import Derived.Test.YtoomacelbhojhaaAx4
import Derived.Test.YtoomacelbhojhaaAx5
import Derived.Test.YtoomacelbhojhaaAx6
import Derived.Test.YtoomacelbhojhaaAx7
import Derived.Test.YtoomacelbhojhaaAx8
import Derived.Test.YtoomacelbhojhaaAx9
import Derived.Test.YtoomacelbhojhaaHw
namespace Go.Proofs.Ytoomacelbhojhaa.A
open Go.RowKit Go.Proofs.YtoomacelbhojhaaW.PrintWords Go.Proofs.YtoomacelbhojhaaW.PrintLast Go.Proofs.YtoomacelbhojhaaW.PrintMore
set_option linter.unusedVariables false
set_option linter.unusedSimpArgs false
/-! Marked lists are held. -/
def marksI : Nat → Int → List Int
  | 0, _ => []
  | n + 1, k => k :: marksI n (k + 1)
theorem marksI_len (n : Nat) (k : Int) : (marksI n k).length = n := by
  induction n generalizing k with
  | zero => rfl
  | succ n ih => simp [marksI, ih]
theorem markInt_l0 (pre post : List Int) (a : Int) (K : Nat) (h0 : 0 ≤ a) (h1 : a + post.length ≤ 1000000000) (h2 : pre.length + post.length ≤ 1000000000) (hK : post.length < K) :
    laws_markIntS.l0 K (pre ++ post) a (pre.length : Int) = some (a + post.length, pre ++ marksI post.length a) := by
  induction post generalizing pre a K with
  | nil =>
    obtain ⟨K, rfl⟩ : ∃ m, K = m + 1 := ⟨K - 1, by simp at hK; omega⟩
    rw [laws_markIntS.l0, if_neg (by simp)]
    simp [marksI]
  | cons x xs ih =>
    obtain ⟨K, rfl⟩ : ∃ m, K = m + 1 := ⟨K - 1, by omega⟩
    rw [List.length_cons] at h1 h2 hK
    rw [laws_markIntS.l0, if_pos (by simp; omega), if_pos (by omega), Hw.wrap_id (by omega) (by omega), Hw.wrap_id (by omega) (by omega), Int.toNat_natCast, List.set_append_right _ _ (Nat.le_refl _), Nat.sub_self, List.set_cons_zero]
    have h := ih (pre ++ [a]) (a + 1) K (by omega) (by omega) (by simp; omega) (by omega)
    rw [List.append_assoc, List.singleton_append, List.length_append, List.length_singleton] at h
    rw [show (pre.length : Int) + 1 = ((pre.length + 1 : Nat) : Int) by omega, h, List.length_cons, marksI]
    simp
    omega
theorem markInt_some (l : List Int) (hl : l.length ≤ 1000000) (K : Nat) (hK : l.length < K) : laws_markIntS.f K l 101 = some (101 + (l.length : Int), marksI l.length 101) := by
  have := markInt_l0 [] l 101 K (by omega) (by omega) (by simp; omega) hK
  simpa [laws_markIntS.f] using this
end Go.Proofs.Ytoomacelbhojhaa.A
