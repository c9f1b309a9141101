/- Plain lemmas of this session: what the printed functions answer. -/
import Derived.Test.YtgolncpnephdcaaPx0
import Derived.Test.YtgolncpnephdcaaPx1
import Derived.Test.YtgolncpnephdcaaPx2
import Derived.Test.YtgolncpnephdcaaPx3
import Derived.Test.YtgolncpnephdcaaPx4
import Derived.Test.YtgolncpnephdcaaPx5
import Derived.Test.YtgolncpnephdcaaHw
import Derived.Test.YtgolncpnephdcaaPel1i
import Derived.Test.YtgolncpnephdcaaPekinds
import Derived.Test.YtgolncpnephdcaaPepairs
import Derived.Test.YtgolncpnephdcaaPemarks
namespace Go.Proofs.Ytgolncpnephdcaa.P
open Go.RowKit Go.Proofs.YtgolncpnephdcaaW.PrintWords Go.Proofs.YtgolncpnephdcaaW.PrintLast Go.Proofs.YtgolncpnephdcaaW.PrintMore
set_option linter.unusedVariables false
set_option linter.unusedSimpArgs false
/-! Marked tests of two kinds. -/
def marksK : Nat → Int → List S65
  | 0, _ => []
  | n + 1, k => ⟨Int.tmod k 3 == 0, k + 1, Int.tmod (k + 2) 3 == 0⟩ :: marksK n (k + 3)
theorem marksK_len (n : Nat) (k : Int) : (marksK n k).length = n := by
  induction n generalizing k with
  | zero => rfl
  | succ n ih => simp [marksK, ih]
theorem rdK (pre xs : List S65) (x : S65) : rd_T65 (pre ++ x :: xs) (pre.length : Int) = x := by simp [rd_T65]
theorem setK (pre xs : List S65) (x y : S65) : (pre ++ x :: xs).set pre.length y = pre ++ y :: xs := by
  rw [List.set_append_right _ _ (Nat.le_refl _), Nat.sub_self, List.set_cons_zero]
theorem markKindTest_l0 (pre post : List S65) (a : Int) (K : Nat) (h0 : 0 ≤ a) (h1 : a + 3 * post.length ≤ 1000000000) (h2 : pre.length + post.length ≤ 1000000000) (hK : post.length < K) :
    laws_markKindTestS.l0 K (pre ++ post) a (pre.length : Int) = some (a + 3 * post.length, pre ++ marksK post.length a) := by
  induction post generalizing pre a K with
  | nil =>
    obtain ⟨K, rfl⟩ : ∃ m, K = m + 1 := ⟨K - 1, by simp at hK; omega⟩
    rw [laws_markKindTestS.l0, if_neg (by simp)]
    simp [marksK]
  | cons x xs ih =>
    obtain ⟨K, rfl⟩ : ∃ m, K = m + 1 := ⟨K - 1, by omega⟩
    rw [List.length_cons] at h1 h2 hK
    have w1 : wrap64 (a + 1) = a + 1 := Hw.wrap_id (by omega) (by omega)
    have w2 : wrap64 (a + 1 + 1) = a + 2 := by rw [Hw.wrap_id (by omega) (by omega)]; omega
    have w3 : wrap64 (a + 2 + 1) = a + 3 := by rw [Hw.wrap_id (by omega) (by omega)]; omega
    have w4 : wrap64 ((pre.length : Int) + 1) = ((pre.length + 1 : Nat) : Int) := by rw [Hw.wrap_id (by omega) (by omega)]; omega
    rw [laws_markKindTestS.l0, if_pos (by simp; omega), if_pos (by omega), Int.toNat_natCast, rdK, setK, Option.bind_some, rdK, setK, Option.bind_some, rdK, setK, w1, w2, w3, w4]
    have h := ih (pre ++ [⟨Int.tmod a 3 == 0, a + 1, Int.tmod (a + 2) 3 == 0⟩]) (a + 3) K (by omega) (by omega) (by simp; omega) (by omega)
    rw [List.append_assoc, List.singleton_append, List.length_append, List.length_singleton] at h
    rw [h, List.length_cons, marksK]
    simp
    omega
theorem markKindTest_some (l : List S65) (hl : l.length ≤ 1000000) (K : Nat) (hK : l.length < K) : laws_markKindTestS.f K l 101 = some (101 + 3 * (l.length : Int), marksK l.length 101) := by
  have := markKindTest_l0 [] l 101 K (by omega) (by omega) (by simp; omega) hK
  simpa [laws_markKindTestS.f] using this
end Go.Proofs.Ytgolncpnephdcaa.P
