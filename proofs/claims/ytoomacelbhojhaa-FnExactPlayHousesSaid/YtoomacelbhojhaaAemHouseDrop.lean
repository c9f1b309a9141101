/- Plain lemmas of this session: what the printed functions answer. -/
import Derived.Test.YtoomacelbhojhaaAx0
import Derived.Test.YtoomacelbhojhaaAx1
import Derived.Test.YtoomacelbhojhaaAx10
import Derived.Test.YtoomacelbhojhaaAx11
import Derived.Test.YtoomacelbhojhaaAx2
import Derived.Test.YtoomacelbhojhaaAx3
import Derived.Test.YtoomacelbhojhaaAx4
import Derived.Test.YtoomacelbhojhaaAx5
import Derived.Test.YtoomacelbhojhaaAx6
import Derived.Test.YtoomacelbhojhaaAx7
import Derived.Test.YtoomacelbhojhaaAx8
import Derived.Test.YtoomacelbhojhaaAx9
import Derived.Test.YtoomacelbhojhaaHw
import Derived.Test.YtoomacelbhojhaaAemarksM
import Derived.Test.YtoomacelbhojhaaAeints
import Derived.Test.YtoomacelbhojhaaAeints2
namespace Go.Proofs.Ytoomacelbhojhaa.A
open Go.RowKit Go.Proofs.YtoomacelbhojhaaW.PrintWords Go.Proofs.YtoomacelbhojhaaW.PrintLast Go.Proofs.YtoomacelbhojhaaW.PrintMore
set_option linter.unusedVariables false
set_option linter.unusedSimpArgs false
/-! Marked lists of HouseDrop are held; a list equals itself. -/
def marksHouseDrop : Nat → Int → List S104
  | 0, _ => []
  | n + 1, k => ⟨k, k + 1, (Int.tmod (k + 2) 3 == 0)⟩ :: marksHouseDrop n (k + 3)
theorem marksHouseDrop_len (n : Nat) (k : Int) : (marksHouseDrop n k).length = n := by
  induction n generalizing k with
  | zero => rfl
  | succ n ih => simp [marksHouseDrop, ih]
theorem rdHouseDrop (pre xs : List S104) (x : S104) : rd_T104 (pre ++ x :: xs) (pre.length : Int) = x := by simp [rd_T104]
theorem setHouseDrop (pre xs : List S104) (x y : S104) : (pre ++ x :: xs).set pre.length y = pre ++ y :: xs := by
  rw [List.set_append_right _ _ (Nat.le_refl _), Nat.sub_self, List.set_cons_zero]
theorem markHouseDrop_l0 (pre post : List S104) (a : Int) (K : Nat) (h0 : 0 ≤ a) (h1 : a + 3 * post.length ≤ 1000000000) (h2 : pre.length + post.length ≤ 1000000000) (hK : post.length < K) :
    laws_markHouseDropS.l0 K (pre ++ post) a (pre.length : Int) = some (a + 3 * post.length, pre ++ marksHouseDrop post.length a) := by
  induction post generalizing pre a K with
  | nil =>
    obtain ⟨K, rfl⟩ : ∃ m, K = m + 1 := ⟨K - 1, by simp at hK; omega⟩
    rw [laws_markHouseDropS.l0, if_neg (by simp)]
    simp [marksHouseDrop]
  | cons x xs ih =>
    obtain ⟨K, rfl⟩ : ∃ m, K = m + 1 := ⟨K - 1, by omega⟩
    rw [List.length_cons] at h1 h2 hK
    have w1 : wrap64 (a + 1) = a + 1 := by rw [Hw.wrap_id (by omega) (by omega)]
    have w2 : wrap64 (a + 1 + 1) = a + 2 := by rw [Hw.wrap_id (by omega) (by omega)]; omega
    have w3 : wrap64 (a + 2 + 1) = a + 3 := by rw [Hw.wrap_id (by omega) (by omega)]; omega
    have wi : wrap64 ((pre.length : Int) + 1) = ((pre.length + 1 : Nat) : Int) := by rw [Hw.wrap_id (by omega) (by omega)]; omega
    rw [laws_markHouseDropS.l0, if_pos (by simp; omega), if_pos (by omega), Int.toNat_natCast, rdHouseDrop, setHouseDrop, Option.bind_some, rdHouseDrop, setHouseDrop, Option.bind_some, rdHouseDrop, setHouseDrop, w1, w2, w3, wi]
    have h := ih (pre ++ [⟨a, a + 1, (Int.tmod (a + 2) 3 == 0)⟩]) (a + 3) K (by omega) (by omega) (by simp; omega) (by omega)
    rw [List.append_assoc, List.singleton_append, List.length_append, List.length_singleton] at h
    rw [h, List.length_cons, marksHouseDrop]
    simp
    omega
theorem markHouseDrop_some (l : List S104) (hl : l.length ≤ 1000000) (K : Nat) (hK : l.length < K) : laws_markHouseDropS.f K l 101 = some (101 + 3 * (l.length : Int), marksHouseDrop l.length 101) := by
  have := markHouseDrop_l0 [] l 101 K (by omega) (by omega) (by simp; omega) hK
  simpa [laws_markHouseDropS.f] using this
theorem heldHouseDrop_l0 (n : Nat) (pre : List S104) (a : Int) (m : Nat) (h0 : 0 ≤ a) (h1 : a + 3 * n ≤ 1000000000) (h2 : pre.length + n ≤ 1000000000) :
    laws_heldHouseDropS.l0 (m + n + 1) (pre ++ marksHouseDrop n a) a (pre.length : Int) = some (a + 3 * n) := by
  induction n generalizing pre a with
  | zero =>
    rw [laws_heldHouseDropS.l0, if_neg (by simp [marksHouseDrop])]
    simp
  | succ n ih =>
    have w1 : wrap64 (a + 1) = a + 1 := by rw [Hw.wrap_id (by omega) (by omega)]
    have w2 : wrap64 (a + 1 + 1) = a + 2 := by rw [Hw.wrap_id (by omega) (by omega)]; omega
    have w3 : wrap64 (a + 2 + 1) = a + 3 := by rw [Hw.wrap_id (by omega) (by omega)]; omega
    have wi : wrap64 ((pre.length : Int) + 1) = ((pre.length + 1 : Nat) : Int) := by rw [Hw.wrap_id (by omega) (by omega)]; omega
    rw [laws_heldHouseDropS.l0, if_pos (by rw [List.length_append, marksHouseDrop_len]; omega), if_pos (by omega), marksHouseDrop, rdHouseDrop, w1, w2, w3, wi, if_pos rfl, if_pos rfl, if_neg (by simp)]
    have h := ih (pre ++ [⟨a, a + 1, (Int.tmod (a + 2) 3 == 0)⟩]) (a + 3) (by omega) (by omega) (by simp; omega)
    rw [List.append_assoc, List.singleton_append, List.length_append, List.length_singleton] at h
    rw [show m + (n + 1) = m + n + 1 by omega, h]
    congr 1
    omega
theorem heldHouseDrop_some (n : Nat) (hn : n ≤ 1000000) (K : Nat) (hK : n < K) : laws_heldHouseDropS.f K (marksHouseDrop n 101) 101 = some (101 + 3 * (n : Int)) := by
  have := heldHouseDrop_l0 n [] 101 (K - n - 1) (by omega) (by omega) (by simp; omega)
  rw [show K - n - 1 + n + 1 = K by omega] at this
  simpa [laws_heldHouseDropS.f] using this
theorem eqHouseDrop_l0 (F : List S104) (hb : F.length ≤ 1000000) (n : Nat) : ∀ (i k : Nat), i + n = F.length → n < k → laws_eqHouseDropS.l0 k F F (i : Int) = some true := by
  induction n with
  | zero =>
    intro i k h1 hk
    obtain ⟨k, rfl⟩ : ∃ m, k = m + 1 := ⟨k - 1, by omega⟩
    rw [laws_eqHouseDropS.l0, if_neg (by omega)]
  | succ n ih =>
    intro i k h1 hk
    obtain ⟨k, rfl⟩ : ∃ m, k = m + 1 := ⟨k - 1, by omega⟩
    rw [laws_eqHouseDropS.l0, if_pos (by omega), if_pos (by omega), if_pos (by omega)]
    refine Hw.bind_of (a := true) (by simp [laws_eqHouseDrop.f]) ?_
    rw [if_pos rfl, Hw.wrap_id (by omega) (by omega), show (i : Int) + 1 = ((i + 1 : Nat) : Int) by omega]
    exact ih (i + 1) k (by omega) (by omega)
theorem eqHouseDrop_self (F : List S104) (hb : F.length ≤ 1000000) (k : Nat) (hk : F.length < k) : laws_eqHouseDropS.f k F F = some true := by
  unfold laws_eqHouseDropS.f
  rw [if_pos rfl, show (0 : Int) = ((0 : Nat) : Int) from rfl]
  exact eqHouseDrop_l0 F hb F.length 0 k (by omega) hk
end Go.Proofs.Ytoomacelbhojhaa.A
