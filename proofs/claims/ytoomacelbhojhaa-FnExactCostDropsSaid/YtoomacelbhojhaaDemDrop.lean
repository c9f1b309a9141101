/- Plain lemmas of this session: what the printed functions answer. -/
import Derived.Test.YtoomacelbhojhaaDx0
import Derived.Test.YtoomacelbhojhaaDx1
import Derived.Test.YtoomacelbhojhaaDx2
import Derived.Test.YtoomacelbhojhaaDx3
import Derived.Test.YtoomacelbhojhaaDx4
import Derived.Test.YtoomacelbhojhaaDx5
import Derived.Test.YtoomacelbhojhaaDx6
import Derived.Test.YtoomacelbhojhaaDx7
import Derived.Test.YtoomacelbhojhaaDx8
import Derived.Test.YtoomacelbhojhaaHw
namespace Go.Proofs.Ytoomacelbhojhaa.D
open Go.RowKit Go.Proofs.YtoomacelbhojhaaW.PrintWords Go.Proofs.YtoomacelbhojhaaW.PrintLast Go.Proofs.YtoomacelbhojhaaW.PrintMore
set_option linter.unusedVariables false
set_option linter.unusedSimpArgs false
/-! Marked lists of Drop are held; a list equals itself. -/
def marksDrop : Nat → Int → List S89
  | 0, _ => []
  | n + 1, k => ⟨k, (Int.tmod (k + 1) 3 == 0)⟩ :: marksDrop n (k + 2)
theorem marksDrop_len (n : Nat) (k : Int) : (marksDrop n k).length = n := by
  induction n generalizing k with
  | zero => rfl
  | succ n ih => simp [marksDrop, ih]
theorem rdDrop (pre xs : List S89) (x : S89) : rd_T89 (pre ++ x :: xs) (pre.length : Int) = x := by simp [rd_T89]
theorem setDrop (pre xs : List S89) (x y : S89) : (pre ++ x :: xs).set pre.length y = pre ++ y :: xs := by
  rw [List.set_append_right _ _ (Nat.le_refl _), Nat.sub_self, List.set_cons_zero]
theorem markDrop_l0 (pre post : List S89) (a : Int) (K : Nat) (h0 : 0 ≤ a) (h1 : a + 2 * post.length ≤ 1000000000) (h2 : pre.length + post.length ≤ 1000000000) (hK : post.length < K) :
    laws_markDropS.l0 K (pre ++ post) a (pre.length : Int) = some (a + 2 * post.length, pre ++ marksDrop post.length a) := by
  induction post generalizing pre a K with
  | nil =>
    obtain ⟨K, rfl⟩ : ∃ m, K = m + 1 := ⟨K - 1, by simp at hK; omega⟩
    rw [laws_markDropS.l0, if_neg (by simp)]
    simp [marksDrop]
  | cons x xs ih =>
    obtain ⟨K, rfl⟩ : ∃ m, K = m + 1 := ⟨K - 1, by omega⟩
    rw [List.length_cons] at h1 h2 hK
    have w1 : wrap64 (a + 1) = a + 1 := by rw [Hw.wrap_id (by omega) (by omega)]
    have w2 : wrap64 (a + 1 + 1) = a + 2 := by rw [Hw.wrap_id (by omega) (by omega)]; omega
    have wi : wrap64 ((pre.length : Int) + 1) = ((pre.length + 1 : Nat) : Int) := by rw [Hw.wrap_id (by omega) (by omega)]; omega
    rw [laws_markDropS.l0, if_pos (by simp; omega), if_pos (by omega), Int.toNat_natCast, rdDrop, setDrop, Option.bind_some, rdDrop, setDrop, w1, w2, wi]
    have h := ih (pre ++ [⟨a, (Int.tmod (a + 1) 3 == 0)⟩]) (a + 2) K (by omega) (by omega) (by simp; omega) (by omega)
    rw [List.append_assoc, List.singleton_append, List.length_append, List.length_singleton] at h
    rw [h, List.length_cons, marksDrop]
    simp
    omega
theorem markDrop_some (l : List S89) (hl : l.length ≤ 1000000) (K : Nat) (hK : l.length < K) : laws_markDropS.f K l 101 = some (101 + 2 * (l.length : Int), marksDrop l.length 101) := by
  have := markDrop_l0 [] l 101 K (by omega) (by omega) (by simp; omega) hK
  simpa [laws_markDropS.f] using this
theorem heldDrop_l0 (n : Nat) (pre : List S89) (a : Int) (m : Nat) (h0 : 0 ≤ a) (h1 : a + 2 * n ≤ 1000000000) (h2 : pre.length + n ≤ 1000000000) :
    laws_heldDropS.l0 (m + n + 1) (pre ++ marksDrop n a) a (pre.length : Int) = some (a + 2 * n) := by
  induction n generalizing pre a with
  | zero =>
    rw [laws_heldDropS.l0, if_neg (by simp [marksDrop])]
    simp
  | succ n ih =>
    have w1 : wrap64 (a + 1) = a + 1 := by rw [Hw.wrap_id (by omega) (by omega)]
    have w2 : wrap64 (a + 1 + 1) = a + 2 := by rw [Hw.wrap_id (by omega) (by omega)]; omega
    have wi : wrap64 ((pre.length : Int) + 1) = ((pre.length + 1 : Nat) : Int) := by rw [Hw.wrap_id (by omega) (by omega)]; omega
    rw [laws_heldDropS.l0, if_pos (by rw [List.length_append, marksDrop_len]; omega), if_pos (by omega), marksDrop, rdDrop, w1, w2, wi, if_pos rfl, if_neg (by simp)]
    have h := ih (pre ++ [⟨a, (Int.tmod (a + 1) 3 == 0)⟩]) (a + 2) (by omega) (by omega) (by simp; omega)
    rw [List.append_assoc, List.singleton_append, List.length_append, List.length_singleton] at h
    rw [show m + (n + 1) = m + n + 1 by omega, h]
    congr 1
    omega
theorem heldDrop_some (n : Nat) (hn : n ≤ 1000000) (K : Nat) (hK : n < K) : laws_heldDropS.f K (marksDrop n 101) 101 = some (101 + 2 * (n : Int)) := by
  have := heldDrop_l0 n [] 101 (K - n - 1) (by omega) (by omega) (by simp; omega)
  rw [show K - n - 1 + n + 1 = K by omega] at this
  simpa [laws_heldDropS.f] using this
theorem eqDrop_l0 (F : List S89) (hb : F.length ≤ 1000000) (n : Nat) : ∀ (i k : Nat), i + n = F.length → n < k → laws_eqDropS.l0 k F F (i : Int) = some true := by
  induction n with
  | zero =>
    intro i k h1 hk
    obtain ⟨k, rfl⟩ : ∃ m, k = m + 1 := ⟨k - 1, by omega⟩
    rw [laws_eqDropS.l0, if_neg (by omega)]
  | succ n ih =>
    intro i k h1 hk
    obtain ⟨k, rfl⟩ : ∃ m, k = m + 1 := ⟨k - 1, by omega⟩
    rw [laws_eqDropS.l0, if_pos (by omega), if_pos (by omega), if_pos (by omega)]
    refine Hw.bind_of (a := true) (by simp [laws_eqDrop.f]) ?_
    rw [if_pos rfl, Hw.wrap_id (by omega) (by omega), show (i : Int) + 1 = ((i + 1 : Nat) : Int) by omega]
    exact ih (i + 1) k (by omega) (by omega)
theorem eqDrop_self (F : List S89) (hb : F.length ≤ 1000000) (k : Nat) (hk : F.length < k) : laws_eqDropS.f k F F = some true := by
  unfold laws_eqDropS.f
  rw [if_pos rfl, show (0 : Int) = ((0 : Nat) : Int) from rfl]
  exact eqDrop_l0 F hb F.length 0 k (by omega) hk
end Go.Proofs.Ytoomacelbhojhaa.D
