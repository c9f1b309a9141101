/- Plain lemmas of this session: what the printed functions answer. -/
import Derived.Test.YtoomacelbhojhaaPx0
import Derived.Test.YtoomacelbhojhaaPx1
import Derived.Test.YtoomacelbhojhaaPx2
import Derived.Test.YtoomacelbhojhaaPx3
import Derived.Test.YtoomacelbhojhaaPx4
import Derived.Test.YtoomacelbhojhaaPx5
import Derived.Test.YtoomacelbhojhaaPx6
import Derived.Test.YtoomacelbhojhaaPx7
import Derived.Test.YtoomacelbhojhaaHw
namespace Go.Proofs.Ytoomacelbhojhaa.P
open Go.RowKit Go.Proofs.YtoomacelbhojhaaW.PrintWords Go.Proofs.YtoomacelbhojhaaW.PrintLast Go.Proofs.YtoomacelbhojhaaW.PrintMore
set_option linter.unusedVariables false
set_option linter.unusedSimpArgs false
/-! Marked lists of KindTest are held; a list equals itself. -/
def marksKindTest : Nat → Int → List S77
  | 0, _ => []
  | n + 1, k => ⟨(Int.tmod (k) 3 == 0), k + 1, (Int.tmod (k + 2) 3 == 0)⟩ :: marksKindTest n (k + 3)
theorem marksKindTest_len (n : Nat) (k : Int) : (marksKindTest n k).length = n := by
  induction n generalizing k with
  | zero => rfl
  | succ n ih => simp [marksKindTest, ih]
theorem rdKindTest (pre xs : List S77) (x : S77) : rd_T77 (pre ++ x :: xs) (pre.length : Int) = x := by simp [rd_T77]
theorem setKindTest (pre xs : List S77) (x y : S77) : (pre ++ x :: xs).set pre.length y = pre ++ y :: xs := by
  rw [List.set_append_right _ _ (Nat.le_refl _), Nat.sub_self, List.set_cons_zero]
theorem markKindTest_l0 (pre post : List S77) (a : Int) (K : Nat) (h0 : 0 ≤ a) (h1 : a + 3 * post.length ≤ 1000000000) (h2 : pre.length + post.length ≤ 1000000000) (hK : post.length < K) :
    laws_markKindTestS.l0 K (pre ++ post) a (pre.length : Int) = some (a + 3 * post.length, pre ++ marksKindTest post.length a) := by
  induction post generalizing pre a K with
  | nil =>
    obtain ⟨K, rfl⟩ : ∃ m, K = m + 1 := ⟨K - 1, by simp at hK; omega⟩
    rw [laws_markKindTestS.l0, if_neg (by simp)]
    simp [marksKindTest]
  | cons x xs ih =>
    obtain ⟨K, rfl⟩ : ∃ m, K = m + 1 := ⟨K - 1, by omega⟩
    rw [List.length_cons] at h1 h2 hK
    have w1 : wrap64 (a + 1) = a + 1 := by rw [Hw.wrap_id (by omega) (by omega)]
    have w2 : wrap64 (a + 1 + 1) = a + 2 := by rw [Hw.wrap_id (by omega) (by omega)]; omega
    have w3 : wrap64 (a + 2 + 1) = a + 3 := by rw [Hw.wrap_id (by omega) (by omega)]; omega
    have wi : wrap64 ((pre.length : Int) + 1) = ((pre.length + 1 : Nat) : Int) := by rw [Hw.wrap_id (by omega) (by omega)]; omega
    rw [laws_markKindTestS.l0, if_pos (by simp; omega), if_pos (by omega), Int.toNat_natCast, rdKindTest, setKindTest, Option.bind_some, rdKindTest, setKindTest, Option.bind_some, rdKindTest, setKindTest, w1, w2, w3, wi]
    have h := ih (pre ++ [⟨(Int.tmod (a) 3 == 0), a + 1, (Int.tmod (a + 2) 3 == 0)⟩]) (a + 3) K (by omega) (by omega) (by simp; omega) (by omega)
    rw [List.append_assoc, List.singleton_append, List.length_append, List.length_singleton] at h
    rw [h, List.length_cons, marksKindTest]
    simp
    omega
theorem markKindTest_some (l : List S77) (hl : l.length ≤ 1000000) (K : Nat) (hK : l.length < K) : laws_markKindTestS.f K l 101 = some (101 + 3 * (l.length : Int), marksKindTest l.length 101) := by
  have := markKindTest_l0 [] l 101 K (by omega) (by omega) (by simp; omega) hK
  simpa [laws_markKindTestS.f] using this
theorem heldKindTest_l0 (n : Nat) (pre : List S77) (a : Int) (m : Nat) (h0 : 0 ≤ a) (h1 : a + 3 * n ≤ 1000000000) (h2 : pre.length + n ≤ 1000000000) :
    laws_heldKindTestS.l0 (m + n + 1) (pre ++ marksKindTest n a) a (pre.length : Int) = some (a + 3 * n) := by
  induction n generalizing pre a with
  | zero =>
    rw [laws_heldKindTestS.l0, if_neg (by simp [marksKindTest])]
    simp
  | succ n ih =>
    have w1 : wrap64 (a + 1) = a + 1 := by rw [Hw.wrap_id (by omega) (by omega)]
    have w2 : wrap64 (a + 1 + 1) = a + 2 := by rw [Hw.wrap_id (by omega) (by omega)]; omega
    have w3 : wrap64 (a + 2 + 1) = a + 3 := by rw [Hw.wrap_id (by omega) (by omega)]; omega
    have wi : wrap64 ((pre.length : Int) + 1) = ((pre.length + 1 : Nat) : Int) := by rw [Hw.wrap_id (by omega) (by omega)]; omega
    rw [laws_heldKindTestS.l0, if_pos (by rw [List.length_append, marksKindTest_len]; omega), if_pos (by omega), marksKindTest, rdKindTest, w1, w2, w3, wi, if_neg (by simp), if_pos rfl, if_neg (by simp)]
    have h := ih (pre ++ [⟨(Int.tmod (a) 3 == 0), a + 1, (Int.tmod (a + 2) 3 == 0)⟩]) (a + 3) (by omega) (by omega) (by simp; omega)
    rw [List.append_assoc, List.singleton_append, List.length_append, List.length_singleton] at h
    rw [show m + (n + 1) = m + n + 1 by omega, h]
    congr 1
    omega
theorem heldKindTest_some (n : Nat) (hn : n ≤ 1000000) (K : Nat) (hK : n < K) : laws_heldKindTestS.f K (marksKindTest n 101) 101 = some (101 + 3 * (n : Int)) := by
  have := heldKindTest_l0 n [] 101 (K - n - 1) (by omega) (by omega) (by simp; omega)
  rw [show K - n - 1 + n + 1 = K by omega] at this
  simpa [laws_heldKindTestS.f] using this
theorem eqKindTest_l0 (F : List S77) (hb : F.length ≤ 1000000) (n : Nat) : ∀ (i k : Nat), i + n = F.length → n < k → laws_eqKindTestS.l0 k F F (i : Int) = some true := by
  induction n with
  | zero =>
    intro i k h1 hk
    obtain ⟨k, rfl⟩ : ∃ m, k = m + 1 := ⟨k - 1, by omega⟩
    rw [laws_eqKindTestS.l0, if_neg (by omega)]
  | succ n ih =>
    intro i k h1 hk
    obtain ⟨k, rfl⟩ : ∃ m, k = m + 1 := ⟨k - 1, by omega⟩
    rw [laws_eqKindTestS.l0, if_pos (by omega), if_pos (by omega), if_pos (by omega)]
    refine Hw.bind_of (a := true) (by simp [laws_eqKindTest.f]) ?_
    rw [if_pos rfl, Hw.wrap_id (by omega) (by omega), show (i : Int) + 1 = ((i + 1 : Nat) : Int) by omega]
    exact ih (i + 1) k (by omega) (by omega)
theorem eqKindTest_self (F : List S77) (hb : F.length ≤ 1000000) (k : Nat) (hk : F.length < k) : laws_eqKindTestS.f k F F = some true := by
  unfold laws_eqKindTestS.f
  rw [if_pos rfl, show (0 : Int) = ((0 : Nat) : Int) from rfl]
  exact eqKindTest_l0 F hb F.length 0 k (by omega) hk
end Go.Proofs.Ytoomacelbhojhaa.P
