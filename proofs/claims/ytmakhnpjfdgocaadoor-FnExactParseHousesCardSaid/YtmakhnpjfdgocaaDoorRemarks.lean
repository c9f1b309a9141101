/- Plain lemmas of this session: what the printed functions answer. -/
import Derived.Test.YtmakhnpjfdgocaaDoorRx0
import Derived.Test.YtmakhnpjfdgocaaDoorRx1
import Derived.Test.YtmakhnpjfdgocaaDoorRx2
import Derived.Test.YtmakhnpjfdgocaaDoorRx3
import Derived.Test.YtmakhnpjfdgocaaDoorRx4
import Derived.Test.YtmakhnpjfdgocaaDoorHw
import Derived.Test.YtmakhnpjfdgocaaDoorRephtab
namespace Go.Proofs.YtmakhnpjfdgocaaDoor.R
open Go.RowKit Go.Proofs.YtmakhnpjfdgocaaDoorW.PrintWords Go.Proofs.YtmakhnpjfdgocaaDoorW.PrintLast Go.Proofs.YtmakhnpjfdgocaaDoorW.PrintMore
set_option linter.unusedVariables false
set_option linter.unusedSimpArgs false
/-! Marked lists are held. -/
def marksI : Nat → Int → List Int
  | 0, _ => []
  | n + 1, k => k :: marksI n (k + 1)
theorem marksI_len (n : Nat) (k : Int) : (marksI n k).length = n := by
  induction n generalizing k with
  | zero => rfl
  | succ n ih => simp [marksI, ih]
theorem markInt_l0 (pre post : List Int) (a : Int) (K : Nat) (h0 : 0 ≤ a) (h1 : a + post.length ≤ 1000000000) (h2 : pre.length + post.length ≤ 1000000000) (hK : post.length < K) :
    laws_markIntS.l0 K (pre ++ post) a (pre.length : Int) = some (a + post.length, pre ++ marksI post.length a) := by
  induction post generalizing pre a K with
  | nil =>
    obtain ⟨K, rfl⟩ : ∃ m, K = m + 1 := ⟨K - 1, by simp at hK; omega⟩
    rw [laws_markIntS.l0, if_neg (by simp)]
    simp [marksI]
  | cons x xs ih =>
    obtain ⟨K, rfl⟩ : ∃ m, K = m + 1 := ⟨K - 1, by omega⟩
    rw [List.length_cons] at h1 h2 hK
    rw [laws_markIntS.l0, if_pos (by simp; omega), if_pos (by omega), Hw.wrap_id (by omega) (by omega), Hw.wrap_id (by omega) (by omega), Int.toNat_natCast, List.set_append_right _ _ (Nat.le_refl _), Nat.sub_self, List.set_cons_zero]
    have h := ih (pre ++ [a]) (a + 1) K (by omega) (by omega) (by simp; omega) (by omega)
    rw [List.append_assoc, List.singleton_append, List.length_append, List.length_singleton] at h
    rw [show (pre.length : Int) + 1 = ((pre.length + 1 : Nat) : Int) by omega, h, List.length_cons, marksI]
    simp
    omega
theorem markInt_some (l : List Int) (hl : l.length ≤ 1000000) (K : Nat) (hK : l.length < K) : laws_markIntS.f K l 101 = some (101 + (l.length : Int), marksI l.length 101) := by
  have := markInt_l0 [] l 101 K (by omega) (by omega) (by simp; omega) hK
  simpa [laws_markIntS.f] using this
theorem heldInt_l0 (n : Nat) (pre : List Int) (a : Int) (m : Nat) (h0 : 0 ≤ a) (h1 : a + n ≤ 1000000000) (h2 : pre.length + n ≤ 1000000000) :
    laws_heldIntS.l0 (m + n + 1) (pre ++ marksI n a) a (pre.length : Int) = some (a + n) := by
  induction n generalizing pre a with
  | zero =>
    rw [laws_heldIntS.l0, if_neg (by simp [marksI])]
    simp
  | succ n ih =>
    have hr : rd (pre ++ marksI (n + 1) a) (pre.length : Int) = a := by simp [rd, marksI]
    rw [laws_heldIntS.l0, if_pos (by rw [List.length_append, marksI_len]; omega), if_pos (by omega), hr, if_pos rfl, Hw.wrap_id (by omega) (by omega), Hw.wrap_id (by omega) (by omega)]
    have h := ih (pre ++ [a]) (a + 1) (by omega) (by omega) (by simp; omega)
    rw [List.append_assoc, List.singleton_append, List.length_append, List.length_singleton] at h
    rw [show (pre.length : Int) + 1 = ((pre.length + 1 : Nat) : Int) by omega, marksI, show m + (n + 1) = m + n + 1 by omega, h]
    congr 1
    omega
theorem heldInt_some (n : Nat) (hn : n ≤ 1000000) (K : Nat) (hK : n < K) : laws_heldIntS.f K (marksI n 101) 101 = some (101 + (n : Int)) := by
  have := heldInt_l0 n [] 101 (K - n - 1) (by omega) (by omega) (by simp; omega)
  rw [show K - n - 1 + n + 1 = K by omega] at this
  simpa [laws_heldIntS.f] using this
theorem eqInt_l0 (l : List Int) (hl : l.length ≤ 1000000) (n i m : Nat) (hn : i + n = l.length) : laws_eqIntS.l0 (m + n + 1) l l (i : Int) = some true := by
  induction n generalizing i with
  | zero => rw [laws_eqIntS.l0, if_neg (by omega)]
  | succ n ih =>
    rw [laws_eqIntS.l0, if_pos (by omega), if_pos (by omega), if_pos (by omega), if_pos rfl, Hw.wrap_id (by omega) (by omega), show m + (n + 1) = m + n + 1 by omega]
    exact ih (i + 1) (by omega)
theorem eqInt_self (l : List Int) (hl : l.length ≤ 1000000) (K : Nat) (hK : l.length < K) : laws_eqIntS.f K l l = some true := by
  unfold laws_eqIntS.f
  rw [if_pos rfl]
  have := eqInt_l0 l hl l.length 0 (K - l.length - 1) (by omega)
  rw [show K - l.length - 1 + l.length + 1 = K by omega] at this
  exact this
end Go.Proofs.YtmakhnpjfdgocaaDoor.R
