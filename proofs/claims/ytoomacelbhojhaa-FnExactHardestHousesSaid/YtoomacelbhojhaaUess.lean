/- Plain lemmas of this session: what the printed functions answer. -/
import Derived.Test.YtoomacelbhojhaaUx0
import Derived.Test.YtoomacelbhojhaaUx1
import Derived.Test.YtoomacelbhojhaaUx10
import Derived.Test.YtoomacelbhojhaaUx2
import Derived.Test.YtoomacelbhojhaaUx3
import Derived.Test.YtoomacelbhojhaaUx4
import Derived.Test.YtoomacelbhojhaaUx5
import Derived.Test.YtoomacelbhojhaaUx6
import Derived.Test.YtoomacelbhojhaaUx7
import Derived.Test.YtoomacelbhojhaaUx8
import Derived.Test.YtoomacelbhojhaaUx9
import Derived.Test.YtoomacelbhojhaaHw
import Derived.Test.YtoomacelbhojhaaUemarks
namespace Go.Proofs.Ytoomacelbhojhaa.U
open Go.RowKit Go.Proofs.YtoomacelbhojhaaW.PrintWords Go.Proofs.YtoomacelbhojhaaW.PrintLast Go.Proofs.YtoomacelbhojhaaW.PrintMore
set_option linter.unusedVariables false
set_option linter.unusedSimpArgs false
/-! Rows of rows: equal, marked, held. -/
theorem mkI_eq (n : Nat) (k : Int) : mkI n k = marksI n k := by
  induction n generalizing k with
  | zero => rfl
  | succ n ih => simp [mkI, marksI, ih]
theorem eqSS_l0 (l : List (List Int)) (hl : l.length ≤ 1000000) (hx : ∀ x ∈ l, x.length ≤ 1000) (n : Nat) : ∀ (i K : Nat), i + n = l.length → 1001 + n < K → laws_eqIntSS.l0 K l l (i : Int) = some true := by
  induction n with
  | zero =>
    intro i K h1 hK
    obtain ⟨K, rfl⟩ : ∃ m, K = m + 1 := ⟨K - 1, by omega⟩
    rw [laws_eqIntSS.l0, if_neg (by omega)]
  | succ n ih =>
    intro i K h1 hK
    obtain ⟨K, rfl⟩ : ∃ m, K = m + 1 := ⟨K - 1, by omega⟩
    have hlt : i < l.length := by omega
    have hr : rd_L1 l (i : Int) = l[i] := by simp [rd_L1, hlt]
    have hxi := hx l[i] (List.getElem_mem hlt)
    rw [laws_eqIntSS.l0, if_pos (by omega), if_pos (by omega), if_pos (by omega), hr]
    refine Hw.bind_of (eqInt_self l[i] (by omega) K (by omega)) ?_
    rw [if_pos rfl, Hw.wrap_id (by omega) (by omega), show ((i : Int) + 1) = ((i + 1 : Nat) : Int) by omega]
    exact ih (i + 1) K (by omega) (by omega)
theorem eqSS_self (l : List (List Int)) (hl : l.length ≤ 1000000) (hx : ∀ x ∈ l, x.length ≤ 1000) (K : Nat) (hK : 1001 + l.length < K) : laws_eqIntSS.f K l l = some true := by
  unfold laws_eqIntSS.f
  rw [if_pos rfl]
  exact eqSS_l0 l hl hx l.length 0 K (by omega) hK
theorem totSS_le (l : List (List Int)) (hx : ∀ x ∈ l, x.length ≤ 1000) : totSS l ≤ 1000 * l.length := by
  induction l with
  | nil => simp [totSS]
  | cons x xs ih =>
    have h1 := hx x List.mem_cons_self
    have h2 := ih (fun y hy => hx y (List.mem_cons_of_mem _ hy))
    unfold totSS
    rw [List.length_cons]
    omega
theorem markSS_some (l : List (List Int)) (hl : l.length ≤ 100000) (hx : ∀ x ∈ l, x.length ≤ 1000) (K : Nat) : laws_markIntSS.f K l 101 = some (101 + totSS l, mSS l 101) := by
  have h := totSS_le l hx
  unfold laws_markIntSS.f
  rw [if_pos (by omega)]
theorem heldI_some (n : Nat) (a : Int) (h0 : 0 ≤ a) (h1 : a + n ≤ 900000000) (hn : n ≤ 1000) (K : Nat) (hK : n < K) : laws_heldIntS.f K (mkI n a) a = some (a + (n : Int)) := by
  have := heldInt_l0 n [] a (K - n - 1) h0 (by omega) (by simp; omega)
  rw [show K - n - 1 + n + 1 = K by omega] at this
  rw [mkI_eq]
  simpa [laws_heldIntS.f] using this
theorem heldSS_l0 (l : List (List Int)) (hx : ∀ x ∈ l, x.length ≤ 1000) : ∀ (pre : List (List Int)) (a : Int) (K : Nat), 0 ≤ a → a + totSS l ≤ 900000000 → pre.length + l.length ≤ 1000000 → 1001 + l.length < K → laws_heldIntSS.l0 K (pre ++ mSS l a) a (pre.length : Int) = some (a + totSS l) := by
  induction l with
  | nil =>
    intro pre a K h0 h1 h2 hK
    obtain ⟨K, rfl⟩ : ∃ m, K = m + 1 := ⟨K - 1, by omega⟩
    rw [laws_heldIntSS.l0, if_neg (by simp [mSS])]
    simp [totSS]
  | cons x xs ih =>
    intro pre a K h0 h1 h2 hK
    obtain ⟨K, rfl⟩ : ∃ m, K = m + 1 := ⟨K - 1, by omega⟩
    rw [List.length_cons] at h2 hK
    have hxl := hx x List.mem_cons_self
    have hnn := totSS_nn xs
    have hts : totSS (x :: xs) = x.length + totSS xs := rfl
    rw [hts] at h1 ⊢
    have hr : rd_L1 (pre ++ mSS (x :: xs) a) (pre.length : Int) = mkI x.length a := by simp [rd_L1, mSS]
    rw [laws_heldIntSS.l0, if_pos (by rw [List.length_append, mSS_len, List.length_cons]; omega), if_pos (by omega), hr]
    refine Hw.bind_of (heldI_some x.length a h0 (by omega) hxl K (by omega)) ?_
    rw [if_neg (by omega), Hw.wrap_id (by omega) (by omega)]
    have h := ih (fun y hy => hx y (List.mem_cons_of_mem _ hy)) (pre ++ [mkI x.length a]) (a + x.length) K (by omega) (by omega) (by simp; omega) (by omega)
    rw [List.append_assoc, List.singleton_append, List.length_append, List.length_singleton] at h
    rw [show (pre.length : Int) + 1 = ((pre.length + 1 : Nat) : Int) by omega, mSS, h]
    congr 1
    omega
theorem heldSS_some (l : List (List Int)) (hl : l.length ≤ 100000) (hx : ∀ x ∈ l, x.length ≤ 1000) (K : Nat) (hK : 1001 + l.length < K) : laws_heldIntSS.f K (mSS l 101) 101 = some (101 + totSS l) := by
  have h1 := totSS_le l hx
  have := heldSS_l0 l hx [] 101 K (by omega) (by omega) (by simp; omega) hK
  simpa [laws_heldIntSS.f] using this
end Go.Proofs.Ytoomacelbhojhaa.U
