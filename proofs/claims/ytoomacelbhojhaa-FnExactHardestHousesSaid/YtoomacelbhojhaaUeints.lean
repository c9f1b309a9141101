/- Plain lemmas of this session: what the printed functions answer. -/
import Derived.Test.YtoomacelbhojhaaUx0
import Derived.Test.YtoomacelbhojhaaUx1
import Derived.Test.YtoomacelbhojhaaUx10
import Derived.Test.YtoomacelbhojhaaUx2
import Derived.Test.YtoomacelbhojhaaUx3
import Derived.Test.YtoomacelbhojhaaUx4
import Derived.Test.YtoomacelbhojhaaUx5
import Derived.Test.YtoomacelbhojhaaUx6
import Derived.Test.YtoomacelbhojhaaUx7
import Derived.Test.YtoomacelbhojhaaUx8
import Derived.Test.YtoomacelbhojhaaUx9
import Derived.Test.YtoomacelbhojhaaHw
import Derived.Test.YtoomacelbhojhaaUemarks
import Derived.Test.YtoomacelbhojhaaUess
namespace Go.Proofs.Ytoomacelbhojhaa.U
open Go.RowKit Go.Proofs.YtoomacelbhojhaaW.PrintWords Go.Proofs.YtoomacelbhojhaaW.PrintLast Go.Proofs.YtoomacelbhojhaaW.PrintMore
set_option linter.unusedVariables false
set_option linter.unusedSimpArgs false
/-! ### Lists of whole numbers: fillers and all, equal themselves -/
theorem rd_get (l : List Int) (i : Nat) (h : i < l.length) : rd l (i : Int) = l[i] := by
  simp [rd, List.getD_eq_getElem?_getD, List.getElem?_eq_getElem h]
theorem roomB (n : Nat) : laws_roomBehind.f (n : Int) = some (Hw.room n : Int) := by
  unfold laws_roomBehind.f Hw.room
  rw [Int.tmod_eq_emod_of_nonneg (by omega), Int.tmod_eq_emod_of_nonneg (by omega)]
  by_cases h1 : n % 6 = 5
  · rw [if_pos (by omega), if_pos h1]; rfl
  · rw [if_neg (by omega), if_neg h1]
    by_cases h2 : n % 3 = 0
    · rw [if_pos (by omega), if_pos h2]; rfl
    · rw [if_neg (by omega), if_neg h2]
theorem fullInt_l1 (l : List Int) (xs : List Int) (hl : l.length ≤ xs.length) : ∀ (d : Nat) (k : Nat) (ys : List Int), xs.length + ys.length + d < 9223372036854775807 → d < k →
    full_toIntS.l1 k l (xs ++ ys ++ List.replicate d 0) ((xs.length + ys.length : Nat) : Int) = some (xs ++ ys ++ List.replicate d (-7000000000000000101)) := by
  intro d
  induction d with
  | zero =>
    intro k ys hb hk
    obtain ⟨k, rfl⟩ : ∃ m, k = m + 1 := ⟨k - 1, by omega⟩
    simp only [full_toIntS.l1, List.replicate_zero, List.append_nil]
    rw [if_neg (by simp), if_pos (by omega), if_pos (by simp; omega)]
  | succ d ih =>
    intro k ys hb hk
    obtain ⟨k, rfl⟩ : ∃ m, k = m + 1 := ⟨k - 1, by omega⟩
    have h1 := ih k (ys ++ [-7000000000000000101]) (by simp; omega) (by omega)
    simp only [full_toIntS.l1]
    rw [if_pos (by simp; omega), if_pos (by omega), Int.toNat_natCast, show xs.length + ys.length = (xs ++ ys).length by simp, Hw.set_next, Hw.wrap_id (by omega) (by simp; omega)]
    rw [List.append_assoc xs ys, ← List.append_assoc xs, show (((xs ++ ys).length : Nat) : Int) + 1 = ((xs.length + (ys ++ [(-7000000000000000101 : Int)]).length : Nat) : Int) by simp; omega]
    have h2 : xs ++ (ys ++ [(-7000000000000000101 : Int)]) ++ List.replicate d (-7000000000000000101) = xs ++ ys ++ List.replicate (d + 1) (-7000000000000000101) := by
      rw [List.replicate_succ]; simp
    rw [← h2, ← h1]
    simp
theorem fullInt_l0 (l : List Int) (rm : Nat) (hb : l.length + rm < 9223372036854775807) : ∀ (d : Nat) (k : Nat) (i : Nat), i + d = l.length → d + rm + 1 < k →
    full_toIntS.l0 k l (l.take i ++ List.replicate (d + rm) 0) (i : Int) = some (l ++ List.replicate rm (-7000000000000000101)) := by
  intro d
  induction d with
  | zero =>
    intro k i hi hk
    obtain ⟨k, rfl⟩ : ∃ m, k = m + 1 := ⟨k - 1, by omega⟩
    simp only [full_toIntS.l0]
    rw [if_neg (by omega), List.take_of_length_le (by omega)]
    have h1 := fullInt_l1 l l (by simp) rm k [] (by simp; omega) (by omega)
    simpa using h1
  | succ d ih =>
    intro k i hi hk
    obtain ⟨k, rfl⟩ : ∃ m, k = m + 1 := ⟨k - 1, by omega⟩
    have hlt : i < l.length := by omega
    have h1 := ih k (i + 1) (by omega) (by omega)
    have hlen : (l.take i).length = i := by simp; omega
    simp only [full_toIntS.l0]
    rw [if_pos (by omega), if_pos (by omega), if_pos (by simp; omega), Int.toNat_natCast, Hw.wrap_id (by omega) (by omega)]
    have hs : (l.take i ++ List.replicate (d + 1 + rm) 0).set i (rd l (i : Int)) = l.take (i + 1) ++ List.replicate (d + rm) 0 := by
      have h2 := Hw.set_next (l.take i) (d + rm) (0 : Int) (rd l (i : Int))
      rw [hlen, show d + rm + 1 = d + 1 + rm by omega] at h2
      rw [h2, rd_get l i hlt, List.take_succ_eq_append_getElem hlt]
    rw [hs]
    exact h1
/-- What 'toIntS' makes, fillers and all. -/
def fullInt (l : List Int) : List Int := l ++ List.replicate (Hw.room l.length) (-7000000000000000101)
theorem fullInt_some (l : List Int) (b : Bool) (hl : l.length ≤ 1000000) (h : b = false ∨ l.length ≠ 0) (k : Nat) (hk : l.length + Hw.room l.length + 2 < k) : full_toIntS.f k l b = some (fullInt l) := by
  have hr := Hw.room_le l.length
  have hj : full_toIntS.j0 k l false = some (fullInt l) := by
    obtain ⟨k, rfl⟩ : ∃ m, k = m + 1 := ⟨k - 1, by omega⟩
    simp only [full_toIntS.j0]
    have h1 := fullInt_l0 l (Hw.room l.length) (by omega) l.length k 0 (by omega) (by omega)
    have hj : wrap64 ((l.length : Int) + (Hw.room l.length : Int)) = ((l.length + Hw.room l.length : Nat) : Int) := by rw [Hw.wrap_id (by omega) (by omega)]; omega
    refine Hw.ite_no (by decide) (Hw.bind_of (roomB l.length) ?_)
    rw [hj]
    refine Hw.ite_of (by omega) (Hw.ite_of (by omega) ?_)
    rw [Int.toNat_natCast]
    exact h1
  unfold full_toIntS.f
  rcases h with h | h
  · subst h; rw [if_neg (by decide)]; exact hj
  · have h0 : ((l.length : Int) == 0) = false := by simpa using h
    rw [h0, hj]; simp
theorem fullInt_nil (k : Nat) (hk : 0 < k) : full_toIntS.f k [] true = some [] := by
  obtain ⟨k, rfl⟩ : ∃ m, k = m + 1 := ⟨k - 1, by omega⟩
  simp [full_toIntS.f, full_toIntS.j0]
theorem eqInt_big0 (l : List Int) (hl : l.length ≤ 1000000000) (n i m : Nat) (hn : i + n = l.length) : laws_eqIntS.l0 (m + n + 1) l l (i : Int) = some true := by
  induction n generalizing i with
  | zero => rw [laws_eqIntS.l0, if_neg (by omega)]
  | succ n ih =>
    rw [laws_eqIntS.l0, if_pos (by omega), if_pos (by omega), if_pos (by omega), if_pos rfl, Hw.wrap_id (by omega) (by omega), show m + (n + 1) = m + n + 1 by omega]
    exact ih (i + 1) (by omega)
theorem eqInt_big (l : List Int) (hl : l.length ≤ 1000000000) (K : Nat) (hK : l.length < K) : laws_eqIntS.f K l l = some true := by
  unfold laws_eqIntS.f
  rw [if_pos rfl]
  have := eqInt_big0 l hl l.length 0 (K - l.length - 1) (by omega)
  rw [show K - l.length - 1 + l.length + 1 = K by omega] at this
  exact this
/-- All that a law's walk wants of a list that came in. -/
theorem intFacts0 (l : List Int) (hl : l.length ≤ 1000000) (K : Nat) (hK : 3000000 < K) : ∃ (F F' : List Int) (t : Int), full_toIntS.f K l false = some F ∧ full_toIntS.f K l true = some F' ∧ (l.length ≠ 0 → F' = F) ∧ (l.length = 0 → F' = []) ∧ F.take l.length = l ∧ laws_roomBehind.f (l.length : Int) = some t ∧ wrap64 ((l.length : Int) + t) = (F.length : Int) ∧ laws_eqIntS.f K F F = some true := by
  have hr := Hw.room_le l.length
  have hlen : (fullInt l).length = l.length + Hw.room l.length := by simp [fullInt]
  have hf := fullInt_some l false hl (.inl rfl) K (by omega)
  have he := eqInt_big (fullInt l) (by omega) K (by omega)
  have hw : wrap64 ((l.length : Int) + (Hw.room l.length : Int)) = ((fullInt l).length : Int) := by rw [Hw.wrap_id (by omega) (by omega), hlen]; omega
  have ht : (fullInt l).take l.length = l := by simp [fullInt]
  by_cases hz : l.length = 0
  · obtain rfl := List.eq_nil_of_length_eq_zero hz
    exact ⟨fullInt [], [], _, hf, fullInt_nil K (by omega), fun h => absurd hz h, fun _ => rfl, ht, roomB _, hw, he⟩
  · exact ⟨fullInt l, fullInt l, _, hf, fullInt_some l true hl (.inr hz) K (by omega), fun _ => rfl, fun h => absurd h hz, ht, roomB _, hw, he⟩
end Go.Proofs.Ytoomacelbhojhaa.U
