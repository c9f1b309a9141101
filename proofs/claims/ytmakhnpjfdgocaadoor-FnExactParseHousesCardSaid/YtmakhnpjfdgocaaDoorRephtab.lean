/- Plain lemmas of this session: what the printed functions answer. -/
import Derived.Test.YtmakhnpjfdgocaaDoorRx0
import Derived.Test.YtmakhnpjfdgocaaDoorRx1
import Derived.Test.YtmakhnpjfdgocaaDoorRx2
import Derived.Test.YtmakhnpjfdgocaaDoorRx3
import Derived.Test.YtmakhnpjfdgocaaDoorRx4
import Derived.Test.YtmakhnpjfdgocaaDoorHw
namespace Go.Proofs.YtmakhnpjfdgocaaDoor.R
open Go.RowKit Go.Proofs.YtmakhnpjfdgocaaDoorW.PrintWords Go.Proofs.YtmakhnpjfdgocaaDoorW.PrintLast Go.Proofs.YtmakhnpjfdgocaaDoorW.PrintMore
set_option linter.unusedVariables false
set_option linter.unusedSimpArgs false
def f1 (a : Nat) : ByteArray := ⟨#[UInt8.ofNat (48 + a)]⟩
def f2 (a b : Nat) : ByteArray := ⟨#[UInt8.ofNat (48 + a), 47, UInt8.ofNat (48 + b)]⟩
def f3 (a b c : Nat) : ByteArray := ⟨#[UInt8.ofNat (48 + a), 47, UInt8.ofNat (48 + b), 47, UInt8.ofNat (48 + c)]⟩
theorem st1 : ∀ a : Nat, a < 9 → spec_ParseHouses.f 60 (f1 a) = some ([(a : Int)], true) := by decide +kernel
theorem it1 : ∀ a : Nat, a < 9 → phV (f1 a) = ([(a : Int)], true) := by decide +kernel
theorem st2 : ∀ a : Nat, a < 9 → ∀ b : Nat, b < 9 → spec_ParseHouses.f 60 (f2 a b) = some ([(a : Int), (b : Int)], true) := by decide +kernel
theorem it2 : ∀ a : Nat, a < 9 → ∀ b : Nat, b < 9 → phV (f2 a b) = ([(a : Int), (b : Int)], true) := by decide +kernel
theorem all3 {q : Nat → Nat → Nat → Bool} (h : ((List.range 729).all fun n => q (n / 81) (n / 9 % 9) (n % 9)) = true) (a b c : Nat) (ha : a < 9) (hb : b < 9) (hc : c < 9) : q a b c = true := by
  have := List.all_eq_true.1 h (a * 81 + b * 9 + c) (List.mem_range.2 (by omega))
  rw [show (a * 81 + b * 9 + c) / 81 = a by omega, show (a * 81 + b * 9 + c) / 9 % 9 = b by omega, show (a * 81 + b * 9 + c) % 9 = c by omega] at this
  exact this
theorem st3c : ((List.range 729).all fun n => (fun a b c : Nat => decide (spec_ParseHouses.f 60 (f3 a b c) = some ([(a : Int), (b : Int), (c : Int)], true))) (n / 81) (n / 9 % 9) (n % 9)) = true := by decide +kernel
theorem st3 (a b c : Nat) (ha : a < 9) (hb : b < 9) (hc : c < 9) : spec_ParseHouses.f 60 (f3 a b c) = some ([(a : Int), (b : Int), (c : Int)], true) := of_decide_eq_true (all3 (q := fun a b c => decide (spec_ParseHouses.f 60 (f3 a b c) = some ([(a : Int), (b : Int), (c : Int)], true))) st3c a b c ha hb hc)
theorem it3c : ((List.range 729).all fun n => (fun a b c : Nat => decide (phV (f3 a b c) = ([(a : Int), (b : Int), (c : Int)], true))) (n / 81) (n / 9 % 9) (n % 9)) = true := by decide +kernel
theorem it3 (a b c : Nat) (ha : a < 9) (hb : b < 9) (hc : c < 9) : phV (f3 a b c) = ([(a : Int), (b : Int), (c : Int)], true) := of_decide_eq_true (all3 (q := fun a b c => decide (phV (f3 a b c) = ([(a : Int), (b : Int), (c : Int)], true))) it3c a b c ha hb hc)
theorem ht1 : ∀ a : Nat, a < 9 → spec_hoText.f 10 [(a : Int)] = some (f1 a) := by decide +kernel
theorem ht2 : ∀ a : Nat, a < 9 → ∀ b : Nat, b < 9 → spec_hoText.f 10 [(a : Int), (b : Int)] = some (f2 a b) := by decide +kernel
theorem ht3c : ((List.range 729).all fun n => (fun a b c : Nat => decide (spec_hoText.f 10 [(a : Int), (b : Int), (c : Int)] = some (f3 a b c))) (n / 81) (n / 9 % 9) (n % 9)) = true := by decide +kernel
theorem ht3 (a b c : Nat) (ha : a < 9) (hb : b < 9) (hc : c < 9) : spec_hoText.f 10 [(a : Int), (b : Int), (c : Int)] = some (f3 a b c) := of_decide_eq_true (all3 (q := fun a b c => decide (spec_hoText.f 10 [(a : Int), (b : Int), (c : Int)] = some (f3 a b c))) ht3c a b c ha hb hc)
theorem sd : ∀ a : Nat, a < 9 → sItoaA (a : Int) = f1 a := by decide +kernel
theorem idxB (c : UInt8) : ∀ (s : List UInt8) (i : Nat), Lib.indexByte s c = (i : Int) → s = s.take i ++ c :: s.drop (i + 1)
  | [], i, h => by rw [Lib.indexByte] at h; omega
  | x :: s, i, h => by
    rw [Lib.indexByte] at h
    split at h
    · rename_i hx
      have hi : i = 0 := by omega
      subst hi
      simp at hx
      simp [hx]
    · split at h
      · omega
      · obtain ⟨j, rfl⟩ : ∃ j, i = j + 1 := ⟨i - 1, by rename_i h1 h2; have := Lib.indexByte_ge s c; simp at h2; omega⟩
        have := idxB c s j (by omega)
        rw [List.take_succ_cons, List.drop_succ_cons, List.cons_append, ← this]
/-- The pieces, joined, are the text. -/
theorem join_split : ∀ (k : Nat) (s : ByteArray), Lib.join ((Lib.splitB sl47 0 k s).map (·.data.toList)) [47] = s.data.toList
  | 0, s => by rw [Lib.splitB_zero, List.map_cons, List.map_nil, Lib.join_one]
  | k + 1, s => by
    rcases Lib.indexB_cases s sl47 with h | ⟨i, h, hi⟩
    · rw [Lib.splitB_miss _ _ _ _ h, List.map_cons, List.map_nil, Lib.join_one]
    · rw [Lib.splitB_hit _ _ _ _ i h, List.map_cons, Lib.extract_from_zero]
      have hne : (Lib.splitB sl47 0 k (s.extract (i + sl47.size) s.size)) ≠ [] := by
        intro hh
        cases k with
        | zero => rw [Lib.splitB_zero] at hh; cases hh
        | succ k => unfold Lib.splitB at hh; split at hh <;> cases hh
      have ih := join_split k (s.extract (i + sl47.size) s.size)
      rw [Lib.extract_to_end] at ih
      have h2 : Lib.indexByte s.data.toList 47 = (i : Int) := by
        have h3 : Lib.index s.data.toList [47] = (i : Int) := h
        rwa [Lib.index_one] at h3
      have h4 := idxB 47 s.data.toList i h2
      cases hq : Lib.splitB sl47 0 k (s.extract (i + sl47.size) s.size) with
      | nil => exact absurd hq hne
      | cons y r =>
        rw [hq, List.map_cons, Lib.join_cons] at ih
        rw [List.map_cons, Lib.join_cons]
        have h5 : Lib.joinTail [47] (y.data.toList :: r.map (·.data.toList)) = 47 :: (y.data.toList ++ Lib.joinTail [47] (r.map (·.data.toList))) := by simp [Lib.joinTail]
        rw [h5, ih]
        have h6 : s.data.toList.drop (i + sl47.size) = s.data.toList.drop (i + 1) := rfl
        rw [h6, Nat.add_zero]
        exact h4.symm
end Go.Proofs.YtmakhnpjfdgocaaDoor.R
