/- The law FnExactIsDesk: for every argument the call returns true. No condition beside what a machine's values are. -/
import Derived.Test.YtgolncpnephdcaaHw
import Derived.Test.YtgolncpnephdcaaDel1i
import Derived.Test.YtgolncpnephdcaaDeszDesk
namespace Go.Proofs.Ytgolncpnephdcaa.Pure
open Go.RowKit Go.Proofs.Ytgolncpnephdcaa Go.Proofs.Ytgolncpnephdcaa.D Go.Proofs.YtgolncpnephdcaaW.PrintWords Go.Proofs.YtgolncpnephdcaaW.PrintLast Go.Proofs.YtgolncpnephdcaaW.PrintMore
set_option linter.unusedVariables false
set_option linter.unusedSimpArgs false

theorem flEggs_some (a : Int) : spec_flEggs.f a = some (decide (1 ≤ a) && decide (a ≤ 10)) := by
  unfold spec_flEggs.f
  rw [l1In_some]
  rfl
theorem flDrops_l0 (fl : Int) (L : List S78) (hb : L.length ≤ 1000000) : ∀ (n i k : Nat), i + n = L.length → n < k → spec_flDrops.l0 k fl L (L.length : Int) (i : Int) = some ((L.drop i).all (inFlD fl)) := by
  intro n
  induction n with
  | zero =>
    intro i k h1 hk
    obtain ⟨k, rfl⟩ : ∃ m, k = m + 1 := ⟨k - 1, by omega⟩
    rw [spec_flDrops.l0, if_neg (by omega), List.drop_of_length_le (by omega)]
    rfl
  | succ n ih =>
    intro i k h1 hk
    obtain ⟨k, rfl⟩ : ∃ m, k = m + 1 := ⟨k - 1, by omega⟩
    have hlt : i < L.length := by omega
    have hr : rd_T78 L (i : Int) = L[i] := by simp [rd_T78, hlt]
    rw [spec_flDrops.l0, if_pos (by omega), if_pos (by omega), if_pos (by omega), hr, l1In_some, Option.bind_some, List.drop_eq_getElem_cons hlt, List.all_cons, Hw.wrap_id (by omega) (by omega)]
    have h := ih (i + 1) k (by omega) (by omega)
    rw [show ((i : Int) + 1) = ((i + 1 : Nat) : Int) by omega, h]
    show (if inFlD fl L[i] = true then _ else _) = _
    cases inFlD fl L[i] <;> simp
theorem flDrops_some (fl : Int) (L : List S78) (h0 : 0 ≤ fl) (h1 : fl ≤ 1000) (hb : L.length ≤ 1000) (k : Nat) (hk : L.length + 1 < k) : spec_flDrops.f k fl L = some (L.all (inFlD fl)) := by
  unfold spec_flDrops.f spec_flFloors.f
  obtain ⟨k, rfl⟩ : ∃ m, k = m + 1 := ⟨k - 1, by omega⟩
  rw [l1In_some, Option.bind_some, Option.bind_some, if_pos (by simp [h0, h1]), spec_flDrops.j0, decide_eq_false (show ¬ ((L.length : Int) > 1000) by omega), if_neg (by decide)]
  have h := flDrops_l0 fl L (by omega) L.length 0 k (by omega) (by omega)
  rw [List.drop_zero] at h
  exact h
theorem flBroken_l (l : List S78) (hl : l.length ≤ 1000000) (m n i : Nat) (x : Int) (hi : i + n = l.length) (hx0 : 0 ≤ x) (hx1 : x + n ≤ 1000000) : spec_flBroken.l0 (m + n + 1) x l (l.length : Int) (i : Int) = some (x + brokenN (l.drop i)) := by
  induction n generalizing i x with
  | zero =>
    rw [spec_flBroken.l0, if_neg (by omega), List.drop_of_length_le (by omega)]
    simp [brokenN]
  | succ n ih =>
    have hlt : i < l.length := by omega
    have hr : rd_T78 l (i : Int) = l[i] := by simp [rd_T78, hlt]
    rw [spec_flBroken.l0, if_pos (by omega), if_pos (by omega), if_pos (by omega), hr, List.drop_eq_getElem_cons hlt, brokenN_cons, Hw.wrap_id (by omega) (by omega), Hw.wrap_id (by omega) (by omega)]
    have h1 := ih (i + 1) (x + 1) (by omega) (by omega) (by omega)
    have h2 := ih (i + 1) x (by omega) (by omega) (by omega)
    simp only [Int.natCast_add, Int.natCast_one] at h1 h2
    rw [show m + (n + 1) = m + n + 1 by omega]
    split
    · rename_i h; rw [h1]; congr 1; simp [h]; omega
    · rename_i h; rw [h2]; congr 1; simp [h]
theorem flBroken_some (l : List S78) (hl : l.length ≤ 1000) (k : Nat) (hk : 1001 ≤ k) : spec_flBroken.f k l = some (brokenN l : Int) := by
  have := flBroken_l l (by omega) (k - l.length - 1) l.length 0 0 (by omega) (by omega) (by omega)
  rw [show k - l.length - 1 + l.length + 1 = k by omega] at this
  simpa [spec_flBroken.f] using this
theorem coGood_l0 (L L0 : List S78) (b0 b1 h0 : Int) (hb : L.length ≤ 1000000) : ∀ (n i k : Nat), i + n = L.length → n < k → spec_coGood.l0 k L (L.length : Int) (i : Int) b0 b1 h0 L0 = some ((L.drop i).all (okDr h0)) := by
  intro n
  induction n with
  | zero =>
    intro i k h1 hk
    obtain ⟨k, rfl⟩ : ∃ m, k = m + 1 := ⟨k - 1, by omega⟩
    rw [spec_coGood.l0, if_neg (by omega), List.drop_of_length_le (by omega)]
    rfl
  | succ n ih =>
    intro i k h1 hk
    obtain ⟨k, rfl⟩ : ∃ m, k = m + 1 := ⟨k - 1, by omega⟩
    have hlt : i < L.length := by omega
    have hr : rd_T78 L (i : Int) = L[i] := by simp [rd_T78, hlt]
    rw [spec_coGood.l0, if_pos (by omega), if_pos (by omega), if_pos (by omega), hr, List.drop_eq_getElem_cons hlt, List.all_cons, Hw.wrap_id (by omega) (by omega)]
    have h := ih (i + 1) k (by omega) (by omega)
    rw [show ((i : Int) + 1) = ((i + 1 : Nat) : Int) by omega, h]
    have hq : okDr h0 L[i] = (L[i].f1 == decide (L[i].f0 > h0)) := rfl
    rw [hq]
    cases L[i].f1 <;> cases decide (L[i].f0 > h0) <;> simp
theorem eq_IsDesk (a0 a1 a2 : Int) (L : List S78) (hL : L.length ≤ 1000000) : ∃ r, ∃ k0, (∀ k, k0 ≤ k → spec_IsDesk.f k a0 a1 a2 L = some r) ∧ impl_IsDesk.f a0 a1 a2 L = some r := by
  refine ⟨_, 2000, fun k hk => ?_, rfl⟩
  obtain ⟨k, rfl⟩ : ∃ m, k = m + 1 := ⟨k - 1, by omega⟩
  unfold spec_IsDesk.f spec_coGood.f
  rw [flEggs_some, Option.bind_some, l1In_some, l1In_some]
  have hj : ∀ x, spec_coGood.j0 (k + 1) true a0 a1 a2 x = some false := fun x => by rw [spec_coGood.j0, if_pos rfl]
  cases e1 : (decide (1 ≤ a0) && decide (a0 ≤ 10)) with
  | false => rw [if_neg (by decide), hj]; simp
  | true =>
    rw [if_pos rfl, Option.bind_some]
    cases e2 : (decide (0 ≤ a1) && decide (a1 ≤ 100)) with
    | false => rw [if_neg (by decide), hj]; simp
    | true =>
      rw [if_pos rfl, Option.bind_some]
      simp only [Bool.and_eq_true, decide_eq_true_eq] at e2
      cases e3 : (decide (0 ≤ a2) && decide (a2 ≤ a1)) with
      | false => rw [if_neg (by decide), hj]; simp
      | true =>
        rw [if_pos rfl]
        by_cases h4 : L.length ≤ 100
        · rw [if_neg (by omega), flDrops_some a1 L (by omega) (by omega) (by omega) (k + 1) (by omega), Option.bind_some, decide_eq_true h4]
          cases e5 : L.all (inFlD a1) with
          | false => rw [if_neg (by decide), hj]; simp
          | true =>
            rw [if_pos rfl, flBroken_some L (by omega) (k + 1) (by omega), Option.bind_some, spec_coGood.j0]
            have h := coGood_l0 L L a0 a1 a2 hL L.length 0 k (by omega) (by omega)
            rw [List.drop_zero] at h
            by_cases h6 : (brokenN L : Int) ≤ a0
            · rw [decide_eq_false (show ¬ ((brokenN L : Int) > a0) by omega), if_neg (by decide), decide_eq_true h6]
              rw [show (0 : Int) = ((0 : Nat) : Int) from rfl, h]
              simp
            · rw [decide_eq_true (show (brokenN L : Int) > a0 by omega), if_pos rfl, decide_eq_false h6]
              simp
        · rw [if_pos (by omega), hj, decide_eq_false h4]
          simp

theorem walk_FnExactIsDesk (a0_0 a0_1 a0_2 : Int) (A0_3 : Option Addr) (c0_3 : Nat) (l0_3 : List S86) (w : World) (hr0_3 : Kd.C k86 w A0_3 l0_3.length l0_3) (hc0_3 : l0_3.length ≤ c0_3) :
    Calls Try.prog 6 #[.agg #[.int .i64 a0_0, .int .i64 a0_1, .int .i64 a0_2, .slice A0_3 l0_3.length c0_3]] w fun e w' => e = .returned (.bool true) ∧ Below w.heap.size w w' := by
  have hm := Kd.C_max hr0_3
  by_cases h : l0_3.length ≤ 1000000
  · have hr := Hw.room_le l0_3.length
    have hF : (fullDrop l0_3).length = l0_3.length + Hw.room l0_3.length := by simp [fullDrop]
    obtain ⟨r, k0, h1, h2⟩ := eq_IsDesk a0_0 a0_1 a0_2 (l0_3.map convDrop) (by simpa using h)
    refine hand_FnExactIsDesk (k0 + l0_3.length + Hw.room l0_3.length + 9) a0_0 a0_1 a0_2 A0_3 c0_3 l0_3 w hr0_3 hc0_3 (fullDrop l0_3) (if l0_3.length = 0 then [] else fullDrop l0_3) (l0_3.map convDrop) (Hw.room l0_3.length) _ _ (szDesk_small a0_0 a0_1 a0_2 l0_3 h) (by omega)
      (fullDrop_some l0_3 false h (.inl rfl) _ (by omega)) ?_ (by simp) ?_ (fun h0 => if_neg h0) (fun h0 => if_pos h0) (room_some _) (by rw [hF, Hw.wrap_id (by omega) (by omega)]; omega) (eqDrop_self _ (by omega) _ (by omega))
      (h1 _ (by omega)) h2
    · unfold fullDrop
      rw [List.take_append_of_le_length (by simp), List.take_of_length_le (by simp)]
    · by_cases h0 : l0_3.length = 0
      · obtain rfl := List.eq_nil_of_length_eq_zero h0
        rw [show (if ([] : List S86).length = 0 then ([] : List S78) else fullDrop []) = [] from rfl]
        exact fullDrop_nil _ (by omega)
      · rw [if_neg h0]
        exact fullDrop_some l0_3 true h (.inr h0) _ (by omega)
  · exact big_FnExactIsDesk a0_0 a0_1 a0_2 A0_3 c0_3 l0_3 w hr0_3 hc0_3 (-1) (szDesk_big a0_0 a0_1 a0_2 l0_3 hm (by omega)) (by omega)


end Go.Proofs.Ytgolncpnephdcaa.Pure
