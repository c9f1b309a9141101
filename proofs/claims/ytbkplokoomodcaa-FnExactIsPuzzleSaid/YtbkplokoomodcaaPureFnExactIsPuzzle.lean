/- The law FnExactIsPuzzle: for every puzzle the call returns true. No condition beside what a machine's values are. -/
import Derived.Test.YtbkplokoomodcaaQx
namespace Go.Proofs.Ytbkplokoomodcaa.Pure
open Go.RowKit Go.Proofs.Ytbkplokoomodcaa Go.Proofs.Ytbkplokoomodcaa.Q Go.Proofs.YtbkplokoomodcaaW.PrintWords Go.Proofs.YtbkplokoomodcaaW.PrintLast Go.Proofs.YtbkplokoomodcaaW.PrintMore
set_option linter.unusedVariables false
set_option linter.unusedSimpArgs false

theorem clue_any (fl a b c : Int) : ∃ r, spec_pzClue.f fl a b c = some r := by
  unfold spec_pzClue.f spec_flEggs.f spec_l1In.f
  repeat (first | exact ⟨_, rfl⟩ | split | simp only [Option.bind_some])
def pzB (fl : Int) (x : S25) : Bool := (spec_pzClue.f fl x.f0 x.f1 x.f2).getD false
theorem pzB_some (fl : Int) (x : S25) : spec_pzClue.f fl x.f0 x.f1 x.f2 = some (pzB fl x) := by
  obtain ⟨r, h⟩ := clue_any fl x.f0 x.f1 x.f2
  unfold pzB
  rw [h]; rfl
theorem pzGood_l0 (fl : Int) (L : List S25) (hb : L.length < 9223372036854775807) : ∀ (d : Nat) (k : Nat) (i : Nat), i + d = L.length → d < k → spec_pzGood.l0 k L (L.length : Int) (i : Int) fl L = some ((L.drop i).all (pzB fl)) := by
  intro d
  induction d with
  | zero =>
    intro k i hi hk
    obtain ⟨k, rfl⟩ : ∃ m, k = m + 1 := ⟨k - 1, by omega⟩
    simp only [spec_pzGood.l0]
    rw [if_neg (by omega), List.drop_of_length_le (by omega)]
    rfl
  | succ d ih =>
    intro k i hi hk
    obtain ⟨k, rfl⟩ : ∃ m, k = m + 1 := ⟨k - 1, by omega⟩
    have hlt : i < L.length := by omega
    have h1 := ih k (i + 1) (by omega) (by omega)
    have hx : rd_T25 L (i : Int) = L[i] := by simp [rd_T25, List.getD_eq_getElem?_getD, List.getElem?_eq_getElem hlt]
    simp only [spec_pzGood.l0]
    refine Hw.ite_of (by omega) (Hw.ite_of (by omega) (Hw.ite_of (by omega) (Hw.bind_of (pzB_some fl (rd_T25 L i)) ?_)))
    rw [hx, Hw.wrap_id (by omega) (by omega), List.drop_eq_getElem_cons hlt, List.all_cons]
    cases h : pzB fl L[i]
    · rfl
    · rw [if_pos rfl, Bool.true_and]; exact h1
theorem hid_some (a : Int) : spec_pzFloors.f a = some (decide (1 ≤ a) && decide (a ≤ 40)) := by
  unfold spec_pzFloors.f spec_l1In.f
  by_cases h : 1 ≤ a <;> simp [h]
theorem isClue_pz (fl : Int) (h : (decide (1 ≤ fl) && decide (fl ≤ 40)) = true) (x : S25) : isClueB fl x = pzB fl x := by
  have h1 : impl_IsClue.f fl x.f0 x.f1 x.f2 = spec_IsClue.f fl x.f0 x.f1 x.f2 := by
    unfold impl_IsClue.f spec_IsClue.f spec_pzClue.f impl_isHiddenHouse.f spec_pzFloors.f impl_isEggs.f spec_flEggs.f impl_isBreak.f
    simp only [show ∀ a b c, impl_within.f a b c = spec_l1In.f a b c from fun _ _ _ => rfl, Option.bind_some, Option.bind_fun_some]
  unfold isClueB
  rw [h1]
  unfold spec_IsClue.f
  rw [hid_some, h, Option.bind_some, if_pos rfl, pzB_some, Option.bind_some]
  rfl
theorem spec_puz (fl : Int) (L : List S25) (hb : L.length < 9223372036854775807) (k : Nat) (hk : L.length + 1 < k) : spec_IsPuzzle.f k fl L = some (decide (1 ≤ fl) && decide (fl ≤ 40) && decide (L.length ≤ 6) && L.all (isClueB fl)) := by
  unfold spec_IsPuzzle.f spec_pzGood.f
  obtain ⟨k, rfl⟩ : ∃ m, k = m + 1 := ⟨k - 1, by omega⟩
  refine Hw.bind_of (Hw.bind_of (hid_some fl) ?_) rfl
  cases h : (decide (1 ≤ fl) && decide (fl ≤ 40))
  · rw [if_neg (by decide)]
    simp only [spec_pzGood.j0]
    rfl
  · rw [if_pos rfl]
    simp only [spec_pzGood.j0]
    have he : L.all (isClueB fl) = L.all (pzB fl) := congrArg L.all (funext (isClue_pz fl h))
    rw [he]
    by_cases h6 : L.length ≤ 6
    · rw [decide_eq_false (show ¬ ((L.length : Int) > 6) by omega), if_neg (by decide), decide_eq_true h6]
      have := pzGood_l0 fl L hb L.length k 0 (by omega) (by omega)
      simpa using this
    · rw [decide_eq_true (show (L.length : Int) > 6 by omega), if_pos rfl, decide_eq_false h6]
      rfl
theorem walk_FnExactIsPuzzle (a0_0 : Int) (A0_1 : Option Addr) (c0_1 : Nat) (l0_1 : List S23) (w : World) (hr0_1 : Kd.C k23 w A0_1 l0_1.length l0_1) (hc0_1 : l0_1.length ≤ c0_1) :
    Calls Try.prog 4 #[.agg #[.int .i64 a0_0, .slice A0_1 l0_1.length c0_1]] w fun e w' => e = .returned (.bool true) ∧ Below w.heap.size w w' := by
  have hm := Kd.C_max hr0_1
  by_cases h : l0_1.length ≤ 1000000
  · have hr := Hw.room_le l0_1.length
    have hF : (fullClue l0_1).length = l0_1.length + Hw.room l0_1.length := by simp [fullClue]
    refine hand_FnExactIsPuzzle (l0_1.length + Hw.room l0_1.length + 9) a0_0 A0_1 c0_1 l0_1 w hr0_1 hc0_1 (fullClue l0_1) (if l0_1.length = 0 then [] else fullClue l0_1) (l0_1.map convClue) (Hw.room l0_1.length) _ _ (szPuzzle_small a0_0 l0_1 h) (by omega)
      (fullClue_some l0_1 false h (.inl rfl) _ (by omega)) ?_ (by simp) ?_ (fun h0 => if_neg h0) (fun h0 => if_pos h0) (room_some _) (by rw [hF, Hw.wrap_id (by omega) (by omega)]; omega) (eqClue_self _ (by omega) _ (by omega))
      (spec_puz a0_0 _ (by simp; omega) _ (by simp; omega)) rfl
    · unfold fullClue
      rw [List.take_append_of_le_length (by simp), List.take_of_length_le (by simp)]
    · by_cases h0 : l0_1.length = 0
      · obtain rfl := List.eq_nil_of_length_eq_zero h0
        rw [show (if ([] : List S23).length = 0 then ([] : List S25) else fullClue []) = [] from rfl]
        exact fullClue_nil _ (by omega)
      · rw [if_neg h0]
        exact fullClue_some l0_1 true h (.inr h0) _ (by omega)
  · exact big_FnExactIsPuzzle a0_0 A0_1 c0_1 l0_1 w hr0_1 hc0_1 (-1) (szPuzzle_big a0_0 l0_1 hm (by omega)) (by omega)

end Go.Proofs.Ytbkplokoomodcaa.Pure
