/- The law FnExactMakePuzzle: for every argument the call returns true. No condition beside what a machine's values are. -/
import Derived.Test.YtbkplokoomodcaaHw
import Derived.Test.YtbkplokoomodcaaMereach
import Derived.Test.YtbkplokoomodcaaMel1
import Derived.Test.YtbkplokoomodcaaMemarksC
import Derived.Test.YtbkplokoomodcaaMeheldC
namespace Go.Proofs.Ytbkplokoomodcaa.Pure
open Go.RowKit Go.Proofs.Ytbkplokoomodcaa Go.Proofs.Ytbkplokoomodcaa.M Go.Proofs.YtbkplokoomodcaaW.PrintWords Go.Proofs.YtbkplokoomodcaaW.PrintLast Go.Proofs.YtbkplokoomodcaaW.PrintMore
set_option linter.unusedVariables false
set_option linter.unusedSimpArgs false

theorem pzHidden_some (a b : Int) : spec_pzHidden.f a b = some (decide (1 ≤ a) && decide (a ≤ 40) && (decide (0 ≤ b) && decide (b ≤ a))) := by
  unfold spec_pzHidden.f
  rw [pzFloors_some, Option.bind_some]
  split
  · rename_i h; rw [l1In_some, Option.bind_some, h, Bool.true_and]
  · rename_i h; rw [Bool.eq_false_iff.2 h, Bool.false_and]
theorem pzNext_some (z : Int) (h0 : 0 ≤ z) (h1 : z ≤ 10006) : spec_pzNext.f z = some (mkNext z) := by
  unfold spec_pzNext.f mkNext
  rw [Hw.wrap_id (i := 211 * z) (by omega) (by omega), Hw.wrap_id (by omega) (by omega), Int.mul_comm, Int.tmod_eq_emod_of_nonneg (by omega)]
theorem pzOf_some (fl br k y : Int) (hf0 : 1 ≤ fl) (hf1 : fl ≤ 40) (hb0 : 0 ≤ br) (hb1 : br ≤ fl) (hk0 : 0 ≤ k) (hk1 : k ≤ 4) (hy : 0 ≤ y) (K : Nat) (hK : 14000 ≤ K) : spec_pzOf.f K fl k y br = some (k, mkA fl k y, asHasV fl k (mkA fl k y) br) := by
  have hv := pzValue_some fl k (mkA fl k y) br (mkA_ok hf0 hf1 hy k ⟨hk0, hk1⟩) (by omega) (by omega) hb0 hb1 K hK
  have h1 := Int.tmod_nonneg fl hy
  have h2 := Int.tmod_lt_of_pos y (show 0 < fl by omega)
  have h5 := Int.tmod_nonneg 8 hy
  have h6 := Int.tmod_nonneg 3 hy
  have h7 := Int.tmod_lt_of_pos y (show (0 : Int) < 8 by decide)
  have h8 := Int.tmod_lt_of_pos y (show (0 : Int) < 3 by decide)
  unfold spec_pzOf.f
  rw [Hw.wrap_id (i := fl + 1) (by omega) (by omega)]
  rw [if_neg (by omega)]
  unfold mkA at hv ⊢
  rcases (by omega : k = 0 ∨ k = 1 ∨ k = 2 ∨ k = 3 ∨ k = 4) with rfl | rfl | rfl | rfl | rfl
  · rw [if_pos rfl] at hv ⊢
    rw [if_pos rfl, if_neg (by omega), Hw.wrap_id (by omega) (by omega), hv]
    rfl
  · rw [if_neg (by decide), if_pos rfl] at hv ⊢
    rw [if_neg (by decide), if_pos rfl, Hw.wrap_id (by omega) (by omega), hv]
    rfl
  · rw [if_neg (by decide), if_neg (by decide), if_pos rfl] at hv ⊢
    rw [if_neg (by decide), if_neg (by decide), if_pos rfl, Hw.wrap_id (by omega) (by omega), hv]
    rfl
  · rw [if_neg (by decide), if_neg (by decide), if_neg (by decide), if_pos rfl] at hv ⊢
    rw [if_neg (by decide), if_neg (by decide), if_neg (by decide), if_pos rfl, Hw.wrap_id (by omega) (by omega), hv]
    rfl
  · rw [if_neg (by decide), if_neg (by decide), if_neg (by decide), if_neg (by decide)] at hv ⊢
    rw [if_neg (by decide), if_neg (by decide), if_neg (by decide), if_neg (by decide), hv]
    rfl
theorem make_l0 (fl br : Int) (hf0 : 1 ≤ fl) (hf1 : fl ≤ 40) (hb0 : 0 ≤ br) (hb1 : br ≤ fl) (n : Nat) : ∀ (z : Int) (xs : List S25) (K : Nat), 0 ≤ z → z ≤ 10006 → n ≤ 6 → xs.length + n ≤ 6 → 14000 + n < K → spec_MakePuzzle.l0 K fl br (n : Int) z fl xs = some (fl, xs ++ mkFrom fl br n z, true) := by
  induction n with
  | zero =>
    intro z xs K h0 h1 h2 h3 hK
    obtain ⟨K, rfl⟩ : ∃ m, K = m + 1 := ⟨K - 1, by omega⟩
    rw [spec_MakePuzzle.l0, if_neg (by omega), mkFrom, List.append_nil]
  | succ n ih =>
    intro z xs K h0 h1 h2 h3 hK
    obtain ⟨K, rfl⟩ : ∃ m, K = m + 1 := ⟨K - 1, by omega⟩
    have m1 := mkNext_ok h0
    have m2 := mkNext_ok m1.1
    have k1 := Int.tmod_nonneg 5 m1.1
    have k2 := Int.tmod_lt_of_pos (mkNext z) (show (0 : Int) < 5 by decide)
    rw [spec_MakePuzzle.l0, if_pos (by omega)]
    refine Hw.bind_of (pzNext_some z h0 h1) ?_
    refine Hw.bind_of (pzNext_some _ m1.1 m1.2) ?_
    refine Hw.bind_of (pzOf_some fl br _ _ hf0 hf1 hb0 hb1 k1 (by omega) m2.1 K (by omega)) ?_
    rw [if_pos (by omega), Hw.wrap_id (by omega) (by omega), show ((n + 1 : Nat) : Int) - 1 = (n : Int) by omega]
    rw [ih _ _ K m2.1 m2.2 (by omega) (by simp; omega) (by omega), mkFrom]
    simp
theorem mkFrom_len (fl br : Int) (n : Nat) (z : Int) : (mkFrom fl br n z).length = n := by
  induction n generalizing z with
  | zero => rfl
  | succ n ih => simp [mkFrom, ih]
theorem eq_MakePuzzle (a0 a1 a2 a3 : Int) : ∃ r1 G r2, (∀ k, 20000 ≤ k → spec_MakePuzzle.f k a0 a1 a2 a3 = some (r1, G, r2)) ∧ impl_MakePuzzle.f a0 a1 a2 a3 = some (r1, G, r2) ∧ G.length ≤ 6 := by
  unfold spec_MakePuzzle.f impl_MakePuzzle.f
  simp only [pzHidden_some, l1In_some, mk_hidden, mk_break, mk_within, Option.bind_some]
  by_cases hg : (1 ≤ a0 ∧ a0 ≤ 40) ∧ (0 ≤ a1 ∧ a1 ≤ a0) ∧ (0 ≤ a2 ∧ a2 ≤ 6) ∧ (0 ≤ a3 ∧ a3 ≤ 9999)
  · obtain ⟨⟨q1, q2⟩, ⟨q3, q4⟩, ⟨q5, q6⟩, ⟨q7, q8⟩⟩ := hg
    refine ⟨a0, mkFrom a0 a1 a2.toNat a3, true, fun k hk => ?_, by simp [q1, q2, q3, q4, q5, q6, q7, q8], by rw [mkFrom_len]; omega⟩
    obtain ⟨k, rfl⟩ : ∃ m, k = m + 1 := ⟨k - 1, by omega⟩
    have h := make_l0 a0 a1 q1 q2 q3 q4 a2.toNat a3 [] k q7 (by omega) (by omega) (by simp; omega) (by omega)
    rw [Int.toNat_of_nonneg q5] at h
    simpa [q1, q2, q3, q4, q5, q6, q7, q8, spec_MakePuzzle.j0] using h
  · refine ⟨0, [], false, fun k hk => ?_, ?_, by simp⟩
    · obtain ⟨k, rfl⟩ : ∃ m, k = m + 1 := ⟨k - 1, by omega⟩
      by_cases h1 : (1 ≤ a0 ∧ a0 ≤ 40) ∧ (0 ≤ a1 ∧ a1 ≤ a0)
      · by_cases h2 : 0 ≤ a2 ∧ a2 ≤ 6
        · have h3 : ¬ (0 ≤ a3 ∧ a3 ≤ 9999) := fun h3 => hg ⟨h1.1, h1.2, h2, h3⟩
          rw [if_pos (by simp [h1]), if_pos (by simp [h2]), show (decide (0 ≤ a3) && decide (a3 ≤ 9999)) = false by simp; omega]
          rfl
        · rw [if_pos (by simp [h1]), if_neg (by simp; omega)]
          rfl
      · rw [if_neg (by simp; omega)]
        rfl
    · rw [if_neg]
      simp
      omega
theorem FnExactMakePuzzle : laws_FnExactMakePuzzle.Pure := by
  intro a0 a1 a2 a3 _ _ _ _
  obtain ⟨r1, G, r2, h1, h2, hG⟩ := eq_MakePuzzle a0 a1 a2 a3
  refine ⟨30002, ?_⟩
  unfold laws_FnExactMakePuzzle.f
  refine Hw.bind_of (h1 _ (by omega)) ?_
  refine Hw.bind_of h2 ?_
  refine Hw.bind_of (eqPuzzle_self r1 G (by omega) _ (by omega)) ?_
  rw [if_pos rfl, laws_FnExactMakePuzzle.j0, if_neg (by simp)]
  refine Hw.bind_of (markPuzzle_some r1 G (by omega) _ (by omega)) ?_
  refine Hw.bind_of (heldPuzzle_some r1 G.length (by omega) _ (by omega)) ?_
  rw [if_neg (by omega), if_pos rfl]
  refine Hw.bind_of h2 ?_
  refine Hw.bind_of (eqPuzzle_self r1 G (by omega) _ (by omega)) ?_
  rw [if_pos rfl, laws_FnExactMakePuzzle.j1, if_neg (by simp)]
  refine Hw.bind_of (heldPuzzle_some r1 G.length (by omega) _ (by omega)) ?_
  rw [if_neg (by omega), if_pos rfl]

end Go.Proofs.Ytbkplokoomodcaa.Pure
