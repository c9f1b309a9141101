/- The law FnExactBrokenInHouses: for every argument the call returns true. No condition beside what a machine's values are. -/
import Derived.Test.YtoomacelbhojhaaHw
import Derived.Test.YtoomacelbhojhaaJeints
namespace Go.Proofs.Ytoomacelbhojhaa.Pure
open Go.RowKit Go.Proofs.Ytoomacelbhojhaa Go.Proofs.Ytoomacelbhojhaa.J Go.Proofs.YtoomacelbhojhaaW.PrintWords Go.Proofs.YtoomacelbhojhaaW.PrintLast Go.Proofs.YtoomacelbhojhaaW.PrintMore
set_option linter.unusedVariables false
set_option linter.unusedSimpArgs false

theorem playH_nice (e : Int) (l bs : List Int) : ∃ G r2, playH e l bs = (G, r2) ∧ G.length ≤ 24 := by
  unfold playH
  cases ha : hAsk e l with
  | false => exact ⟨_, _, rfl, by simp⟩
  | true =>
    cases hb : hBs l bs with
    | false => exact ⟨_, _, rfl, by simp⟩
    | true =>
      have hg := (start_good ha hb).1
      have h1 := hPlay_len bs (vOf e l).ms (vOf e l) (fun _ => 0)
      have h2 : (vOf e l).ms ≤ 24 := by unfold VGood at hg; unfold VS.ms; omega
      exact ⟨_, _, rfl, Nat.le_trans h1 h2⟩
theorem playH_none {e : Int} {l bs : List Int} {G : List S104} (hG : playH e l bs = (G, false)) : G = [] := by
  unfold playH at hG
  split at hG
  · injection hG with _ h; cases h
  · injection hG with h _; exact h.symm
def brkN (l : List S104) : Nat := (l.filter (·.f2)).length
theorem brkN_t {x : S104} {l : List S104} (h : x.f2 = true) : brkN (x :: l) = brkN l + 1 := by unfold brkN; rw [List.filter_cons_of_pos h]; rfl
theorem brkN_f {x : S104} {l : List S104} (h : ¬ x.f2 = true) : brkN (x :: l) = brkN l := by unfold brkN; rw [List.filter_cons_of_neg h]
theorem brk_l0i (L : List S104) (hL : L.length ≤ 100) (b : Bool) (n : Nat) : ∀ (i k : Nat) (c : Int), i + n = L.length → n < k → 0 ≤ c → c + n ≤ 1000 → impl_BrokenInHouses.l0 k b c L (L.length : Int) (i : Int) = some (c + (brkN (L.drop i) : Int), b) := by
  induction n with
  | zero =>
    intro i k c h1 hk h0 h2
    obtain ⟨k, rfl⟩ : ∃ m, k = m + 1 := ⟨k - 1, by omega⟩
    rw [impl_BrokenInHouses.l0, if_neg (by omega), List.drop_of_length_le (by omega)]
    simp [brkN]
  | succ n ih =>
    intro i k c h1 hk h0 h2
    obtain ⟨k, rfl⟩ : ∃ m, k = m + 1 := ⟨k - 1, by omega⟩
    have hlt : i < L.length := by omega
    have hr : rd_T104 L (i : Int) = L[i] := by simp [rd_T104, hlt]
    have hd : L.drop i = L[i] :: L.drop (i + 1) := (List.getElem_cons_drop hlt).symm
    rw [impl_BrokenInHouses.l0, if_pos (by omega), if_pos (by omega), if_pos (by omega), hr, hd]
    rw [Hw.wrap_id (i := c + 1) (by omega) (by omega), Hw.wrap_id (i := (i : Int) + 1) (by omega) (by omega), show ((i : Int) + 1) = ((i + 1 : Nat) : Int) by omega]
    by_cases hf : L[i].f2 = true
    · rw [if_pos hf, ih (i + 1) k (c + 1) (by omega) (by omega) (by omega) (by omega), brkN_t hf, show c + 1 + (brkN (L.drop (i + 1)) : Int) = c + ((brkN (L.drop (i + 1)) + 1 : Nat) : Int) by omega]
    · rw [if_neg hf, ih (i + 1) k c (by omega) (by omega) h0 (by omega), brkN_f hf]
theorem brk_l0s (L : List S104) (hL : L.length ≤ 100) (n : Nat) : ∀ (i k : Nat) (c : Int), i + n = L.length → n < k → 0 ≤ c → c + n ≤ 1000 → spec_BrokenInHouses.l0 k c L (L.length : Int) (i : Int) = some (c + (brkN (L.drop i) : Int), true) := by
  induction n with
  | zero =>
    intro i k c h1 hk h0 h2
    obtain ⟨k, rfl⟩ : ∃ m, k = m + 1 := ⟨k - 1, by omega⟩
    rw [spec_BrokenInHouses.l0, if_neg (by omega), List.drop_of_length_le (by omega)]
    simp [brkN]
  | succ n ih =>
    intro i k c h1 hk h0 h2
    obtain ⟨k, rfl⟩ : ∃ m, k = m + 1 := ⟨k - 1, by omega⟩
    have hlt : i < L.length := by omega
    have hr : rd_T104 L (i : Int) = L[i] := by simp [rd_T104, hlt]
    have hd : L.drop i = L[i] :: L.drop (i + 1) := (List.getElem_cons_drop hlt).symm
    rw [spec_BrokenInHouses.l0, if_pos (by omega), if_pos (by omega), if_pos (by omega), hr, hd]
    rw [Hw.wrap_id (i := c + 1) (by omega) (by omega), Hw.wrap_id (i := (i : Int) + 1) (by omega) (by omega), show ((i : Int) + 1) = ((i + 1 : Nat) : Int) by omega]
    by_cases hf : L[i].f2 = true
    · rw [if_pos hf, ih (i + 1) k (c + 1) (by omega) (by omega) (by omega) (by omega), brkN_t hf, show c + 1 + (brkN (L.drop (i + 1)) : Int) = c + ((brkN (L.drop (i + 1)) + 1 : Nat) : Int) by omega]
    · rw [if_neg hf, ih (i + 1) k c (by omega) (by omega) h0 (by omega), brkN_f hf]
theorem brk_impl (e : Int) (l bs : List Int) {G : List S104} {r2 : Bool} (hG : playH e l bs = (G, r2)) (hl : G.length ≤ 24) : impl_BrokenInHouses.f 4000000 e l bs = some ((brkN G : Int), r2) := by
  unfold impl_BrokenInHouses.f
  rw [show impl_PlayHouses.f e l bs = some (playH e l bs) from rfl, hG, Option.bind_some]
  have h := brk_l0i G (by omega) r2 G.length 0 4000000 0 (by omega) (by omega) (by omega) (by omega)
  simpa using h
theorem brk_spec (e : Int) (l bs : List Int) {G : List S104} {r2 : Bool} (hG : playH e l bs = (G, r2)) (hl : G.length ≤ 24) : spec_BrokenInHouses.f 4000000 e l bs = some ((brkN G : Int), r2) := by
  unfold spec_BrokenInHouses.f
  rw [show spec_PlayHouses.f e l bs = some (playH e l bs) from rfl, hG, Option.bind_some]
  cases r2 with
  | true =>
    rw [if_pos rfl]
    have h := brk_l0s G (by omega) G.length 0 4000000 0 (by omega) (by omega) (by omega) (by omega)
    simpa using h
  | false => rw [playH_none hG]; rfl
theorem walk_FnExactBrokenInHouses (a0 : Int) (A1 : Option Addr) (c1 : Nat) (l1 : List Int) (A2 : Option Addr) (c2 : Nat) (l2 : List Int) (w : World) (hr1 : Kd.C (Kd.int .i64) w A1 l1.length l1) (hc1 : l1.length ≤ c1) (hr2 : Kd.C (Kd.int .i64) w A2 l2.length l2) (hc2 : l2.length ≤ c2) (hw0 : (Lit.int .i64 a0).wf = true) (hw1 : l1.length * 8 ≤ 140737488351232) (hw1g : ∀ p_ ∈ l1, (Lit.int .i64 p_).wf = true) (hw2 : l2.length * 8 ≤ 140737488351232) (hw2g : ∀ p_ ∈ l2, (Lit.int .i64 p_).wf = true) :
    Calls Try.prog 11 #[.int .i64 a0, .slice A1 l1.length c1, .slice A2 l2.length c2] w fun e w' => e = .returned (.bool true) ∧ Below w.heap.size w w' := by
  by_cases hb : (l1.length : Int) + (l2.length : Int) ≤ 1000000
  · obtain ⟨G, r2, hG, hl⟩ := playH_nice a0 l1 l2
    obtain ⟨F, F', t, f1, f2, f3, f4, f5, f6, f7, f8⟩ := intFacts0 l1 (by omega) 4000000 (by omega)
    obtain ⟨D, D', s, g1, g2, g3, g4, g5, g6, g7, g8⟩ := intFacts0 l2 (by omega) 4000000 (by omega)
    exact hand_FnExactBrokenInHouses 4000000 a0 A1 c1 l1 A2 c2 l2 w hr1 hc1 hr2 hc2 F F' [] t 0 D D' [] s 0 _ _ f1 f2 f3 f4 f5 f6 f7 f8 g1 g2 g3 g4 g5 g6 g7 g8 (brk_spec a0 l1 l2 hG hl) (brk_impl a0 l1 l2 hG hl) hb
  · exact big_FnExactBrokenInHouses a0 A1 c1 l1 A2 c2 l2 w (by omega) (by omega)

end Go.Proofs.Ytoomacelbhojhaa.Pure
