/- Plain Lean functions with the answers of Go functions, and proofs of it: printed by a program of this session (pr.py) over the kit's print, with hand-written parts. -/
import Derived.Test.YtibapicnljedcabQx0
import Derived.Test.YtibapicnljedcabQx2
import Derived.Test.YtibapicnljedcabQx3
import Derived.Test.YtibapicnljedcabQx4
import Derived.Test.YtibapicnljedcabQx5
import Derived.Test.YtibapicnljedcabQx6
import Derived.Test.YtibapicnljedcabQx7
import Derived.Test.YtibapicnljedcabQx9
import Derived.Test.YtibapicnljedcabQx11
namespace Go.Proofs.Ytibapicnljedcab.Q
open Go.RowKit Go.Proofs.YtibapicnljedcabW.PrintWords Go.Proofs.YtibapicnljedcabW.PrintLast Go.Proofs.YtibapicnljedcabW.PrintMore
attribute [local go_sem] max2_int min2_int max_two min_two max_three min_three max_four min_four   -- for this text's walks alone
set_option linter.unusedVariables false
set_option linter.unusedSimpArgs false

-- FOR impl.HardestPairs
-- KIND rounds=0 making=1
-- CALLS impl.PlayKinds ; impl.pairsLeft ; spec.kiLeft ; spec.kiFits ; impl.fitsAll
-- USES kd [][]int
/-! What fits tests. -/
theorem kiFits_l0 (L : List S43) (wk st : Int) (hb : L.length ≤ 1000000) : ∀ (n i k : Nat), i + n = L.length → n < k → spec_kiFits.l0 k wk st L (L.length : Int) (i : Int) = some ((L.drop i).all (kfits wk st)) := by
  intro n
  induction n with
  | zero =>
    intro i k h1 hk
    obtain ⟨k, rfl⟩ : ∃ m, k = m + 1 := ⟨k - 1, by omega⟩
    rw [spec_kiFits.l0, if_neg (by omega), List.drop_of_length_le (by omega)]
    rfl
  | succ n ih =>
    intro i k h1 hk
    obtain ⟨k, rfl⟩ : ∃ m, k = m + 1 := ⟨k - 1, by omega⟩
    have hlt : i < L.length := by omega
    have hr : rd_T43 L (i : Int) = L[i] := by simp [rd_T43, hlt]
    rw [spec_kiFits.l0, if_pos (by omega), if_pos (by omega), if_pos (by omega), hr, List.drop_eq_getElem_cons hlt, List.all_cons, Hw.wrap_id (by omega) (by omega)]
    have h := ih (i + 1) k (by omega) (by omega)
    rw [show ((i : Int) + 1) = ((i + 1 : Nat) : Int) by omega, h]
    have hk2 : ∃ b, spec_kiBreaks.f L[i].f0 L[i].f1 wk st = some b ∧ kfits wk st L[i] = (L[i].f2 == b) := by
      unfold spec_kiBreaks.f kfits impl_KindTest_fits.f
      split
      · exact ⟨_, rfl, rfl⟩
      · exact ⟨_, rfl, rfl⟩
    obtain ⟨b, hb1, hb2⟩ := hk2
    rw [hb1, Option.bind_some, hb2]
    cases b <;> cases L[i].f2 <;> simp
theorem kiFits_some (L : List S43) (wk st : Int) (hb : L.length ≤ 1000000) (k : Nat) (hk : L.length < k) : spec_kiFits.f k L wk st = some (L.all (kfits wk st)) := by
  unfold spec_kiFits.f
  have h := kiFits_l0 L wk st hb L.length 0 k (by omega) hk
  simpa using h
/-! Pairs that fit tests. -/
def pairsRow (L : List S43) (wk : Int) : Nat → Int → List (List Int)
  | 0, _ => []
  | n + 1, s => if L.all (kfits wk s) = true then [wk, s] :: pairsRow L wk n (s + 1) else pairsRow L wk n (s + 1)
def pairsAll (fl : Int) (L : List S43) : Nat → Int → List (List Int)
  | 0, _ => []
  | n + 1, wk => pairsRow L wk (fl + 1 - wk).toNat wk ++ pairsAll fl L n (wk + 1)
def pairsF (fl : Int) (L : List S43) : List (List Int) := pairsAll fl L (fl + 1).toNat 0
theorem pairsRow_len (L : List S43) (wk : Int) (n : Nat) (s : Int) : (pairsRow L wk n s).length ≤ n := by
  induction n generalizing s with
  | zero => simp [pairsRow]
  | succ n ih =>
    unfold pairsRow
    split
    · rw [List.length_cons]; exact Nat.succ_le_succ (ih _)
    · exact Nat.le_succ_of_le (ih _)
theorem impl_l1 (fl : Int) (L : List S43) (wk : Int) (h0 : 0 ≤ wk) (hf : fl ≤ 6) (n : Nat) : ∀ (s : Int) (xs : List (List Int)) (K : Nat), 0 ≤ s → s + n = fl + 1 → xs.length + n ≤ 1000 →
    impl_pairsLeft.l1 (K + n + 1) fl L xs wk s (fl + 1) wk = impl_pairsLeft.l0 K fl L (xs ++ pairsRow L wk n s) (fl + 1) (wrap64 (wk + 1)) := by
  induction n with
  | zero =>
    intro s xs K h1 h2 h3
    rw [impl_pairsLeft.l1, if_neg (by omega), pairsRow, List.append_nil]
  | succ n ih =>
    intro s xs K h1 h2 h3
    rw [show K + (n + 1) + 1 = (K + n + 1) + 1 by omega, impl_pairsLeft.l1, if_pos (by omega)]
    unfold impl_fitsAll.f
    rw [Option.bind_some, pairsRow, Hw.wrap_id (i := s + 1) (by omega) (by omega)]
    by_cases hb : L.all (kfits wk s) = true
    · rw [if_pos hb, if_pos hb, if_pos (by omega), ih (s + 1) _ K (by omega) (by omega) (by simp; omega)]
      simp
    · rw [if_neg hb, if_neg hb, ih (s + 1) _ K (by omega) (by omega) (by omega)]
theorem impl_l0 (fl : Int) (L : List S43) (hf : fl ≤ 6) (n : Nat) : ∀ (wk : Int) (xs : List (List Int)) (K : Nat), 0 ≤ wk → wk + n = fl + 1 → xs.length + 8 * n ≤ 1000 → 9 * n < K →
    impl_pairsLeft.l0 K fl L xs (fl + 1) wk = some (xs ++ pairsAll fl L n wk) := by
  induction n with
  | zero =>
    intro wk xs K h1 h2 h3 hK
    obtain ⟨K, rfl⟩ : ∃ m, K = m + 1 := ⟨K - 1, by omega⟩
    rw [impl_pairsLeft.l0, if_neg (by omega), pairsAll, List.append_nil]
  | succ n ih =>
    intro wk xs K h1 h2 h3 hK
    obtain ⟨m, hm⟩ : ∃ m : Nat, m = (fl + 1 - wk).toNat := ⟨_, rfl⟩
    obtain ⟨K2, rfl⟩ : ∃ K2, K = K2 + m + 1 + 1 := ⟨K - m - 2, by omega⟩
    rw [impl_pairsLeft.l0, if_pos (by omega), impl_l1 fl L wk h1 hf m wk xs K2 h1 (by omega) (by omega), Hw.wrap_id (by omega) (by omega), pairsAll, ← hm]
    have hl := pairsRow_len L wk m wk
    rw [ih (wk + 1) _ K2 (by omega) (by omega) (by simp; omega) (by omega), List.append_assoc]
theorem impl_pairs (fl : Int) (L : List S43) (h0 : 0 ≤ fl) (hf : fl ≤ 6) (K : Nat) (hK : 100 ≤ K) : impl_pairsLeft.f K fl L = some (pairsF fl L) := by
  unfold impl_pairsLeft.f pairsF
  rw [Hw.wrap_id (by omega) (by omega), impl_l0 fl L hf (fl + 1).toNat 0 [] K (by omega) (by omega) (by simp; omega) (by omega), List.nil_append]
theorem spec_l1 (fl : Int) (L : List S43) (hL : L.length ≤ 1000000) (wk : Int) (h0 : 0 ≤ wk) (hf : fl ≤ 6) (n : Nat) : ∀ (s : Int) (xs : List (List Int)) (K : Nat), 0 ≤ s → s + n = fl + 1 → xs.length + n ≤ 1000 → L.length < K →
    spec_kiLeft.l1 (K + n + 1) fl L xs wk s = spec_kiLeft.l0 K fl L (xs ++ pairsRow L wk n s) (wrap64 (wk + 1)) := by
  induction n with
  | zero =>
    intro s xs K h1 h2 h3 hK
    rw [spec_kiLeft.l1, if_neg (by omega), pairsRow, List.append_nil]
  | succ n ih =>
    intro s xs K h1 h2 h3 hK
    rw [show K + (n + 1) + 1 = (K + n + 1) + 1 by omega, spec_kiLeft.l1, if_pos (by omega), kiFits_some L wk s hL (K + n + 1) (by omega), Option.bind_some, pairsRow, Hw.wrap_id (i := s + 1) (by omega) (by omega)]
    by_cases hb : L.all (kfits wk s) = true
    · rw [if_pos hb, if_pos hb, if_pos (by omega), ih (s + 1) _ K (by omega) (by omega) (by simp; omega) hK]
      simp
    · rw [if_neg hb, if_neg hb, ih (s + 1) _ K (by omega) (by omega) (by omega) hK]
theorem spec_l0 (fl : Int) (L : List S43) (hL : L.length ≤ 1000000) (hf : fl ≤ 6) (n : Nat) : ∀ (wk : Int) (xs : List (List Int)) (K : Nat), 0 ≤ wk → wk + n = fl + 1 → xs.length + 8 * n ≤ 1000 → 9 * n + L.length < K →
    spec_kiLeft.l0 K fl L xs wk = some (xs ++ pairsAll fl L n wk) := by
  induction n with
  | zero =>
    intro wk xs K h1 h2 h3 hK
    obtain ⟨K, rfl⟩ : ∃ m, K = m + 1 := ⟨K - 1, by omega⟩
    rw [spec_kiLeft.l0, if_neg (by omega), pairsAll, List.append_nil]
  | succ n ih =>
    intro wk xs K h1 h2 h3 hK
    obtain ⟨m, hm⟩ : ∃ m : Nat, m = (fl + 1 - wk).toNat := ⟨_, rfl⟩
    obtain ⟨K2, rfl⟩ : ∃ K2, K = K2 + m + 1 + 1 := ⟨K - m - 2, by omega⟩
    rw [spec_kiLeft.l0, if_pos (by omega), spec_l1 fl L hL wk h1 hf m wk xs K2 h1 (by omega) (by omega) (by omega), Hw.wrap_id (by omega) (by omega), pairsAll, ← hm]
    have hl := pairsRow_len L wk m wk
    rw [ih (wk + 1) _ K2 (by omega) (by omega) (by simp; omega) (by omega), List.append_assoc]
theorem spec_pairs (fl : Int) (L : List S43) (hL : L.length ≤ 1000000) (h0 : 0 ≤ fl) (hf : fl ≤ 6) (K : Nat) (hK : 100 + L.length ≤ K) : spec_kiLeft.f K fl L = some (pairsF fl L) := by
  unfold spec_kiLeft.f pairsF
  rw [spec_l0 fl L hL hf (fl + 1).toNat 0 [] K (by omega) (by omega) (by simp; omega) (by omega), List.nil_append]
theorem pairsAll_len (fl : Int) (L : List S43) (n : Nat) (wk : Int) (h0 : 0 ≤ wk) (hf : fl ≤ 6) : (pairsAll fl L n wk).length ≤ 8 * n := by
  induction n generalizing wk with
  | zero => simp [pairsAll]
  | succ n ih =>
    unfold pairsAll
    have h1 := pairsRow_len L wk (fl + 1 - wk).toNat wk
    have h2 := ih (wk + 1) (by omega)
    rw [List.length_append]
    omega
def hardScan (cnt : List Int → Int) : List (List Int) → List (List Int) → Int → List (List Int)
  | [], out, _ => out
  | p :: ps, out, m => if cnt p > m then hardScan cnt ps [p] (cnt p) else if cnt p = m then hardScan cnt ps (out ++ [p]) m else hardScan cnt ps out m
theorem hardScan_start (cnt : List Int → Int) (h : ∀ p, 0 ≤ cnt p) (l : List (List Int)) (m : Int) (h1 : -1 ≤ m) (h2 : m ≤ 0) : hardScan cnt l [] 0 = hardScan cnt l [] m := by
  rcases (by omega : m = 0 ∨ m = -1) with rfl | rfl
  · rfl
  · cases l with
    | nil => rfl
    | cons p ps =>
      have hp := h p
      rw [hardScan, hardScan]
      by_cases h3 : cnt p > 0
      · rw [if_pos h3, if_pos (by omega)]
      · have h4 : cnt p = 0 := by omega
        rw [if_neg h3, if_pos h4, if_pos (by omega), h4]
        rfl
def hardK (a0 a1 a2 : Int) : List (List Int) × Bool := if kAsk a0 a1 a2 then (hardScan (fun p => ((playK a0 a1 a2 (p.getD 0 0) (p.getD 1 0)).length : Int)) (pairsF a2 []) [] 0, true) else ([], false)
def impl_HardestPairs.f (a0 a1 a2 : Int) : Option (List (List Int) × Bool) := some (hardK a0 a1 a2)
def spec_HardestPairs.f (a0 a1 a2 : Int) : Option (List (List Int) × Bool) := some (hardK a0 a1 a2)
theorem kAsk_fl {we se fl : Int} (h : kAsk we se fl = true) : 0 ≤ fl ∧ fl ≤ 6 := by
  unfold kAsk at h
  have := of_decide_eq_true h
  omega
theorem impl_pairs0 (fl : Int) (h0 : 0 ≤ fl) (h1 : fl ≤ 6) : impl_pairsLeft.f 200 fl [] = some (pairsF fl []) := impl_pairs fl [] h0 h1 200 (by omega)
theorem spec_pairs0 (fl : Int) (h0 : 0 ≤ fl) (h1 : fl ≤ 6) : spec_kiLeft.f 200 fl [] = some (pairsF fl []) := spec_pairs fl [] (by simp) h0 h1 200 (by simp)
theorem pairsRow_two2 (L : List S43) (wk : Int) (n : Nat) (s : Int) : ∀ x ∈ pairsRow L wk n s, ∃ a b, x = [a, b] := by
  induction n generalizing s with
  | zero => intro x hx; cases hx
  | succ n ih =>
    unfold pairsRow
    split
    · intro x hx
      rcases List.mem_cons.1 hx with rfl | h
      · exact ⟨_, _, rfl⟩
      · exact ih _ x h
    · exact ih _
theorem pairsAll_two2 (fl : Int) (L : List S43) (n : Nat) (wk : Int) : ∀ x ∈ pairsAll fl L n wk, ∃ a b, x = [a, b] := by
  induction n generalizing wk with
  | zero => intro x hx; cases hx
  | succ n ih =>
    intro x hx
    unfold pairsAll at hx
    rcases List.mem_append.1 hx with h | h
    · exact pairsRow_two2 _ _ _ _ x h
    · exact ih _ x h
theorem pairs0_two (fl : Int) : ∀ x ∈ pairsF fl [], ∃ a b, x = [a, b] := pairsAll_two2 fl [] _ _
theorem pairs0_len (fl : Int) (h0 : 0 ≤ fl) (h1 : fl ≤ 6) : (pairsF fl []).length ≤ 56 := by
  have h := pairsAll_len fl [] (fl + 1).toNat 0 (Int.le_refl _) h1
  unfold pairsF
  omega
set_option maxHeartbeats 8000000 in
set_option maxRecDepth 100000 in
theorem impl_HardestPairs.calls (a0 : Int) (a1 : Int) (a2 : Int) (r1 : List (List Int)) (r2 : Bool) (w : World) (h : impl_HardestPairs.f a0 a1 a2 = some (r1, r2)) :
    Calls Try.prog 22 #[.int .i64 a0, .int .i64 a1, .int .i64 a2] w fun e w' => ∃ v0_ : Value, e = .returned (.tuple #[v0_, .bool r2]) ∧ Kd.S (Kd.slice 3 (Kd.int .i64)) 39 w' w.heap.size (fun _ => True) v0_ r1 ∧ Below w.heap.size w w' := by
  have HB := Aside0.mk (Below.refl w.heap.size w)
  obtain ⟨b1, hb1⟩ : ∃ b, b = kAsk a0 a1 a2 := ⟨_, rfl⟩
  have e1 := isKindHouse_is a0 a1 a2
  unfold impl_HardestPairs.f hardK at h
  rw [← hb1] at e1 h
  have HC := Aside0.mk e1
  have HC1 := Aside0.mk hb1
  clear e1 hb1
  cases b1 with
  | false =>
    simp only [Bool.false_eq_true, if_false, Option.some.injEq, Prod.mk.injEq] at h
    obtain ⟨rfl, rfl⟩ := h
    go_enter Try.func22, Try.ntmps22
    go_wp2_with (first | ((with_reducible refine gate_callee (f := 28) rfl ?_); refine goesL_ (some 17) rfl rfl Try.func28 (by kernel_rfl) rfl #[.int .i64 a0, .int .i64 a1, .int .i64 a2] rfl (by (try simp only [List.map_toArray, List.map_cons, List.map_nil]); first | done | rfl) ?_; refine (impl_isKindHouse.calls _ _ _ _ _ HC.out).mono ?_; rintro e_ w_1 ⟨rfl, hd_⟩; refine ⟨_, rfl, ?_⟩; have hb_ := hd_.below; clear hd_; have n0_ : Aside0 (Below w.heap.size w w_1) := ⟨Hx.bb_below hb_ (by first | exact HB.out | exact below_drew1 HB.out | exact pw_below_drewN HB.out _)⟩; (try clear HB); have HB := n0_; clear n0_; clear hb_))
    go_ret2
    exact ⟨_, rfl, Kd.S_nil _ _ _ _ _, HB.out⟩
  | true =>
    simp only [if_true, Option.some.injEq, Prod.mk.injEq] at h
    obtain ⟨h1, rfl⟩ := h
    have HS0 := Aside0.mk (kAsk_good HC1.out.symm)
    have HS1 := Aside0.mk (kAsk_low HC1.out.symm)
    have hfl := kAsk_fl HC1.out.symm
    have HPL0 := impl_pairs0 a2 hfl.1 hfl.2
    have HP2 := pairs0_two a2
    have hpn := pairs0_len a2 hfl.1 hfl.2
    obtain ⟨PL, hPL⟩ : ∃ PL, PL = pairsF a2 [] := ⟨_, rfl⟩
    rw [← hPL] at HPL0 h1 HP2 hpn
    have HPL := Aside0.mk HPL0
    have HPT := Aside0.mk HP2
    have HPN := Aside0.mk hpn
    obtain ⟨cnt, hcnt⟩ : ∃ cnt : List Int → Int, cnt = fun p => ((playK a0 a1 a2 (p.getD 0 0) (p.getD 1 0)).length : Int) := ⟨_, rfl⟩
    rw [← hcnt] at h1
    have HCN := Aside0.mk hcnt
    rw [hardScan_start cnt (fun p => by rw [hcnt]; exact Int.natCast_nonneg _) PL (-1) (by omega) (by omega)] at h1
    have H1 := Aside0.mk h1
    clear h1 hcnt hPL HPL0 HP2 hpn hfl
    go_enter Try.func22, Try.ntmps22
    go_wp2_with (first | ((with_reducible refine gate_callee (f := 28) rfl ?_); refine goesL_ (some 17) rfl rfl Try.func28 (by kernel_rfl) rfl #[.int .i64 a0, .int .i64 a1, .int .i64 a2] rfl (by (try simp only [List.map_toArray, List.map_cons, List.map_nil]); first | done | rfl) ?_; refine (impl_isKindHouse.calls _ _ _ _ _ HC.out).mono ?_; rintro e_ w_1 ⟨rfl, hd_⟩; refine ⟨_, rfl, ?_⟩; have hb_ := hd_.below; clear hd_; have n0_ : Aside0 (Below w.heap.size w w_1) := ⟨Hx.bb_below hb_ (by first | exact HB.out | exact below_drew1 HB.out | exact pw_below_drewN HB.out _)⟩; (try clear HB); have HB := n0_; clear n0_; clear hb_) | ((with_reducible refine gate_callee (f := 30) rfl ?_); refine goesL_ (some 19) rfl rfl Try.func30 (by kernel_rfl) rfl #[.bool false] rfl (by (try simp only [List.map_toArray, List.map_cons, List.map_nil]); first | done | rfl) ?_; refine (newSolver.calls _).mono ?_; rintro e_ w_2 ⟨rfl, hs_, hb_⟩; refine ⟨_, rfl, ?_⟩; have Z1 := Aside0.mk (show w.heap.size ≤ w_1.heap.size from HB.out.size); have n0_ : Aside0 (Below w.heap.size w w_2) := ⟨Hx.bb_below hb_ (by first | exact HB.out | exact below_drew1 HB.out | exact pw_below_drewN HB.out _)⟩; have m0_ : Aside0 (Slv w_2 (w_1.heap.size + 1) w_1.heap.size) := ⟨hs_⟩; (try clear HB); have HB := n0_; have HS := m0_; clear n0_ m0_; clear hs_ hb_) | ((with_reducible refine gate_callee (f := 46) rfl ?_); refine goesL_ (some 22) rfl rfl Try.func46 (by kernel_rfl) rfl #[.int .i64 a2, .slice none 0 0] rfl (by (try simp only [List.map_toArray, List.map_cons, List.map_nil]); first | done | rfl) ?_; refine (impl_pairsLeft.calls 200 a2 none 0 [] _ _ (Kd.C_nil _ _) (Nat.le_refl _) HPL.out).mono ?_; rintro e_ w_3 ⟨v_, rfl, hs_, hb_⟩; refine ⟨_, rfl, ?_⟩; obtain ⟨A_, cP, rfl⟩ := Kd.S_slice hs_; have Z2 := Aside0.mk (show w_1.heap.size + 1 < w_2.heap.size from blk_lt HS.out.1); have HWP := Aside0.mk hb_; have ZB := Aside0.mk (show (w_2.alloc (.cells #[] 39)).heap.size ≤ w_3.heap.size from hb_.size); have n0_ : Aside0 (Below w.heap.size w w_3) := ⟨Hx.bb_below hb_ (below_alloc HB.out _)⟩; have n1_ : Aside0 (Slv w_3 (w_1.heap.size + 1) w_1.heap.size) := ⟨Slv.below (Slv.below HS.out (below_alloc (Below.refl _ _) _)) hb_⟩; have m0_ : Aside0 (Kd.S (Kd.slice 3 (Kd.int .i64)) 39 w_3 (w_2.alloc (.cells #[] 39)).heap.size (fun _ => True) (.slice A_ PL.length cP) PL) := ⟨hs_⟩; (try clear HB); (try clear HS); have HB := n0_; have HS := n1_; have HP0 := m0_; clear n0_ n1_ m0_; clear hs_ hb_))
    obtain ⟨f_, hf_⟩ := HP0.out
    obtain ⟨NB, hNB⟩ : ∃ m, m = w_2.heap.size := ⟨_, rfl⟩
    obtain ⟨N1, hN1⟩ : ∃ m, m = w_3.heap.size := ⟨_, rfl⟩
    obtain ⟨N0, hN0⟩ : ∃ m, m = w_2.heap.size + 1 := ⟨_, rfl⟩
    have hzz : N0 ≤ w_3.heap.size := by
      have h_ := ZB.out
      rw [World.size_alloc] at h_
      omega
    have ORD : Aside0 (w.heap.size ≤ w_1.heap.size ∧ w_1.heap.size < (w_1.heap.size + 1) ∧ (w_1.heap.size + 1) < NB ∧ w_1.heap.size < NB ∧ NB < N0 ∧ N0 ≤ N1) := ⟨by have h1_ := Z1.out; have h2_ := Z2.out; omega⟩
    have HP : Aside0 ((Kd.tag f_ (Kd.slice 3 (Kd.int .i64))).R 39 w_3 N0 (fun k_ => N0 ≤ k_ ∧ k_ < N1) (.slice A_ PL.length cP) PL.zipIdx) := ⟨by
      have h_ := Kd.R_mono (Kd.R_bound hf_) (ok' := fun k_ => N0 ≤ k_ ∧ k_ < N1) (fun k_ hk_ => ⟨by have h1_ := hk_.2.1; (try rw [World.size_alloc] at h1_); omega, by have h1_ := hk_.2.2.1; omega⟩)
      exact Kd.R_lower h_ (by (try rw [World.size_alloc]); omega)⟩
    have HS2 : Aside0 (Slv w_3 (w_1.heap.size + 1) w_1.heap.size) := ⟨HS.out⟩
    clear HS HP0 hf_
    have SZ : Aside0 (N1 ≤ w_3.heap.size) := ⟨by omega⟩
    have h_pos : A_ = none → PL.length = 0 := fun h_ => by
      have h2_ := (Kd.R_reads' HP.out).2.2.2.2
      by_cases h3_ : PL.length = 0
      · exact h3_
      · obtain ⟨ad_, e_, _⟩ := h2_ (by rw [List.length_zipIdx]; omega)
        rw [h_] at e_
        cases e_
    have HA := Aside0.mk h_pos
    have HWB : Aside0 (w_2.heap.size = NB ∧ w_2.heap.size + 1 = N0) := ⟨by omega⟩
    unfold sPtr
    clear Z1 Z2 ZB hzz hN1 h_pos
    go_loopg [9, 10, 24] PL.length (fun n v9 v10 vi w' => ∃ (i : Nat) (m : Int) (L : List (List Int × Nat)), vi = .int .i64 i ∧ v10 = .int .i64 m ∧ Aside0 (i + n = PL.length ∧ -1 ≤ m) ∧ Aside0 (hardScan cnt (PL.drop i) (L.map (·.1)) m = r1) ∧ Aside0 (L.length ≤ i ∧ (L.map (·.2)).Pairwise (· < ·) ∧ ∀ x ∈ L.map (·.2), x < i) ∧ Aside0 ((Kd.tag f_ (Kd.slice 3 (Kd.int .i64))).R 39 w' w.heap.size (fun k_ => NB ≤ k_) v9 L) ∧ Aside0 (∀ k_, v9.ownBlock = some k_ → NB ≤ k_ ∧ (k_ < N0 ∨ N1 ≤ k_)) ∧ Aside0 ((Kd.tag f_ (Kd.slice 3 (Kd.int .i64))).R 39 w' N0 (fun k_ => N0 ≤ k_ ∧ k_ < N1) (.slice A_ PL.length cP) PL.zipIdx) ∧ Aside0 (Slv w' (w_1.heap.size + 1) w_1.heap.size) ∧ Aside0 (Below w.heap.size w w') ∧ Aside0 (N1 ≤ w'.heap.size))
    case atStart =>
      refine ⟨0, -1, [], rfl, rfl, ⟨by simp⟩, H1, ⟨by simp⟩, ⟨?_⟩, ⟨?_⟩, HP, HS2, HB, SZ⟩
      · have h_ := Hw.R_empty (Kd.tag f_ (Kd.slice 3 (Kd.int .i64))) 39 w_2 w.heap.size (fun k_ => NB ≤ k_) (by have := ORD.out; have := HWB.out; omega) (by have := HWB.out; omega)
        exact Kd.R_below h_ HWP.out
      · intro k_ h_
        have h2_ : w_2.heap.size = k_ := by simpa [Value.ownBlock] using h_
        have := HWB.out
        omega
    case round =>
      clear HP HS2 HB SZ H1
      obtain ⟨i, m, L, rfl, rfl, HI, HL, HLL, HO, OWN, HP, HS, HB, SZ⟩ := hrel
      by_cases hlt : i < PL.length
      · have p0 : (0 : Int) ≤ (i : Int) := by omega
        have q0 : (i : Int) < (PL.length : Int) := by omega
        obtain ⟨adP, rfl⟩ : ∃ ad, A_ = some ad := by
          cases A_ with
          | none => exact absurd (HA.out rfl) (by omega)
          | some ad => exact ⟨ad, rfl⟩
        obtain ⟨x0, x1, hx⟩ := HPT.out PL[i] (List.getElem_mem hlt)
        obtain ⟨c_, hc1, hM, hcc⟩ := Kd.R_getA HP.out (([], 0) : List Int × Nat) (i : Int) p0 q0
        have hz : PL.zipIdx.getD (i : Int).toNat ([], 0) = ([x0, x1], i) := by
          rw [Int.toNat_natCast, List.getD_eq_getElem?_getD, List.getElem?_zipIdx, List.getElem?_eq_getElem hlt, hx]
          simp
        rw [hz] at hM
        obtain ⟨vp, rfl, hRv⟩ := hM
        obtain ⟨gp, cp, rfl, hgb, hgl, csp, hcs⟩ := Kd.R_form hRv (by simp)
        have hq0 := Kd.R_celln 0 hRv 0 (by omega) (by simp)
        have hq1 := Kd.R_celln 0 hRv 1 (by omega) (by simp)
        have QB := Aside0.mk hcs
        have QC : Aside0 (csp[0]? = some (.int .i64 x0) ∧ csp[1]? = some (.int .i64 x1)) := ⟨⟨(blk_cell hcs 0).symm.trans hq0.1, (blk_cell hcs 1).symm.trans hq1.1⟩⟩
        have cx0 : wr.cell? ⟨gp, 0, none⟩ = some (.int .i64 x0) := (blk_cell QB.out 0).trans QC.out.1
        have cx1 : wr.cell? ⟨gp, 1, none⟩ = some (.int .i64 x1) := (blk_cell QB.out 1).trans QC.out.2
        have QR : Aside0 ((Kd.tag f_ (Kd.slice 3 (Kd.int .i64))).M wr N0 (fun k_ => N0 ≤ k_ ∧ k_ < N1) (([x0, x1], i) : List Int × Nat) [.slice (some ⟨gp, 0, none⟩) 2 cp]) := ⟨⟨_, rfl, Kd.R_mono hRv (fun k_ hk_ => ⟨hk_.1.1, hk_.2⟩)⟩⟩
        have GPN : Aside0 (N0 ≤ gp) := ⟨hgb⟩
        have cp0 : wr.cell? (adP.add i) = some (.slice (some ⟨gp, 0, none⟩) 2 cp) := by
          have h_ := hcc 0 _ rfl
          rw [show (Kd.tag f_ (Kd.slice 3 (Kd.int .i64))).sz = 1 from rfl, Int.toNat_natCast, Nat.mul_one, Nat.add_zero] at h_
          exact h_
        obtain ⟨r5, hr5⟩ : ∃ r, r = playK a0 a1 a2 x0 x1 := ⟨_, rfl⟩
        have HR5 : Aside0 (r5 = (kPlay x0 x1 (kStart a0 a1 a2).ms (kStart a0 a1 a2)).map toS) := ⟨hr5⟩
        have HN : Aside0 (cnt [x0, x1] = (r5.length : Int)) := ⟨by rw [HCN.out, hr5]; rfl⟩
        have HL2 : Aside0 (hardScan cnt ([x0, x1] :: PL.drop (i + 1)) (L.map (·.1)) m = r1) := ⟨by rw [← hx, ← List.drop_eq_getElem_cons hlt]; exact HL.out⟩
        obtain ⟨k1, rfl⟩ : ∃ k1, gk = k1 + 1 := ⟨gk - 1, by have := HI.out; omega⟩
        have dd0 : decide ((i : Int) < (PL.length : Int)) = true := decide_eq_true q0
        have dd0n : decide (i < PL.length) = true := decide_eq_true hlt
        have dd1 : decide (0 ≤ (i : Int)) = true := decide_eq_true p0
        have w2 : IntKind.i64.wrap ((i : Int) + 1) = ((i + 1 : Nat) : Int) := by rw [Hw.wrap_w (by omega) (by have := HPN.out; omega)]; omega
        have HLT := Aside0.mk hlt
        replace p0 := eq_true p0
        replace q0 := eq_true q0
        clear hlt hx hc1 hcc hz hRv hgb hgl hcs hq0 hq1 hr5 HL
        go_upto_region 7 with fail
        clear cp0
        go_region_held3 (fun w' => w'.cell? ⟨gp, 0, none⟩ = some (.int .i64 x0) ∧ w'.cell? ⟨gp, 1, none⟩ = some (.int .i64 x1)) (exact ⟨cx0, cx1⟩) (first | (go_at_call 32; refine (impl_nothing.calls a0 a1 a2 _ _ _ _ _ _ _ rfl).mono ?_; rintro e_ w_4 ⟨rfl, hb_⟩; clear cx0 cx1; replace hb_ := Hx.undrew hb_; have n0_ : Aside0 (Slv w_4 (w_1.heap.size + 1) w_1.heap.size) := ⟨Slv.below (w := _) (by exact HS.out) hb_⟩; have n1_ : Aside0 (Below w.heap.size w w_4) := ⟨Hx.bb_below hb_ (by first | exact HB.out | exact below_drew1 HB.out | exact pw_below_drewN HB.out _)⟩; have n2_ : Aside0 ((Kd.tag f_ (Kd.slice 3 (Kd.int .i64))).R 39 w_4 N0 (fun k_ => N0 ≤ k_ ∧ k_ < N1) (.slice (some adP) PL.length cP) PL.zipIdx) := ⟨Kd.R_below HP.out hb_⟩; have n3_ : Aside0 (N1 ≤ w_4.heap.size) := ⟨Nat.le_trans SZ.out hb_.size⟩; have n4_ : Aside0 ((Kd.tag f_ (Kd.slice 3 (Kd.int .i64))).R 39 w_4 w.heap.size (fun k_ => NB ≤ k_) u9 L) := ⟨Kd.R_below HO.out hb_⟩; have n5_ : Aside0 ((Kd.tag f_ (Kd.slice 3 (Kd.int .i64))).M w_4 N0 (fun k_ => N0 ≤ k_ ∧ k_ < N1) (([x0, x1], i) : List Int × Nat) [.slice (some ⟨gp, 0, none⟩) 2 cp]) := ⟨Kd.M_below QR.out hb_⟩; have n6_ : Aside0 (w_4.heap[gp]? = some (.cells csp 3 (0, 0))) := ⟨Hx.b_below hb_ QB.out⟩; (try clear HS); (try clear HB); (try clear HP); (try clear SZ); (try clear HO); (try clear QR); (try clear QB); have HS := n0_; have HB := n1_; have HP := n2_; have SZ := n3_; have HO := n4_; have QR := n5_; have QB := n6_; clear n0_ n1_ n2_ n3_ n4_ n5_ n6_; clear hb_; have cx0 : w_4.cell? ⟨gp, 0, none⟩ = some (.int .i64 x0) := (blk_cell QB.out 0).trans QC.out.1; have cx1 : w_4.cell? ⟨gp, 1, none⟩ = some (.int .i64 x1) := (blk_cell QB.out 1).trans QC.out.2) | (go_at_call 31; have hP_ := play_of (w_1.heap.size + 1) w_1.heap.size (kStart a0 a1 a2) x0 x1 HS0.out.1 HS1.out r5 HR5.out w_4 HS.out; simp only [kCells, kStart] at hP_; (with_reducible refine hP_.mono ?_); clear hP_; rintro e_ w_5 ⟨v_, rfl, hr_, hs_, hg_⟩; obtain ⟨A5, c5, rfl⟩ := Kd.R_slice hr_; clear cx0 cx1; have n0_ : Aside0 (Slv w_5 (w_1.heap.size + 1) w_1.heap.size) := ⟨hs_⟩; have n1_ : Aside0 (Below w.heap.size w w_5) := ⟨Hx.bb_grown (by first | exact HB.out | exact below_drew1 HB.out | exact pw_below_drewN HB.out _) hg_ (by have := ORD.out; omega)⟩; have n2_ : Aside0 ((Kd.tag f_ (Kd.slice 3 (Kd.int .i64))).R 39 w_5 N0 (fun k_ => N0 ≤ k_ ∧ k_ < N1) (.slice (some adP) PL.length cP) PL.zipIdx) := ⟨Kd.R_grown (row := some w_1.heap.size) HP.out hg_ (fun k_ hk_ h_ => by have := Option.some.inj h_; have := hk_.1; have := ORD.out; omega)⟩; have n3_ : Aside0 (N1 ≤ w_5.heap.size) := ⟨Nat.le_trans SZ.out hg_.size⟩; have n4_ : Aside0 ((Kd.tag f_ (Kd.slice 3 (Kd.int .i64))).R 39 w_5 w.heap.size (fun k_ => NB ≤ k_) u9 L) := ⟨Kd.R_grown (row := some w_1.heap.size) HO.out hg_ (fun k_ hk_ h_ => by have := Option.some.inj h_; have h2_ : NB ≤ k_ := hk_; have := ORD.out; omega)⟩; have n5_ : Aside0 ((Kd.tag f_ (Kd.slice 3 (Kd.int .i64))).M w_5 N0 (fun k_ => N0 ≤ k_ ∧ k_ < N1) (([x0, x1], i) : List Int × Nat) [.slice (some ⟨gp, 0, none⟩) 2 cp]) := ⟨Kd.M_grown (row := some w_1.heap.size) QR.out hg_ (fun k_ hk_ h_ => by have := Option.some.inj h_; have := hk_.1; have := ORD.out; omega)⟩; have n6_ : Aside0 (w_5.heap[gp]? = some (.cells csp 3 (0, 0))) := ⟨Hx.b_grown hg_ QB.out (by simp only [ne_eq, Option.some.injEq]; have := ORD.out; have := GPN.out; omega)⟩; (try clear HS); (try clear HB); (try clear HP); (try clear SZ); (try clear HO); (try clear QR); (try clear QB); have HS := n0_; have HB := n1_; have HP := n2_; have SZ := n3_; have HO := n4_; have QR := n5_; have QB := n6_; clear n0_ n1_ n2_ n3_ n4_ n5_ n6_; clear hs_ hg_ hr_; have cx0 : w_5.cell? ⟨gp, 0, none⟩ = some (.int .i64 x0) := (blk_cell QB.out 0).trans QC.out.1; have cx1 : w_5.cell? ⟨gp, 1, none⟩ = some (.int .i64 x1) := (blk_cell QB.out 1).trans QC.out.2))
        clear cx0 cx1
        rcases (by omega : (r5.length : Int) > m ∨ (r5.length : Int) = m ∨ (r5.length : Int) < m) with hgt | heq | hlt
        · have d1 : decide ((r5.length : Int) > m) = true := decide_eq_true hgt
          have d1' : decide (m < (r5.length : Int)) = true := decide_eq_true hgt
          obtain ⟨L2, hL2⟩ : ∃ L2 : List (List Int × Nat), L2 = [] ++ [(([x0, x1], i) : List Int × Nat)] := ⟨_, rfl⟩
          have NL2 := Aside0.mk hL2
          have HL3 : Aside0 (hardScan cnt (PL.drop (i + 1)) (L2.map (·.1)) (r5.length : Int) = r1) := ⟨by
            have h_ := HL2.out
            rw [hardScan, HN.out, if_pos hgt] at h_
            rw [hL2]
            exact h_⟩
          have HLL2 : Aside0 (L2.length ≤ i + 1 ∧ (L2.map (·.2)).Pairwise (· < ·) ∧ ∀ x ∈ L2.map (·.2), x < i + 1) := ⟨by rw [hL2]; simp⟩
          have OWN0 := OWN
          clear OWN
          have OWN : Aside0 (∀ k_, (Value.slice none 0 0).ownBlock = some k_ → NB ≤ k_ ∧ (k_ < N0 ∨ N1 ≤ k_)) := ⟨by simp [Value.ownBlock]⟩
          clear hgt hL2 HL2 HO OWN0
          have cx0 := d1
          have cx1 := d1
          go_wp2_with (first | (first | ((with_reducible refine gate_builtin (b := .append) (xs := #[.tmp 48, .tmp 50]) rfl ?_); at_builtin; refine Kd.R_append (Kd.tag f_ (Kd.slice 3 (Kd.int .i64))) (w0 := w_5) (w.heap.size) rfl (.tmp 48) (.tmp 50) 36 39 (.slice none 0 0) 24 rfl Try.underlying36 info39 rfl (show 0 < 1 from Nat.zero_lt_one) (by omega) (.slice none 0 0) [] (([x0, x1], i) : List Int × Nat) [.slice (some ⟨gp, 0, none⟩) 2 cp] (fun k_ => NB ≤ k_) (fun k_ => N0 ≤ k_ ∧ k_ < N1) rfl rfl ?aP (fun k_ hk_ => ⟨by have h1_ := hk_.1; have := ORD.out; show NB ≤ k_; omega, fun h_ => by have h2_ := OWN.out k_ h_.symm; have h3_ := hk_.2; have h4_ := hk_.1; omega⟩) ?aF ?aO ?aB ?aS ?aL ?_; (case aP => exact Kd.M_lower _ (show w.heap.size ≤ N0 by have := ORD.out; omega) QR.out); (case aB => exact Below.refl _ _); (case aF => exact (fun k_ hk_ => by have := SZ.out; have := ORD.out; show NB ≤ k_; omega)); (case aO => exact Kd.R_nil _ _ _ _ _); (case aS => exact HB.out.size); (case aL => have := HI.out; have := HLL.out.1; have := HPN.out; (try simp only [List.length_nil]); omega); intro v_ w_6 ho_ hb_ hg_ hat_; rw [← NL2.out] at ho_; clear cx0 cx1; (try clear HO); have n0_ : Aside0 (Slv w_6 (w_1.heap.size + 1) w_1.heap.size) := ⟨Slv.grown2 HS.out hg_ (fun h_ => by have h2_ := OWN.out (w_1.heap.size + 1) h_.symm; have := ORD.out; omega) (fun h_ => by have h2_ := OWN.out w_1.heap.size h_.symm; have := ORD.out; omega)⟩; have n1_ : Aside0 (Below w.heap.size w w_6) := ⟨Hx.bb_append (by first | exact HB.out | exact below_drew1 HB.out) hg_ (fun k_ h_ => by have h2_ := OWN.out k_ h_; have := ORD.out; omega)⟩; have n2_ : Aside0 ((Kd.tag f_ (Kd.slice 3 (Kd.int .i64))).R 39 w_6 N0 (fun k_ => N0 ≤ k_ ∧ k_ < N1) (.slice (some adP) PL.length cP) PL.zipIdx) := ⟨Kd.R_grown HP.out hg_ (fun k_ hk_ h_ => by have h2_ := OWN.out k_ h_.symm; have h3_ := hk_.2; have h4_ := hk_.1; omega)⟩; have n3_ : Aside0 (N1 ≤ w_6.heap.size) := ⟨Nat.le_trans SZ.out hg_.size⟩; have m0_ : Aside0 ((Kd.tag f_ (Kd.slice 3 (Kd.int .i64))).R 39 w_6 w.heap.size (fun k_ => NB ≤ k_) v_ L2) := ⟨ho_⟩; have m1_ : Aside0 (∀ k_, v_.ownBlock = some k_ → NB ≤ k_ ∧ (k_ < N0 ∨ N1 ≤ k_)) := ⟨fun k_ h_ => hat_.elim (fun h2_ => OWN.out k_ (by rw [← h2_]; exact h_)) (fun h2_ => by obtain ⟨b_, h3_, h4_⟩ := h2_; rw [h3_] at h_; have := Option.some.inj h_; have := SZ.out; have := ORD.out; omega)⟩; (try clear HS); (try clear HB); (try clear HP); (try clear SZ); have HS := n0_; have HB := n1_; have HP := n2_; have SZ := n3_; have HO := m0_; have OWN2 := m1_; clear n0_ n1_ n2_ n3_ m0_ m1_; clear ho_ hb_ hg_ hat_ QB QR)))
          go_roundg k1
          case measure => omega
          case rel => exact ⟨i + 1, _, L2, rfl, rfl, ⟨by have := HI.out; omega⟩, HL3, HLL2, HO, OWN2, HP, HS, HB, SZ⟩
        · have d1 : decide ((r5.length : Int) > m) = false := decide_eq_false (by omega)
          have d1' : decide (m < (r5.length : Int)) = false := decide_eq_false (by omega)
          have d2 : ((r5.length : Int) == m) = true := by simpa using heq
          obtain ⟨L2, hL2⟩ : ∃ L2 : List (List Int × Nat), L2 = L ++ [(([x0, x1], i) : List Int × Nat)] := ⟨_, rfl⟩
          have NL2 := Aside0.mk hL2
          have HL3 : Aside0 (hardScan cnt (PL.drop (i + 1)) (L2.map (·.1)) m = r1) := ⟨by
            have h_ := HL2.out
            rw [hardScan, HN.out, if_neg (by omega), if_pos heq] at h_
            rw [hL2, List.map_append]
            exact h_⟩
          have HLL2 : Aside0 (L2.length ≤ i + 1 ∧ (L2.map (·.2)).Pairwise (· < ·) ∧ ∀ x ∈ L2.map (·.2), x < i + 1) := ⟨by
            obtain ⟨q1, q2, q3⟩ := HLL.out
            rw [hL2, List.map_append]
            refine ⟨by simp; omega, List.pairwise_append.2 ⟨q2, by simp, fun a ha b hb => ?_⟩, fun x hx => ?_⟩
            · have h_ : b = i := by simpa using hb
              rw [h_]
              exact q3 a ha
            · rcases List.mem_append.1 hx with h_ | h_
              · have := q3 x h_; omega
              · have h2_ : x = i := by simpa using h_
                omega⟩
          clear heq hL2 HL2
          have cx0 := d1
          have cx1 := d1
          go_wp2_with (first | (first | ((with_reducible refine gate_builtin (b := .append) (xs := #[.tmp 48, .tmp 50]) rfl ?_); at_builtin; refine Kd.R_append (Kd.tag f_ (Kd.slice 3 (Kd.int .i64))) (w0 := w_5) (w.heap.size) rfl (.tmp 48) (.tmp 50) 36 39 (.slice none 0 0) 24 rfl Try.underlying36 info39 rfl (show 0 < 1 from Nat.zero_lt_one) (by omega) u9 L (([x0, x1], i) : List Int × Nat) [.slice (some ⟨gp, 0, none⟩) 2 cp] (fun k_ => NB ≤ k_) (fun k_ => N0 ≤ k_ ∧ k_ < N1) rfl rfl ?aP (fun k_ hk_ => ⟨by have h1_ := hk_.1; have := ORD.out; show NB ≤ k_; omega, fun h_ => by have h2_ := OWN.out k_ h_.symm; have h3_ := hk_.2; have h4_ := hk_.1; omega⟩) ?aF ?aO ?aB ?aS ?aL ?_; (case aP => exact Kd.M_lower _ (show w.heap.size ≤ N0 by have := ORD.out; omega) QR.out); (case aB => exact Below.refl _ _); (case aF => exact (fun k_ hk_ => by have := SZ.out; have := ORD.out; show NB ≤ k_; omega)); (case aO => exact HO.out); (case aS => exact HB.out.size); (case aL => have := HI.out; have := HLL.out.1; have := HPN.out; (try simp only [List.length_nil]); omega); intro v_ w_6 ho_ hb_ hg_ hat_; rw [← NL2.out] at ho_; clear cx0 cx1; (try clear HO); have n0_ : Aside0 (Slv w_6 (w_1.heap.size + 1) w_1.heap.size) := ⟨Slv.grown2 HS.out hg_ (fun h_ => by have h2_ := OWN.out (w_1.heap.size + 1) h_.symm; have := ORD.out; omega) (fun h_ => by have h2_ := OWN.out w_1.heap.size h_.symm; have := ORD.out; omega)⟩; have n1_ : Aside0 (Below w.heap.size w w_6) := ⟨Hx.bb_append (by first | exact HB.out | exact below_drew1 HB.out) hg_ (fun k_ h_ => by have h2_ := OWN.out k_ h_; have := ORD.out; omega)⟩; have n2_ : Aside0 ((Kd.tag f_ (Kd.slice 3 (Kd.int .i64))).R 39 w_6 N0 (fun k_ => N0 ≤ k_ ∧ k_ < N1) (.slice (some adP) PL.length cP) PL.zipIdx) := ⟨Kd.R_grown HP.out hg_ (fun k_ hk_ h_ => by have h2_ := OWN.out k_ h_.symm; have h3_ := hk_.2; have h4_ := hk_.1; omega)⟩; have n3_ : Aside0 (N1 ≤ w_6.heap.size) := ⟨Nat.le_trans SZ.out hg_.size⟩; have m0_ : Aside0 ((Kd.tag f_ (Kd.slice 3 (Kd.int .i64))).R 39 w_6 w.heap.size (fun k_ => NB ≤ k_) v_ L2) := ⟨ho_⟩; have m1_ : Aside0 (∀ k_, v_.ownBlock = some k_ → NB ≤ k_ ∧ (k_ < N0 ∨ N1 ≤ k_)) := ⟨fun k_ h_ => hat_.elim (fun h2_ => OWN.out k_ (by rw [← h2_]; exact h_)) (fun h2_ => by obtain ⟨b_, h3_, h4_⟩ := h2_; rw [h3_] at h_; have := Option.some.inj h_; have := SZ.out; have := ORD.out; omega)⟩; (try clear HS); (try clear HB); (try clear HP); (try clear SZ); have HS := n0_; have HB := n1_; have HP := n2_; have SZ := n3_; have HO := m0_; have OWN2 := m1_; clear n0_ n1_ n2_ n3_ m0_ m1_; clear ho_ hb_ hg_ hat_ QB QR)))
          go_roundg k1
          case measure => omega
          case rel => exact ⟨i + 1, m, L2, rfl, rfl, ⟨by have := HI.out; omega⟩, HL3, HLL2, HO, OWN2, HP, HS, HB, SZ⟩
        · have d1 : decide ((r5.length : Int) > m) = false := decide_eq_false (by omega)
          have d1' : decide (m < (r5.length : Int)) = false := decide_eq_false (by omega)
          have d2 : ((r5.length : Int) == m) = false := by simp; omega
          have HL3 : Aside0 (hardScan cnt (PL.drop (i + 1)) (L.map (·.1)) m = r1) := ⟨by
            have h_ := HL2.out
            rw [hardScan, HN.out, if_neg (by omega), if_neg (by omega)] at h_
            exact h_⟩
          have HLL2 : Aside0 (L.length ≤ i + 1 ∧ (L.map (·.2)).Pairwise (· < ·) ∧ ∀ x ∈ L.map (·.2), x < i + 1) := ⟨by
            obtain ⟨q1, q2, q3⟩ := HLL.out
            exact ⟨by omega, q2, fun x hx => Nat.lt_succ_of_lt (q3 x hx)⟩⟩
          clear hlt HL2
          go_wp2
          go_roundg k1
          case measure => omega
          case rel => exact ⟨i + 1, m, L, rfl, rfl, ⟨by have := HI.out; omega⟩, HL3, HLL2, HO, OWN, HP, HS, HB, SZ⟩
      · have dd0 : decide ((i : Int) < (PL.length : Int)) = false := decide_eq_false (by omega)
        have dd0n : decide (i < PL.length) = false := decide_eq_false hlt
        have HE : Aside0 (L.map (·.1) = r1) := ⟨by
          have h_ := HL.out
          rw [List.drop_of_length_le (by omega)] at h_
          exact h_⟩
        clear hlt
        go_wp2
        go_ret2
        refine ⟨_, rfl, ?_, HB.out⟩
        rw [← HE.out]
        exact Kd.S_mono (Hx.S_of_tags HO.out (HLL.out.2.1.imp (fun h_ => Nat.ne_of_lt h_))) (fun _ _ => trivial)


-- FOR spec.HardestPairs
-- KIND rounds=0 making=1
-- CALLS impl.HardestPairs ; spec.kiPlay ; spec.PlayKinds ; spec.kiLeft
set_option maxHeartbeats 8000000 in
set_option maxRecDepth 100000 in
theorem spec_HardestPairs.calls (a0 : Int) (a1 : Int) (a2 : Int) (r1 : List (List Int)) (r2 : Bool) (w : World) (h : spec_HardestPairs.f a0 a1 a2 = some (r1, r2)) :
    Calls Try.prog 23 #[.int .i64 a0, .int .i64 a1, .int .i64 a2] w fun e w' => ∃ v0_ : Value, e = .returned (.tuple #[v0_, .bool r2]) ∧ Kd.S (Kd.slice 3 (Kd.int .i64)) 39 w' w.heap.size (fun _ => True) v0_ r1 ∧ Below w.heap.size w w' := by
  have HB := Aside0.mk (Below.refl w.heap.size w)
  obtain ⟨b1, hb1⟩ : ∃ b, b = kAsk a0 a1 a2 := ⟨_, rfl⟩
  have e1 := kiAsked_is a0 a1 a2
  unfold spec_HardestPairs.f hardK at h
  rw [← hb1] at e1 h
  have HC := Aside0.mk e1
  have HC1 := Aside0.mk hb1
  clear e1 hb1
  cases b1 with
  | false =>
    simp only [Bool.false_eq_true, if_false, Option.some.injEq, Prod.mk.injEq] at h
    obtain ⟨rfl, rfl⟩ := h
    go_enter Try.func23, Try.ntmps23
    go_wp2_with (first | ((with_reducible refine gate_callee (f := 33) rfl ?_); refine goesL_ (some 17) rfl rfl Try.func33 (by kernel_rfl) rfl #[.int .i64 a0, .int .i64 a1, .int .i64 a2] rfl (by (try simp only [List.map_toArray, List.map_cons, List.map_nil]); first | done | rfl) ?_; refine (spec_kiAsked.calls _ _ _ _ _ HC.out).mono ?_; rintro e_ w_1 ⟨rfl, hd_⟩; refine ⟨_, rfl, ?_⟩; have hb_ := hd_.below; clear hd_; have n0_ : Aside0 (Below w.heap.size w w_1) := ⟨Hx.bb_below hb_ (by first | exact HB.out | exact below_drew1 HB.out | exact pw_below_drewN HB.out _)⟩; (try clear HB); have HB := n0_; clear n0_; clear hb_))
    go_ret2
    exact ⟨_, rfl, Kd.S_nil _ _ _ _ _, HB.out⟩
  | true =>
    simp only [if_true, Option.some.injEq, Prod.mk.injEq] at h
    obtain ⟨h1, rfl⟩ := h
    have HS0 := Aside0.mk (kAsk_good HC1.out.symm)
    have HS1 := Aside0.mk (kAsk_low HC1.out.symm)
    have hfl := kAsk_fl HC1.out.symm
    have HPL0 := spec_pairs0 a2 hfl.1 hfl.2
    have HP2 := pairs0_two a2
    have hpn := pairs0_len a2 hfl.1 hfl.2
    obtain ⟨PL, hPL⟩ : ∃ PL, PL = pairsF a2 [] := ⟨_, rfl⟩
    rw [← hPL] at HPL0 h1 HP2 hpn
    have HPL := Aside0.mk HPL0
    have HPT := Aside0.mk HP2
    have HPN := Aside0.mk hpn
    obtain ⟨cnt, hcnt⟩ : ∃ cnt : List Int → Int, cnt = fun p => ((playK a0 a1 a2 (p.getD 0 0) (p.getD 1 0)).length : Int) := ⟨_, rfl⟩
    rw [← hcnt] at h1
    have HCN := Aside0.mk hcnt
    rw [hardScan_start cnt (fun p => by rw [hcnt]; exact Int.natCast_nonneg _) PL (0) (by omega) (by omega)] at h1
    have H1 := Aside0.mk h1
    clear h1 hcnt hPL HPL0 HP2 hpn hfl
    go_enter Try.func23, Try.ntmps23
    go_wp2_with (first | ((with_reducible refine gate_callee (f := 33) rfl ?_); refine goesL_ (some 17) rfl rfl Try.func33 (by kernel_rfl) rfl #[.int .i64 a0, .int .i64 a1, .int .i64 a2] rfl (by (try simp only [List.map_toArray, List.map_cons, List.map_nil]); first | done | rfl) ?_; refine (spec_kiAsked.calls _ _ _ _ _ HC.out).mono ?_; rintro e_ w_1 ⟨rfl, hd_⟩; refine ⟨_, rfl, ?_⟩; have hb_ := hd_.below; clear hd_; have n0_ : Aside0 (Below w.heap.size w w_1) := ⟨Hx.bb_below hb_ (by first | exact HB.out | exact below_drew1 HB.out | exact pw_below_drewN HB.out _)⟩; (try clear HB); have HB := n0_; clear n0_; clear hb_) | ((with_reducible refine gate_callee (f := 36) rfl ?_); refine goesL_ (some 19) rfl rfl Try.func36 (by kernel_rfl) rfl #[] rfl (by (try simp only [List.map_toArray, List.map_cons, List.map_nil]); first | done | rfl) ?_; refine (spec_kiTable.calls 38417 _ _ kiTable_is).mono ?_; rintro e_ w_2 ⟨v_, rfl, hr_, hb_⟩; refine ⟨_, rfl, ?_⟩; obtain ⟨mb, c0, rfl, ht_, hz_⟩ := tab_of hr_; have Z1 := Aside0.mk (show w.heap.size ≤ mb from Nat.le_trans HB.out.size hz_); have n0_ : Aside0 (Below w.heap.size w w_2) := ⟨Hx.bb_below hb_ (by first | exact HB.out | exact below_drew1 HB.out | exact pw_below_drewN HB.out _)⟩; have m0_ : Aside0 (Tab w_2 mb c0) := ⟨ht_⟩; (try clear HB); have HB := n0_; have HS := m0_; clear n0_ m0_; clear ht_ hb_ hr_ hz_) | ((with_reducible refine gate_callee (f := 49) rfl ?_); refine goesL_ (some 21) rfl rfl Try.func49 (by kernel_rfl) rfl #[.int .i64 a2, .slice none 0 0] rfl (by (try simp only [List.map_toArray, List.map_cons, List.map_nil]); first | done | rfl) ?_; refine (spec_kiLeft.calls 200 a2 none 0 [] _ _ (Kd.C_nil _ _) (Nat.le_refl _) HPL.out).mono ?_; rintro e_ w_3 ⟨v_, rfl, hs_, hb_⟩; refine ⟨_, rfl, ?_⟩; obtain ⟨A_, cP, rfl⟩ := Kd.S_slice hs_; have Z2 := Aside0.mk (show mb < w_2.heap.size from HS.out.lt); have ZB := Aside0.mk (show w_2.heap.size ≤ w_3.heap.size from hb_.size); have n0_ : Aside0 (Below w.heap.size w w_3) := ⟨Hx.bb_below hb_ HB.out⟩; have n1_ : Aside0 (Tab w_3 mb c0) := ⟨Tab.below HS.out hb_⟩; have m0_ : Aside0 (Kd.S (Kd.slice 3 (Kd.int .i64)) 39 w_3 w_2.heap.size (fun _ => True) (.slice A_ PL.length cP) PL) := ⟨hs_⟩; (try clear HB); (try clear HS); have HB := n0_; have HS := n1_; have HP0 := m0_; clear n0_ n1_ m0_; clear hs_ hb_))
    obtain ⟨f_, hf_⟩ := HP0.out
    obtain ⟨NB, hNB⟩ : ∃ m, m = w_2.heap.size := ⟨_, rfl⟩
    obtain ⟨N1, hN1⟩ : ∃ m, m = w_3.heap.size := ⟨_, rfl⟩
    obtain ⟨N0, hN0⟩ : ∃ m, m = w_2.heap.size := ⟨_, rfl⟩
    have hzz : N0 ≤ w_3.heap.size := by
      have h_ := ZB.out
      omega
    have ORD : Aside0 (w.heap.size ≤ mb ∧ mb < NB ∧ NB ≤ N0 ∧ N0 ≤ N1) := ⟨by have h1_ := Z1.out; have h2_ := Z2.out; omega⟩
    have HP : Aside0 ((Kd.tag f_ (Kd.slice 3 (Kd.int .i64))).R 39 w_3 N0 (fun k_ => N0 ≤ k_ ∧ k_ < N1) (.slice A_ PL.length cP) PL.zipIdx) := ⟨by
      have h_ := Kd.R_mono (Kd.R_bound hf_) (ok' := fun k_ => N0 ≤ k_ ∧ k_ < N1) (fun k_ hk_ => ⟨by have h1_ := hk_.2.1; (try rw [World.size_alloc] at h1_); omega, by have h1_ := hk_.2.2.1; omega⟩)
      exact Kd.R_lower h_ (by (try rw [World.size_alloc]); omega)⟩
    have HS2 := HS
    clear HS HP0 hf_
    have SZ : Aside0 (N1 ≤ w_3.heap.size) := ⟨by omega⟩
    have h_pos : A_ = none → PL.length = 0 := fun h_ => by
      have h2_ := (Kd.R_reads' HP.out).2.2.2.2
      by_cases h3_ : PL.length = 0
      · exact h3_
      · obtain ⟨ad_, e_, _⟩ := h2_ (by rw [List.length_zipIdx]; omega)
        rw [h_] at e_
        cases e_
    have HA := Aside0.mk h_pos
    clear Z1 Z2 ZB hzz hN1 h_pos
    go_loopg [9, 10, 23] PL.length (fun n v9 v10 vi w' => ∃ (i : Nat) (m : Int) (L : List (List Int × Nat)), vi = .int .i64 i ∧ v9 = .int .i64 m ∧ Aside0 (i + n = PL.length ∧ -1 ≤ m) ∧ Aside0 (hardScan cnt (PL.drop i) (L.map (·.1)) m = r1) ∧ Aside0 (L.length ≤ i ∧ (L.map (·.2)).Pairwise (· < ·) ∧ ∀ x ∈ L.map (·.2), x < i) ∧ Aside0 ((Kd.tag f_ (Kd.slice 3 (Kd.int .i64))).R 39 w' w.heap.size (fun k_ => NB ≤ k_) v10 L) ∧ Aside0 (∀ k_, v10.ownBlock = some k_ → NB ≤ k_ ∧ (k_ < N0 ∨ N1 ≤ k_)) ∧ Aside0 ((Kd.tag f_ (Kd.slice 3 (Kd.int .i64))).R 39 w' N0 (fun k_ => N0 ≤ k_ ∧ k_ < N1) (.slice A_ PL.length cP) PL.zipIdx) ∧ Aside0 (Tab w' mb c0) ∧ Aside0 (Below w.heap.size w w') ∧ Aside0 (N1 ≤ w'.heap.size))
    case atStart =>
      refine ⟨0, 0, [], rfl, rfl, ⟨by simp⟩, H1, ⟨by simp⟩, ⟨Kd.R_nil _ _ _ _ _⟩, ⟨by simp [Value.ownBlock]⟩, HP, HS2, HB, SZ⟩
    case round =>
      clear HP HS2 HB SZ H1
      obtain ⟨i, m, L, rfl, rfl, HI, HL, HLL, HO, OWN, HP, HS, HB, SZ⟩ := hrel
      by_cases hlt : i < PL.length
      · have p0 : (0 : Int) ≤ (i : Int) := by omega
        have q0 : (i : Int) < (PL.length : Int) := by omega
        obtain ⟨adP, rfl⟩ : ∃ ad, A_ = some ad := by
          cases A_ with
          | none => exact absurd (HA.out rfl) (by omega)
          | some ad => exact ⟨ad, rfl⟩
        obtain ⟨x0, x1, hx⟩ := HPT.out PL[i] (List.getElem_mem hlt)
        obtain ⟨c_, hc1, hM, hcc⟩ := Kd.R_getA HP.out (([], 0) : List Int × Nat) (i : Int) p0 q0
        have hz : PL.zipIdx.getD (i : Int).toNat ([], 0) = ([x0, x1], i) := by
          rw [Int.toNat_natCast, List.getD_eq_getElem?_getD, List.getElem?_zipIdx, List.getElem?_eq_getElem hlt, hx]
          simp
        rw [hz] at hM
        obtain ⟨vp, rfl, hRv⟩ := hM
        obtain ⟨gp, cp, rfl, hgb, hgl, csp, hcs⟩ := Kd.R_form hRv (by simp)
        have hq0 := Kd.R_celln 0 hRv 0 (by omega) (by simp)
        have hq1 := Kd.R_celln 0 hRv 1 (by omega) (by simp)
        have QB := Aside0.mk hcs
        have QC : Aside0 (csp[0]? = some (.int .i64 x0) ∧ csp[1]? = some (.int .i64 x1)) := ⟨⟨(blk_cell hcs 0).symm.trans hq0.1, (blk_cell hcs 1).symm.trans hq1.1⟩⟩
        have cx0 : wr.cell? ⟨gp, 0, none⟩ = some (.int .i64 x0) := (blk_cell QB.out 0).trans QC.out.1
        have cx1 : wr.cell? ⟨gp, 1, none⟩ = some (.int .i64 x1) := (blk_cell QB.out 1).trans QC.out.2
        have QR : Aside0 ((Kd.tag f_ (Kd.slice 3 (Kd.int .i64))).M wr N0 (fun k_ => N0 ≤ k_ ∧ k_ < N1) (([x0, x1], i) : List Int × Nat) [.slice (some ⟨gp, 0, none⟩) 2 cp]) := ⟨⟨_, rfl, Kd.R_mono hRv (fun k_ hk_ => ⟨hk_.1.1, hk_.2⟩)⟩⟩
        have GPN : Aside0 (N0 ≤ gp) := ⟨hgb⟩
        have cp0 : wr.cell? (adP.add i) = some (.slice (some ⟨gp, 0, none⟩) 2 cp) := by
          have h_ := hcc 0 _ rfl
          rw [show (Kd.tag f_ (Kd.slice 3 (Kd.int .i64))).sz = 1 from rfl, Int.toNat_natCast, Nat.mul_one, Nat.add_zero] at h_
          exact h_
        obtain ⟨r5, hr5⟩ : ∃ r, r = playK a0 a1 a2 x0 x1 := ⟨_, rfl⟩
        have HR5 : Aside0 (r5 = (kPlay x0 x1 (kStart a0 a1 a2).ms (kStart a0 a1 a2)).map toS) := ⟨hr5⟩
        have HN : Aside0 (cnt [x0, x1] = (r5.length : Int)) := ⟨by rw [HCN.out, hr5]; rfl⟩
        have HL2 : Aside0 (hardScan cnt ([x0, x1] :: PL.drop (i + 1)) (L.map (·.1)) m = r1) := ⟨by rw [← hx, ← List.drop_eq_getElem_cons hlt]; exact HL.out⟩
        obtain ⟨k1, rfl⟩ : ∃ k1, gk = k1 + 1 := ⟨gk - 1, by have := HI.out; omega⟩
        have dd0 : decide ((i : Int) < (PL.length : Int)) = true := decide_eq_true q0
        have dd0n : decide (i < PL.length) = true := decide_eq_true hlt
        have dd1 : decide (0 ≤ (i : Int)) = true := decide_eq_true p0
        have w2 : IntKind.i64.wrap ((i : Int) + 1) = ((i + 1 : Nat) : Int) := by rw [Hw.wrap_w (by omega) (by have := HPN.out; omega)]; omega
        have HLT := Aside0.mk hlt
        replace p0 := eq_true p0
        replace q0 := eq_true q0
        clear hlt hx hc1 hcc hz hRv hgb hgl hcs hq0 hq1 hr5 HL
        go_upto_region 9 with fail
        clear cp0
        go_region_held3 (fun w' => w'.cell? ⟨gp, 0, none⟩ = some (.int .i64 x0) ∧ w'.cell? ⟨gp, 1, none⟩ = some (.int .i64 x1)) (exact ⟨cx0, cx1⟩) (first | (go_at_call 37; refine (spec_kiStart.calls a0 a1 a2 _ _ _ _ _ _ _ rfl).mono ?_; rintro e_ w_4 ⟨rfl, hb_⟩; clear cx0 cx1; replace hb_ := Hx.undrew hb_; have n0_ : Aside0 (Tab w_4 mb c0) := ⟨Tab.below (w := _) (by exact HS.out) hb_⟩; have n1_ : Aside0 (Below w.heap.size w w_4) := ⟨Hx.bb_below hb_ (by first | exact HB.out | exact below_drew1 HB.out | exact pw_below_drewN HB.out _)⟩; have n2_ : Aside0 ((Kd.tag f_ (Kd.slice 3 (Kd.int .i64))).R 39 w_4 N0 (fun k_ => N0 ≤ k_ ∧ k_ < N1) (.slice (some adP) PL.length cP) PL.zipIdx) := ⟨Kd.R_below HP.out hb_⟩; have n3_ : Aside0 (N1 ≤ w_4.heap.size) := ⟨Nat.le_trans SZ.out hb_.size⟩; have n4_ : Aside0 ((Kd.tag f_ (Kd.slice 3 (Kd.int .i64))).R 39 w_4 w.heap.size (fun k_ => NB ≤ k_) u10 L) := ⟨Kd.R_below HO.out hb_⟩; have n5_ : Aside0 ((Kd.tag f_ (Kd.slice 3 (Kd.int .i64))).M w_4 N0 (fun k_ => N0 ≤ k_ ∧ k_ < N1) (([x0, x1], i) : List Int × Nat) [.slice (some ⟨gp, 0, none⟩) 2 cp]) := ⟨Kd.M_below QR.out hb_⟩; have n6_ : Aside0 (w_4.heap[gp]? = some (.cells csp 3 (0, 0))) := ⟨Hx.b_below hb_ QB.out⟩; (try clear HS); (try clear HB); (try clear HP); (try clear SZ); (try clear HO); (try clear QR); (try clear QB); have HS := n0_; have HB := n1_; have HP := n2_; have SZ := n3_; have HO := n4_; have QR := n5_; have QB := n6_; clear n0_ n1_ n2_ n3_ n4_ n5_ n6_; clear hb_; have cx0 : w_4.cell? ⟨gp, 0, none⟩ = some (.int .i64 x0) := (blk_cell QB.out 0).trans QC.out.1; have cx1 : w_4.cell? ⟨gp, 1, none⟩ = some (.int .i64 x1) := (blk_cell QB.out 1).trans QC.out.2) | (go_at_call 35; have hP_ := splay_of mb c0 (kStart a0 a1 a2) x0 x1 HS0.out.1 HS1.out r5 HR5.out w_4 HS.out; simp only [kCells, kStart] at hP_; (with_reducible refine hP_.mono ?_); clear hP_; rintro e_ w_5 ⟨v_, rfl, hr_, hs_, hg_⟩; obtain ⟨A5, c5, rfl⟩ := Kd.R_slice hr_; clear cx0 cx1; have n0_ : Aside0 (Tab w_5 mb c0) := ⟨hs_⟩; have n1_ : Aside0 (Below w.heap.size w w_5) := ⟨Hx.bb_grown (by first | exact HB.out | exact below_drew1 HB.out | exact pw_below_drewN HB.out _) hg_ (by have := ORD.out; omega)⟩; have n2_ : Aside0 ((Kd.tag f_ (Kd.slice 3 (Kd.int .i64))).R 39 w_5 N0 (fun k_ => N0 ≤ k_ ∧ k_ < N1) (.slice (some adP) PL.length cP) PL.zipIdx) := ⟨Kd.R_grown (row := some mb) HP.out hg_ (fun k_ hk_ h_ => by have := Option.some.inj h_; have := hk_.1; have := ORD.out; omega)⟩; have n3_ : Aside0 (N1 ≤ w_5.heap.size) := ⟨Nat.le_trans SZ.out hg_.size⟩; have n4_ : Aside0 ((Kd.tag f_ (Kd.slice 3 (Kd.int .i64))).R 39 w_5 w.heap.size (fun k_ => NB ≤ k_) u10 L) := ⟨Kd.R_grown (row := some mb) HO.out hg_ (fun k_ hk_ h_ => by have := Option.some.inj h_; have h2_ : NB ≤ k_ := hk_; have := ORD.out; omega)⟩; have n5_ : Aside0 ((Kd.tag f_ (Kd.slice 3 (Kd.int .i64))).M w_5 N0 (fun k_ => N0 ≤ k_ ∧ k_ < N1) (([x0, x1], i) : List Int × Nat) [.slice (some ⟨gp, 0, none⟩) 2 cp]) := ⟨Kd.M_grown (row := some mb) QR.out hg_ (fun k_ hk_ h_ => by have := Option.some.inj h_; have := hk_.1; have := ORD.out; omega)⟩; have n6_ : Aside0 (w_5.heap[gp]? = some (.cells csp 3 (0, 0))) := ⟨Hx.b_grown hg_ QB.out (by simp only [ne_eq, Option.some.injEq]; have := ORD.out; have := GPN.out; omega)⟩; (try clear HS); (try clear HB); (try clear HP); (try clear SZ); (try clear HO); (try clear QR); (try clear QB); have HS := n0_; have HB := n1_; have HP := n2_; have SZ := n3_; have HO := n4_; have QR := n5_; have QB := n6_; clear n0_ n1_ n2_ n3_ n4_ n5_ n6_; clear hs_ hg_ hr_; have cx0 : w_5.cell? ⟨gp, 0, none⟩ = some (.int .i64 x0) := (blk_cell QB.out 0).trans QC.out.1; have cx1 : w_5.cell? ⟨gp, 1, none⟩ = some (.int .i64 x1) := (blk_cell QB.out 1).trans QC.out.2))
        clear cx0 cx1
        rcases (by omega : (r5.length : Int) > m ∨ (r5.length : Int) = m ∨ (r5.length : Int) < m) with hgt | heq | hlt
        · have d1 : decide ((r5.length : Int) > m) = true := decide_eq_true hgt
          have d1' : decide (m < (r5.length : Int)) = true := decide_eq_true hgt
          obtain ⟨L2, hL2⟩ : ∃ L2 : List (List Int × Nat), L2 = [] ++ [(([x0, x1], i) : List Int × Nat)] := ⟨_, rfl⟩
          have NL2 := Aside0.mk hL2
          have HL3 : Aside0 (hardScan cnt (PL.drop (i + 1)) (L2.map (·.1)) (r5.length : Int) = r1) := ⟨by
            have h_ := HL2.out
            rw [hardScan, HN.out, if_pos hgt] at h_
            rw [hL2]
            exact h_⟩
          have HLL2 : Aside0 (L2.length ≤ i + 1 ∧ (L2.map (·.2)).Pairwise (· < ·) ∧ ∀ x ∈ L2.map (·.2), x < i + 1) := ⟨by rw [hL2]; simp⟩
          have OWN0 := OWN
          clear OWN
          have OWN : Aside0 (∀ k_, (Value.slice none 0 0).ownBlock = some k_ → NB ≤ k_ ∧ (k_ < N0 ∨ N1 ≤ k_)) := ⟨by simp [Value.ownBlock]⟩
          clear hgt hL2 HL2 HO OWN0
          have cx0 := d1
          have cx1 := d1
          go_wp2_with (first | (first | ((with_reducible refine gate_builtin (b := .append) (xs := #[.tmp 47, .tmp 49]) rfl ?_); at_builtin; refine Kd.R_append (Kd.tag f_ (Kd.slice 3 (Kd.int .i64))) (w0 := w_5) (w.heap.size) rfl (.tmp 47) (.tmp 49) 36 39 (.slice none 0 0) 24 rfl Try.underlying36 info39 rfl (show 0 < 1 from Nat.zero_lt_one) (by omega) (.slice none 0 0) [] (([x0, x1], i) : List Int × Nat) [.slice (some ⟨gp, 0, none⟩) 2 cp] (fun k_ => NB ≤ k_) (fun k_ => N0 ≤ k_ ∧ k_ < N1) rfl rfl ?aP (fun k_ hk_ => ⟨by have h1_ := hk_.1; have := ORD.out; show NB ≤ k_; omega, fun h_ => by have h2_ := OWN.out k_ h_.symm; have h3_ := hk_.2; have h4_ := hk_.1; omega⟩) ?aF ?aO ?aB ?aS ?aL ?_; (case aP => exact Kd.M_lower _ (show w.heap.size ≤ N0 by have := ORD.out; omega) QR.out); (case aB => exact Below.refl _ _); (case aF => exact (fun k_ hk_ => by have := SZ.out; have := ORD.out; show NB ≤ k_; omega)); (case aO => exact Kd.R_nil _ _ _ _ _); (case aS => exact HB.out.size); (case aL => have := HI.out; have := HLL.out.1; have := HPN.out; (try simp only [List.length_nil]); omega); intro v_ w_6 ho_ hb_ hg_ hat_; rw [← NL2.out] at ho_; clear cx0 cx1; (try clear HO); have n0_ : Aside0 (Tab w_6 mb c0) := ⟨Tab.grown2 HS.out hg_ (fun h_ => by have h2_ := OWN.out mb h_.symm; have := ORD.out; omega)⟩; have n1_ : Aside0 (Below w.heap.size w w_6) := ⟨Hx.bb_append (by first | exact HB.out | exact below_drew1 HB.out) hg_ (fun k_ h_ => by have h2_ := OWN.out k_ h_; have := ORD.out; omega)⟩; have n2_ : Aside0 ((Kd.tag f_ (Kd.slice 3 (Kd.int .i64))).R 39 w_6 N0 (fun k_ => N0 ≤ k_ ∧ k_ < N1) (.slice (some adP) PL.length cP) PL.zipIdx) := ⟨Kd.R_grown HP.out hg_ (fun k_ hk_ h_ => by have h2_ := OWN.out k_ h_.symm; have h3_ := hk_.2; have h4_ := hk_.1; omega)⟩; have n3_ : Aside0 (N1 ≤ w_6.heap.size) := ⟨Nat.le_trans SZ.out hg_.size⟩; have m0_ : Aside0 ((Kd.tag f_ (Kd.slice 3 (Kd.int .i64))).R 39 w_6 w.heap.size (fun k_ => NB ≤ k_) v_ L2) := ⟨ho_⟩; have m1_ : Aside0 (∀ k_, v_.ownBlock = some k_ → NB ≤ k_ ∧ (k_ < N0 ∨ N1 ≤ k_)) := ⟨fun k_ h_ => hat_.elim (fun h2_ => OWN.out k_ (by rw [← h2_]; exact h_)) (fun h2_ => by obtain ⟨b_, h3_, h4_⟩ := h2_; rw [h3_] at h_; have := Option.some.inj h_; have := SZ.out; have := ORD.out; omega)⟩; (try clear HS); (try clear HB); (try clear HP); (try clear SZ); have HS := n0_; have HB := n1_; have HP := n2_; have SZ := n3_; have HO := m0_; have OWN2 := m1_; clear n0_ n1_ n2_ n3_ m0_ m1_; clear ho_ hb_ hg_ hat_ QB QR)))
          go_roundg k1
          case measure => omega
          case rel => exact ⟨i + 1, _, L2, rfl, rfl, ⟨by have := HI.out; omega⟩, HL3, HLL2, HO, OWN2, HP, HS, HB, SZ⟩
        · have d1 : decide ((r5.length : Int) > m) = false := decide_eq_false (by omega)
          have d1' : decide (m < (r5.length : Int)) = false := decide_eq_false (by omega)
          have d2 : ((r5.length : Int) == m) = true := by simpa using heq
          obtain ⟨L2, hL2⟩ : ∃ L2 : List (List Int × Nat), L2 = L ++ [(([x0, x1], i) : List Int × Nat)] := ⟨_, rfl⟩
          have NL2 := Aside0.mk hL2
          have HL3 : Aside0 (hardScan cnt (PL.drop (i + 1)) (L2.map (·.1)) m = r1) := ⟨by
            have h_ := HL2.out
            rw [hardScan, HN.out, if_neg (by omega), if_pos heq] at h_
            rw [hL2, List.map_append]
            exact h_⟩
          have HLL2 : Aside0 (L2.length ≤ i + 1 ∧ (L2.map (·.2)).Pairwise (· < ·) ∧ ∀ x ∈ L2.map (·.2), x < i + 1) := ⟨by
            obtain ⟨q1, q2, q3⟩ := HLL.out
            rw [hL2, List.map_append]
            refine ⟨by simp; omega, List.pairwise_append.2 ⟨q2, by simp, fun a ha b hb => ?_⟩, fun x hx => ?_⟩
            · have h_ : b = i := by simpa using hb
              rw [h_]
              exact q3 a ha
            · rcases List.mem_append.1 hx with h_ | h_
              · have := q3 x h_; omega
              · have h2_ : x = i := by simpa using h_
                omega⟩
          clear heq hL2 HL2
          have cx0 := d1
          have cx1 := d1
          go_wp2_with (first | (first | ((with_reducible refine gate_builtin (b := .append) (xs := #[.tmp 47, .tmp 49]) rfl ?_); at_builtin; refine Kd.R_append (Kd.tag f_ (Kd.slice 3 (Kd.int .i64))) (w0 := w_5) (w.heap.size) rfl (.tmp 47) (.tmp 49) 36 39 (.slice none 0 0) 24 rfl Try.underlying36 info39 rfl (show 0 < 1 from Nat.zero_lt_one) (by omega) u10 L (([x0, x1], i) : List Int × Nat) [.slice (some ⟨gp, 0, none⟩) 2 cp] (fun k_ => NB ≤ k_) (fun k_ => N0 ≤ k_ ∧ k_ < N1) rfl rfl ?aP (fun k_ hk_ => ⟨by have h1_ := hk_.1; have := ORD.out; show NB ≤ k_; omega, fun h_ => by have h2_ := OWN.out k_ h_.symm; have h3_ := hk_.2; have h4_ := hk_.1; omega⟩) ?aF ?aO ?aB ?aS ?aL ?_; (case aP => exact Kd.M_lower _ (show w.heap.size ≤ N0 by have := ORD.out; omega) QR.out); (case aB => exact Below.refl _ _); (case aF => exact (fun k_ hk_ => by have := SZ.out; have := ORD.out; show NB ≤ k_; omega)); (case aO => exact HO.out); (case aS => exact HB.out.size); (case aL => have := HI.out; have := HLL.out.1; have := HPN.out; (try simp only [List.length_nil]); omega); intro v_ w_6 ho_ hb_ hg_ hat_; rw [← NL2.out] at ho_; clear cx0 cx1; (try clear HO); have n0_ : Aside0 (Tab w_6 mb c0) := ⟨Tab.grown2 HS.out hg_ (fun h_ => by have h2_ := OWN.out mb h_.symm; have := ORD.out; omega)⟩; have n1_ : Aside0 (Below w.heap.size w w_6) := ⟨Hx.bb_append (by first | exact HB.out | exact below_drew1 HB.out) hg_ (fun k_ h_ => by have h2_ := OWN.out k_ h_; have := ORD.out; omega)⟩; have n2_ : Aside0 ((Kd.tag f_ (Kd.slice 3 (Kd.int .i64))).R 39 w_6 N0 (fun k_ => N0 ≤ k_ ∧ k_ < N1) (.slice (some adP) PL.length cP) PL.zipIdx) := ⟨Kd.R_grown HP.out hg_ (fun k_ hk_ h_ => by have h2_ := OWN.out k_ h_.symm; have h3_ := hk_.2; have h4_ := hk_.1; omega)⟩; have n3_ : Aside0 (N1 ≤ w_6.heap.size) := ⟨Nat.le_trans SZ.out hg_.size⟩; have m0_ : Aside0 ((Kd.tag f_ (Kd.slice 3 (Kd.int .i64))).R 39 w_6 w.heap.size (fun k_ => NB ≤ k_) v_ L2) := ⟨ho_⟩; have m1_ : Aside0 (∀ k_, v_.ownBlock = some k_ → NB ≤ k_ ∧ (k_ < N0 ∨ N1 ≤ k_)) := ⟨fun k_ h_ => hat_.elim (fun h2_ => OWN.out k_ (by rw [← h2_]; exact h_)) (fun h2_ => by obtain ⟨b_, h3_, h4_⟩ := h2_; rw [h3_] at h_; have := Option.some.inj h_; have := SZ.out; have := ORD.out; omega)⟩; (try clear HS); (try clear HB); (try clear HP); (try clear SZ); have HS := n0_; have HB := n1_; have HP := n2_; have SZ := n3_; have HO := m0_; have OWN2 := m1_; clear n0_ n1_ n2_ n3_ m0_ m1_; clear ho_ hb_ hg_ hat_ QB QR)))
          go_roundg k1
          case measure => omega
          case rel => exact ⟨i + 1, m, L2, rfl, rfl, ⟨by have := HI.out; omega⟩, HL3, HLL2, HO, OWN2, HP, HS, HB, SZ⟩
        · have d1 : decide ((r5.length : Int) > m) = false := decide_eq_false (by omega)
          have d1' : decide (m < (r5.length : Int)) = false := decide_eq_false (by omega)
          have d2 : ((r5.length : Int) == m) = false := by simp; omega
          have HL3 : Aside0 (hardScan cnt (PL.drop (i + 1)) (L.map (·.1)) m = r1) := ⟨by
            have h_ := HL2.out
            rw [hardScan, HN.out, if_neg (by omega), if_neg (by omega)] at h_
            exact h_⟩
          have HLL2 : Aside0 (L.length ≤ i + 1 ∧ (L.map (·.2)).Pairwise (· < ·) ∧ ∀ x ∈ L.map (·.2), x < i + 1) := ⟨by
            obtain ⟨q1, q2, q3⟩ := HLL.out
            exact ⟨by omega, q2, fun x hx => Nat.lt_succ_of_lt (q3 x hx)⟩⟩
          clear hlt HL2
          go_wp2
          go_roundg k1
          case measure => omega
          case rel => exact ⟨i + 1, m, L, rfl, rfl, ⟨by have := HI.out; omega⟩, HL3, HLL2, HO, OWN, HP, HS, HB, SZ⟩
      · have dd0 : decide ((i : Int) < (PL.length : Int)) = false := decide_eq_false (by omega)
        have dd0n : decide (i < PL.length) = false := decide_eq_false hlt
        have HE : Aside0 (L.map (·.1) = r1) := ⟨by
          have h_ := HL.out
          rw [List.drop_of_length_le (by omega)] at h_
          exact h_⟩
        clear hlt
        go_wp2
        go_ret2
        refine ⟨_, rfl, ?_, HB.out⟩
        rw [← HE.out]
        exact Kd.S_mono (Hx.S_of_tags HO.out (HLL.out.2.1.imp (fun h_ => Nat.ne_of_lt h_))) (fun _ _ => trivial)


-- NOT PRINTED: function 3 (laws_FnKindsPlayed)

end Go.Proofs.Ytibapicnljedcab.Q
