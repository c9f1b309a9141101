/- Plain Lean functions with the answers of Go functions, and proofs of it: printed by a program of this session (pr.py) over the kit's print, with hand-written parts. -/
import Derived.Test.YtbkplokoomodcaaQx0
import Derived.Test.YtbkplokoomodcaaQx1
import Derived.Test.YtbkplokoomodcaaQx2
import Derived.Test.YtbkplokoomodcaaQx3
namespace Go.Proofs.Ytbkplokoomodcaa.Q
open Go.RowKit Go.Proofs.YtbkplokoomodcaaW.PrintWords Go.Proofs.YtbkplokoomodcaaW.PrintLast Go.Proofs.YtbkplokoomodcaaW.PrintMore
attribute [local go_sem] max2_int min2_int max_two min_two max_three min_three max_four min_four   -- for this text's walks alone
set_option linter.unusedVariables false
set_option linter.unusedSimpArgs false

-- FOR laws.intactClueS
set_option maxHeartbeats 8000000 in
set_option maxRecDepth 100000 in
theorem intact_ClueS (k : Nat) (F : List S25) (A A' : Option Addr) (n c c' : Nat) (t : Int) (w : World) (ht : laws_roomBehind.f (n : Int) = some t) (hn : wrap64 ((n : Int) + t) = (F.length : Int)) (hc : F.length ≤ c) (hc' : F.length ≤ c')
    (hr : Kd.C k25 w A F.length F) (hr' : Kd.C k25 w A' F.length F) (he : laws_eqClueS.f k F F = some true) :
    Calls Try.prog 83 #[.slice A n c, .slice A' n c'] w fun e w' => e = .returned (.bool true) ∧ Below w.heap.size w w' := by
  have hm := Kd.C_max hr
  have HR := Aside0.mk hr
  have HR' := Aside0.mk hr'
  have HT := Aside0.mk ht
  have HE := Aside0.mk he
  have HN := Aside0.mk hn
  obtain ⟨i0, hi0, _, hz, _⟩ := info_parts info25
  have hcut := Hw.cut_cap (P := Try.prog) 33 25 .i64 Try.underlying33 hi0 A n c F.length hc
  have hcut' := Hw.cut_cap (P := Try.prog) 33 25 .i64 Try.underlying33 hi0 A' n c' F.length hc'
  have heq : ((n : Int) == (n : Int)) = true := by simp
  have HC := Aside0.mk hc
  have HC' := Aside0.mk hc'
  clear hr hr' ht he hi0 hz hc hc' hn
  go_enter Try.func83, Try.ntmps83
  go_wp2_with (first | (go_at_call 112; refine (laws_roomBehind.calls _ _ _ HT.out).mono ?_; rintro e w1 ⟨rfl, ⟨nd, rfl⟩⟩))
  rw [HN.out]
  have HB2 : Below w.heap.size w (w.drewN nd).drew := (pw_below_drewN (Below.refl _ _) nd).drew
  go_still_tail 12, (by kernel_rfl)
  change wpList _ _ _ _ _ (w.drewN nd).drew
  generalize (w.drewN nd).drew = w2 at HB2 ⊢
  have HX := Aside0.mk (laws_eqClueS.calls k A c F A' c' F true w2 (Kd.C_below HR.out HB2) HC.out (Kd.C_below HR'.out HB2) HC'.out HE.out)
  go_wp2_with (first | (go_at_call 89; refine HX.out.mono ?_; rintro e w1 ⟨rfl, hb1⟩))
  go_ret
  exact ⟨rfl, below_step HB2 hb1⟩

/-! What the laws' helpers over lists of clues answer. -/
def convClue (x : S23) : S25 := ⟨x.f0, x.f1, x.f2⟩
def fillClue : S25 := ⟨-7000000000000000101, -7000000000000000101, -7000000000000000101⟩
theorem room_some (n : Nat) : laws_roomBehind.f (n : Int) = some (Hw.room n : Int) := by
  unfold laws_roomBehind.f Hw.room
  rw [Int.tmod_eq_emod_of_nonneg (by omega), Int.tmod_eq_emod_of_nonneg (by omega)]
  by_cases h1 : n % 6 = 5
  · rw [if_pos (by omega), if_pos h1]; rfl
  · rw [if_neg (by omega), if_neg h1]
    by_cases h2 : n % 3 = 0
    · rw [if_pos (by omega), if_pos h2]; rfl
    · rw [if_neg (by omega), if_neg h2]
theorem fullClue_l1 (l : List S23) (xs : List S25) (hl : l.length ≤ xs.length) : ∀ (d : Nat) (k : Nat) (ys : List S25), xs.length + ys.length + d < 9223372036854775807 → d < k →
    full_toClueS.l1 k l (xs ++ ys ++ List.replicate d z25) ((xs.length + ys.length : Nat) : Int) = some (xs ++ ys ++ List.replicate d fillClue) := by
  intro d
  induction d with
  | zero =>
    intro k ys hb hk
    obtain ⟨k, rfl⟩ : ∃ m, k = m + 1 := ⟨k - 1, by omega⟩
    simp only [full_toClueS.l1, List.replicate_zero, List.append_nil]
    rw [if_neg (by simp), if_pos (by omega), if_pos (by simp; omega)]
  | succ d ih =>
    intro k ys hb hk
    obtain ⟨k, rfl⟩ : ∃ m, k = m + 1 := ⟨k - 1, by omega⟩
    have h1 := ih k (ys ++ [fillClue]) (by simp; omega) (by omega)
    simp only [full_toClueS.l1, laws_fillerClue.f, Option.bind_some]
    rw [if_pos (by simp; omega), if_pos (by omega), Int.toNat_natCast, show xs.length + ys.length = (xs ++ ys).length by simp, Hw.set_next, Hw.wrap_id (by omega) (by simp; omega)]
    rw [List.append_assoc xs ys, ← List.append_assoc xs, show (((xs ++ ys).length : Nat) : Int) + 1 = ((xs.length + (ys ++ [fillClue]).length : Nat) : Int) by simp; omega]
    have h2 : xs ++ (ys ++ [fillClue]) ++ List.replicate d fillClue = xs ++ ys ++ List.replicate (d + 1) fillClue := by
      rw [List.replicate_succ]; simp
    rw [← h2, ← h1]
    simp [fillClue]
theorem fullClue_l0 (l : List S23) (rm : Nat) (hb : l.length + rm < 9223372036854775807) : ∀ (d : Nat) (k : Nat) (i : Nat), i + d = l.length → d + rm + 1 < k →
    full_toClueS.l0 k l ((l.take i).map convClue ++ List.replicate (d + rm) z25) (i : Int) = some (l.map convClue ++ List.replicate rm fillClue) := by
  intro d
  induction d with
  | zero =>
    intro k i hi hk
    obtain ⟨k, rfl⟩ : ∃ m, k = m + 1 := ⟨k - 1, by omega⟩
    simp only [full_toClueS.l0]
    rw [if_neg (by omega), List.take_of_length_le (by omega)]
    have h1 := fullClue_l1 l (l.map convClue) (by simp) rm k [] (by simp; omega) (by omega)
    simpa using h1
  | succ d ih =>
    intro k i hi hk
    obtain ⟨k, rfl⟩ : ∃ m, k = m + 1 := ⟨k - 1, by omega⟩
    have hlt : i < l.length := by omega
    have h1 := ih k (i + 1) (by omega) (by omega)
    have hlen : ((l.take i).map convClue).length = i := by simp; omega
    simp only [full_toClueS.l0, laws_toClue.f, Option.bind_some]
    rw [if_pos (by omega), if_pos (by omega), if_pos (by simp; omega), Int.toNat_natCast, Hw.wrap_id (by omega) (by omega)]
    have hs : ((l.take i).map convClue ++ List.replicate (d + 1 + rm) z25).set i (⟨(rd_T23 l i).f0, (rd_T23 l i).f1, (rd_T23 l i).f2⟩ : S25) = (l.take (i + 1)).map convClue ++ List.replicate (d + rm) z25 := by
      have h2 := Hw.set_next ((l.take i).map convClue) (d + rm) z25 (⟨(rd_T23 l i).f0, (rd_T23 l i).f1, (rd_T23 l i).f2⟩ : S25)
      rw [hlen, show d + rm + 1 = d + 1 + rm by omega] at h2
      have hx : (⟨(rd_T23 l i).f0, (rd_T23 l i).f1, (rd_T23 l i).f2⟩ : S25) = convClue l[i] := by
        simp [rd_T23, convClue, List.getD_eq_getElem?_getD, List.getElem?_eq_getElem hlt]
      rw [h2, hx, List.take_succ_eq_append_getElem hlt, List.map_append]
      rfl
    rw [hs]
    exact h1
/-- What 'toClueS' makes, fillers and all. -/
def fullClue (l : List S23) : List S25 := l.map convClue ++ List.replicate (Hw.room l.length) fillClue
theorem fullClue_some (l : List S23) (b : Bool) (hl : l.length ≤ 1000000) (h : b = false ∨ l.length ≠ 0) (k : Nat) (hk : l.length + Hw.room l.length + 2 < k) : full_toClueS.f k l b = some (fullClue l) := by
  have hr := Hw.room_le l.length
  have hj : full_toClueS.j0 k l false = some (fullClue l) := by
    obtain ⟨k, rfl⟩ : ∃ m, k = m + 1 := ⟨k - 1, by omega⟩
    simp only [full_toClueS.j0]
    have h1 := fullClue_l0 l (Hw.room l.length) (by omega) l.length k 0 (by omega) (by omega)
    have hj : wrap64 ((l.length : Int) + (Hw.room l.length : Int)) = ((l.length + Hw.room l.length : Nat) : Int) := by rw [Hw.wrap_id (by omega) (by omega)]; omega
    refine Hw.ite_no (by decide) (Hw.bind_of (room_some l.length) ?_)
    rw [hj]
    refine Hw.ite_of (by omega) (Hw.ite_of (by omega) ?_)
    rw [Int.toNat_natCast]
    exact h1
  unfold full_toClueS.f
  rcases h with h | h
  · subst h; rw [if_neg (by decide)]; exact hj
  · have h0 : ((l.length : Int) == 0) = false := by simpa using h
    rw [h0, hj]; simp
theorem fullClue_nil (k : Nat) (hk : 0 < k) : full_toClueS.f k [] true = some [] := by
  obtain ⟨k, rfl⟩ : ∃ m, k = m + 1 := ⟨k - 1, by omega⟩
  simp [full_toClueS.f, full_toClueS.j0]
theorem eqClue_l0 (F : List S25) (hb : F.length < 9223372036854775807) : ∀ (d : Nat) (k : Nat) (i : Nat), i + d = F.length → d < k → laws_eqClueS.l0 k F F (i : Int) = some true := by
  intro d
  induction d with
  | zero =>
    intro k i hi hk
    obtain ⟨k, rfl⟩ : ∃ m, k = m + 1 := ⟨k - 1, by omega⟩
    simp only [laws_eqClueS.l0]
    rw [if_neg (by omega)]
  | succ d ih =>
    intro k i hi hk
    obtain ⟨k, rfl⟩ : ∃ m, k = m + 1 := ⟨k - 1, by omega⟩
    have h1 := ih k (i + 1) (by omega) (by omega)
    simp only [laws_eqClueS.l0, laws_eqClue.f, if_true, Option.bind_some]
    rw [if_pos (by omega), if_pos (by omega), if_pos (by omega), Hw.wrap_id (by omega) (by omega)]
    exact h1
theorem eqClue_self (F : List S25) (hb : F.length < 9223372036854775807) (k : Nat) (hk : F.length < k) : laws_eqClueS.f k F F = some true := by
  unfold laws_eqClueS.f
  rw [if_pos rfl]
  exact eqClue_l0 F hb F.length k 0 (by omega) hk



-- FOR laws.intactPuzzle
set_option maxHeartbeats 8000000 in
set_option maxRecDepth 100000 in
theorem intact_Puzzle (k : Nat) (fl : Int) (F : List S25) (A A' : Option Addr) (n c c' : Nat) (t : Int) (w : World) (ht : laws_roomBehind.f (n : Int) = some t) (hn : wrap64 ((n : Int) + t) = (F.length : Int)) (hc : F.length ≤ c) (hc' : F.length ≤ c')
    (hr : Kd.C k25 w A F.length F) (hr' : Kd.C k25 w A' F.length F) (he : laws_eqClueS.f k F F = some true) :
    Calls Try.prog 26 #[.agg #[.int .i64 fl, .slice A n c], .agg #[.int .i64 fl, .slice A' n c']] w fun e w' => e = .returned (.bool true) ∧ Below w.heap.size w w' := by
  have hB : Below w.heap.size w ((w.alloc (.cells #[.int .i64 fl, .slice A n c] 35 (0, 0))).alloc (.cells #[.int .i64 fl, .slice A' n c'] 35 (0, 0))) := below_alloc (below_alloc (Below.refl _ _) _) _
  have HX := Aside0.mk (intact_ClueS k F A A' n c c' t _ ht hn hc hc' (Kd.C_below hr hB) (Kd.C_below hr' hB) he)
  have hne : (fl != fl) = false := by simp
  have HB := Aside0.mk hB
  clear ht hn hc hc' hr hr' he hB
  go_enter Try.func26, Try.ntmps26
  go_wp2_with (first | (go_at_call 83; refine HX.out.mono ?_; rintro e w1 ⟨rfl, hb1⟩))
  go_ret
  exact ⟨rfl, below_step HB.out hb1⟩



-- FOR laws.FnExactIsPuzzle
set_option maxHeartbeats 8000000 in
set_option maxRecDepth 100000 in
theorem hand_FnExactIsPuzzle (k : Nat) (a0_0 : Int) (A0_1 : Option Addr) (c0_1 : Nat) (l0_1 : List S23) (w : World) (hr0_1 : Kd.C k23 w A0_1 l0_1.length l0_1) (hc0_1 : l0_1.length ≤ c0_1)
    (F F' L : List S25) (t : Int) (r : Bool) (s : Int) (hs : laws_szPuzzle.f a0_0 l0_1 1000000 = some s) (hs0 : 0 ≤ s)
    (hF : full_toClueS.f k l0_1 false = some F) (hL : F.take l0_1.length = L) (hLl : L.length = l0_1.length) (hF' : full_toClueS.f k l0_1 true = some F') (hF2 : l0_1.length ≠ 0 → F' = F) (hF0 : l0_1.length = 0 → F' = [])
    (ht : laws_roomBehind.f (l0_1.length : Int) = some t) (hn : wrap64 ((l0_1.length : Int) + t) = (F.length : Int)) (he : laws_eqClueS.f k F F = some true)
    (h1 : spec_IsPuzzle.f k a0_0 L = some r) (h2 : impl_IsPuzzle.f a0_0 L = some r) :
    Calls Try.prog 4 #[.agg #[.int .i64 a0_0, .slice A0_1 l0_1.length c0_1]] w fun e w' => e = .returned (.bool true) ∧ Below w.heap.size w w' := by
  have HR := Aside0.mk hr0_1
  have HC := Aside0.mk hc0_1
  have H0 := Aside0.mk hs
  have hs1 : decide (s < 0) = false := decide_eq_false (by omega)
  have HF := Aside0.mk hF
  have HF' := Aside0.mk hF'
  have HT := Aside0.mk ht
  have HN := Aside0.mk hn
  have HE := Aside0.mk he
  have H1 := Aside0.mk h1
  have H2 := Aside0.mk h2
  have HF2 := Aside0.mk hF2
  have HF0 := Aside0.mk hF0
  have HL := Aside0.mk hL
  have HLl := Aside0.mk hLl
  clear hr0_1 hc0_1 hs hF hF' ht hn he h1 h2 hF2 hF0 hL hLl hs0
  go_enter Try.func4, Try.ntmps4
  go_wp2_with fail
  have HB : Aside0 (Below w.heap.size w (w.alloc (.cells #[.int .i64 a0_0, .slice A0_1 l0_1.length c0_1] 30 (0, 0)))) := ⟨below_alloc (Below.refl _ _) _⟩
  have BK : Aside0 ((w.alloc (.cells #[.int .i64 a0_0, .slice A0_1 l0_1.length c0_1] 30 (0, 0))).heap[w.heap.size]? = some (.cells #[.int .i64 a0_0, .slice A0_1 l0_1.length c0_1] 30 (0, 0))) := ⟨blk_new _ _⟩
  refine (laws_szPuzzle.calls a0_0 _ _ l0_1 _ _ _ (Kd.C_below HR.out HB.out) HC.out H0.out).mono ?_
  rintro e w1 ⟨rfl, hb⟩
  have HB1 : Aside0 (Below w.heap.size w w1) := ⟨below_step HB.out hb⟩
  have BK1 : Aside0 (w1.heap[w.heap.size]? = some (.cells #[.int .i64 a0_0, .slice A0_1 l0_1.length c0_1] 30 (0, 0))) := ⟨blk_below BK.out hb⟩
  clear HB BK hb
  have c10 := (blk_cell BK1.out 0).trans rfl
  have c11 := (blk_cell BK1.out 1).trans rfl
  go_wp2_with fail
  refine (full_toPuzzle k a0_0 _ _ l0_1 false F w1 (Kd.C_below HR.out HB1.out) HC.out HF.out).mono ?_
  rintro e w2 hp
  obtain ⟨A2, n2, c2, rfl, hR2, hn2, hb⟩ := hp
  obtain rfl : n2 = L.length := by rcases hn2 with h_ | ⟨h_, h2_⟩; exact h_.trans HLl.out.symm; exact h2_.trans (by rw [← HL.out, h_]; simp)
  have HB2 : Aside0 (Below w.heap.size w w2) := ⟨below_step HB1.out hb⟩
  have BK2 : Aside0 (w2.heap[w.heap.size]? = some (.cells #[.int .i64 a0_0, .slice A0_1 l0_1.length c0_1] 30 (0, 0))) := ⟨blk_below BK1.out hb⟩
  have HL2 : Aside0 (L.length ≤ F.length) := ⟨by rw [← HL.out, List.length_take]; omega⟩
  have hq := Kd.R_reads' hR2
  have HC2 : Aside0 (Kd.C k25 w2 A2 L.length L) := ⟨by have h_ := Hw.C_take hq.2.2 L.length HL2.out; rw [HLl.out, HL.out, ← HLl.out] at h_; exact h_⟩
  have HC2' : Aside0 (L.length ≤ c2) := ⟨Nat.le_trans HL2.out hq.2.1⟩
  clear HB1 BK1 hb c10 c11 hR2 hn2 hq
  go_wp2_with fail
  refine (spec_IsPuzzle.calls k a0_0 _ _ L r w2 HC2.out HC2'.out H1.out).mono ?_
  rintro e w3 ⟨rfl, hb⟩
  have HB3 : Aside0 (Below w.heap.size w w3) := ⟨below_step HB2.out hb⟩
  have BK3 : Aside0 (w3.heap[w.heap.size]? = some (.cells #[.int .i64 a0_0, .slice A0_1 l0_1.length c0_1] 30 (0, 0))) := ⟨blk_below BK2.out hb⟩
  clear HB2 BK2 hb HC2 HC2'
  have c30 := (blk_cell BK3.out 0).trans rfl
  have c31 := (blk_cell BK3.out 1).trans rfl
  go_wp2_with fail
  refine (full_toPuzzle k a0_0 _ _ l0_1 false F w3 (Kd.C_below HR.out HB3.out) HC.out HF.out).mono ?_
  rintro e w4 hp
  obtain ⟨A4, n4, c4, rfl, hR4, hn4, hb⟩ := hp
  obtain rfl : n4 = L.length := by rcases hn4 with h_ | ⟨h_, h2_⟩; exact h_.trans HLl.out.symm; exact h2_.trans (by rw [← HL.out, h_]; simp)
  have HB4 : Aside0 (Below w.heap.size w w4) := ⟨below_step HB3.out hb⟩
  have BK4 : Aside0 (w4.heap[w.heap.size]? = some (.cells #[.int .i64 a0_0, .slice A0_1 l0_1.length c0_1] 30 (0, 0))) := ⟨blk_below BK3.out hb⟩
  have hq := Kd.R_reads' hR4
  have HC4 : Aside0 (Kd.C k25 w4 A4 F.length F) := ⟨hq.2.2⟩
  have HC4' : Aside0 (F.length ≤ c4) := ⟨hq.2.1⟩
  clear HB3 BK3 hb c30 c31 hR4 hn4 hq
  go_wp2_with fail
  have HB4' : Aside0 (Below w.heap.size w (w4.alloc (.cells #[.int .i64 a0_0, .slice A4 L.length c4] 35 (0, 0)))) := ⟨below_alloc HB4.out _⟩
  have BX : Aside0 ((w4.alloc (.cells #[.int .i64 a0_0, .slice A4 L.length c4] 35 (0, 0))).heap[w4.heap.size]? = some (.cells #[.int .i64 a0_0, .slice A4 L.length c4] 35 (0, 0))) := ⟨blk_new _ _⟩
  have HC4a : Aside0 (Kd.C k25 (w4.alloc (.cells #[.int .i64 a0_0, .slice A4 L.length c4] 35 (0, 0))) A4 F.length F) := ⟨Kd.C_alloc HC4.out _⟩
  have BK4' : Aside0 ((w4.alloc (.cells #[.int .i64 a0_0, .slice A4 L.length c4] 35 (0, 0))).heap[w.heap.size]? = some (.cells #[.int .i64 a0_0, .slice A0_1 l0_1.length c0_1] 30 (0, 0))) := ⟨blk_alloc BK4.out _⟩
  have HC4L : Aside0 (Kd.C k25 (w4.alloc (.cells #[.int .i64 a0_0, .slice A4 L.length c4] 35 (0, 0))) A4 L.length L) := ⟨by have h_ := Hw.C_take HC4a.out L.length HL2.out; rw [HLl.out, HL.out, ← HLl.out] at h_; exact h_⟩
  refine (impl_IsPuzzle.calls a0_0 _ _ L r _ HC4L.out (Nat.le_trans HL2.out HC4'.out) H2.out).mono ?_
  rintro e w5 ⟨rfl, hb⟩
  have HB5 : Aside0 (Below w.heap.size w w5) := ⟨below_step HB4'.out hb⟩
  have BK5 : Aside0 (w5.heap[w.heap.size]? = some (.cells #[.int .i64 a0_0, .slice A0_1 l0_1.length c0_1] 30 (0, 0))) := ⟨blk_below BK4'.out hb⟩
  have BX5 : Aside0 (w5.heap[w4.heap.size]? = some (.cells #[.int .i64 a0_0, .slice A4 L.length c4] 35 (0, 0))) := ⟨blk_below BX.out hb⟩
  have HC5 : Aside0 (Kd.C k25 w5 A4 F.length F) := ⟨Kd.C_below HC4a.out hb⟩
  clear HB4 HB4' BX HC4 HC4a BK4 BK4' HC4L hb
  have hrr : (r != r) = false := by simp
  have c50 := (blk_cell BK5.out 0).trans rfl
  have c51 := (blk_cell BK5.out 1).trans rfl
  have d50 := (blk_cell BX5.out 0).trans rfl
  have d51 := (blk_cell BX5.out 1).trans rfl
  go_wp2_with fail
  have HB5' : Aside0 (∀ W, Below w5.heap.size w5 W → Below w.heap.size w W) := ⟨fun W h_ => below_step HB5.out h_⟩
  go_region_held3 (fun w' => w'.cell? ⟨w.heap.size, 0, none⟩ = some (.int .i64 a0_0) ∧ w'.cell? ⟨w.heap.size, 1, none⟩ = some (.slice A0_1 l0_1.length c0_1) ∧ w'.cell? ⟨w4.heap.size, 0, none⟩ = some (.int .i64 a0_0) ∧ w'.cell? ⟨w4.heap.size, 1, none⟩ = some (.slice A4 L.length c4)) (first | exact ⟨c50, c51, d50, d51⟩ | exact ⟨c60, c61, d60, d61⟩ | exact ⟨c70, c71, d70, d71⟩) (first
    | (go_at_call 24; refine (full_toPuzzle k a0_0 _ _ l0_1 false F _ (Kd.C_below HR.out (below_drew1 HB5.out)) HC.out HF.out).mono ?_; rintro e w6 hp; obtain ⟨A6, n6, c6, rfl, hR6, hn6, hb⟩ := hp; obtain rfl : n6 = L.length := (by rcases hn6 with h_ | ⟨h_, h2_⟩; exact h_.trans HLl.out.symm; exact h2_.trans (by rw [← HL.out, h_]; simp)); have hq6 := Kd.R_reads' hR6; have hb6 : Below w5.heap.size w5 w6 := below_step (below_drew1 (Below.refl _ _)) hb; have HB6 : Aside0 (Below w.heap.size w w6) := ⟨HB5'.out _ hb6⟩; have BK6 : Aside0 (w6.heap[w.heap.size]? = some (.cells #[.int .i64 a0_0, .slice A0_1 l0_1.length c0_1] 30 (0, 0))) := ⟨blk_below BK5.out hb6⟩; have BX6 : Aside0 (w6.heap[w4.heap.size]? = some (.cells #[.int .i64 a0_0, .slice A4 L.length c4] 35 (0, 0))) := ⟨blk_below BX5.out hb6⟩; have HC6 : Aside0 (Kd.C k25 w6 A4 F.length F) := ⟨Kd.C_below HC5.out hb6⟩; have HC6' : Aside0 (Kd.C k25 w6 A6 F.length F) := ⟨hq6.2.2⟩; have HC6c : Aside0 (F.length ≤ c6) := ⟨hq6.2.1⟩; have c60 := (blk_cell BK6.out 0).trans rfl; have c61 := (blk_cell BK6.out 1).trans rfl; have d60 := (blk_cell BX6.out 0).trans rfl; have d61 := (blk_cell BX6.out 1).trans rfl; clear hb hb6 hq6 hR6 hn6)
    | (go_at_call 26; refine (intact_Puzzle k a0_0 F A4 A6 L.length c4 c6 t w6 (by rw [HLl.out]; exact HT.out) (by rw [HLl.out]; exact HN.out) HC4'.out HC6c.out HC6.out HC6'.out HE.out).mono ?_; rintro e w7 ⟨rfl, hb⟩; have HB7 : Aside0 (Below w.heap.size w w7) := ⟨below_step HB6.out hb⟩; have BK7 : Aside0 (w7.heap[w.heap.size]? = some (.cells #[.int .i64 a0_0, .slice A0_1 l0_1.length c0_1] 30 (0, 0))) := ⟨blk_below BK6.out hb⟩; have BX7 : Aside0 (w7.heap[w4.heap.size]? = some (.cells #[.int .i64 a0_0, .slice A4 L.length c4] 35 (0, 0))) := ⟨blk_below BX6.out hb⟩; have c70 := (blk_cell BK7.out 0).trans rfl; have c71 := (blk_cell BK7.out 1).trans rfl; have d70 := (blk_cell BX7.out 0).trans rfl; have d71 := (blk_cell BX7.out 1).trans rfl; clear hb))
  clear c50 c51 d50 d51
  go_wp2_with fail
  refine (full_toPuzzle k a0_0 _ _ l0_1 true F' w7 (Kd.C_below HR.out HB7.out) HC.out HF'.out).mono ?_
  rintro e w8 hp
  obtain ⟨A8, n8, c8, rfl, hR8, hn8, hb⟩ := hp
  have hq8 := Kd.R_reads' hR8
  have H8 : n8 = L.length ∧ Kd.C k25 w8 A8 L.length L ∧ L.length ≤ c8 := by
    by_cases h0 : l0_1.length = 0
    · have h_ := HF0.out h0
      subst h_
      have hLn : L = [] := List.eq_nil_of_length_eq_zero (HLl.out.trans h0)
      subst hLn
      refine ⟨?_, hq8.2.2, Nat.zero_le _⟩
      rcases hn8 with h_ | ⟨_, h2_⟩
      · rw [h_, h0]; rfl
      · exact h2_
    · have h_ := HF2.out h0
      subst h_
      refine ⟨?_, ?_, Nat.le_trans HL2.out hq8.2.1⟩
      · rcases hn8 with h_ | ⟨h_, h2_⟩
        · exact h_.trans HLl.out.symm
        · exact h2_.trans (by rw [← HL.out, h_]; simp)
      · have h_ := Hw.C_take hq8.2.2 L.length HL2.out
        rw [HLl.out, HL.out, ← HLl.out] at h_
        exact h_
  obtain ⟨rfl, h81, h82⟩ := H8
  have HB8 : Aside0 (Below w.heap.size w w8) := ⟨below_step HB7.out hb⟩
  have H81 := Aside0.mk h81
  have H82 := Aside0.mk h82
  clear hb hR8 hn8 hq8 h81 h82
  go_wp2_with fail
  refine (impl_IsPuzzle.calls a0_0 _ _ L r w8 H81.out H82.out H2.out).mono ?_
  rintro e w9 ⟨rfl, hb⟩
  have HB9 : Aside0 (Below w.heap.size w w9) := ⟨below_step HB8.out hb⟩
  clear hb
  go_wp2
  go_ret
  exact ⟨rfl, HB9.out⟩
set_option maxHeartbeats 8000000 in
set_option maxRecDepth 100000 in
theorem big_FnExactIsPuzzle (a0_0 : Int) (A0_1 : Option Addr) (c0_1 : Nat) (l0_1 : List S23) (w : World) (hr0_1 : Kd.C k23 w A0_1 l0_1.length l0_1) (hc0_1 : l0_1.length ≤ c0_1)
    (s : Int) (hs : laws_szPuzzle.f a0_0 l0_1 1000000 = some s) (hs0 : s < 0) :
    Calls Try.prog 4 #[.agg #[.int .i64 a0_0, .slice A0_1 l0_1.length c0_1]] w fun e w' => e = .returned (.bool true) ∧ Below w.heap.size w w' := by
  have HR := Aside0.mk hr0_1
  have HC := Aside0.mk hc0_1
  have H0 := Aside0.mk hs
  have hs1 : decide (s < 0) = true := decide_eq_true hs0
  clear hr0_1 hc0_1 hs hs0
  go_enter Try.func4, Try.ntmps4
  go_wp2_with fail
  have HB : Aside0 (Below w.heap.size w (w.alloc (.cells #[.int .i64 a0_0, .slice A0_1 l0_1.length c0_1] 30 (0, 0)))) := ⟨below_alloc (Below.refl _ _) _⟩
  refine (laws_szPuzzle.calls a0_0 _ _ l0_1 _ _ _ (Kd.C_below HR.out HB.out) HC.out H0.out).mono ?_
  rintro e w1 ⟨rfl, hb⟩
  have HB1 : Aside0 (Below w.heap.size w w1) := ⟨below_step HB.out hb⟩
  clear HB hb
  go_wp2
  go_ret
  exact ⟨rfl, HB1.out⟩
theorem szPuzzle_big (a : Int) (l : List S23) (hl : l.length ≤ 9223372036854775807) (h : 1000000 < l.length) : laws_szPuzzle.f a l 1000000 = some (-1) := by
  unfold laws_szPuzzle.f laws_szClueS.f
  rw [Hw.wrap_id (by omega) (by omega), if_pos (by omega)]
  rfl
theorem szPuzzle_small (a : Int) (l : List S23) (h : l.length ≤ 1000000) : laws_szPuzzle.f a l 1000000 = some (1000000 - (l.length : Int)) := by
  unfold laws_szPuzzle.f laws_szClueS.f
  rw [Hw.wrap_id (by omega) (by omega), if_neg (by omega)]
  exact if_neg (by omega)


/-! ### spec_IsClue: function 19 -/
def spec_IsClue.f (a0 : Int) (a1_0 : Int) (a1_1 : Int) (a1_2 : Int) : Option (Bool) := (spec_pzFloors.f a0).bind fun t164 => (if t164 = true then ((spec_pzClue.f a0 a1_0 a1_1 a1_2).bind fun t165 => (some t165)) else (some false))
set_option maxHeartbeats 8000000 in
set_option maxRecDepth 100000 in
theorem spec_IsClue.calls (a0 : Int) (a1_0 : Int) (a1_1 : Int) (a1_2 : Int) (r : Bool) (w : World) (h : spec_IsClue.f a0 a1_0 a1_1 a1_2 = some r) :
    Calls Try.prog 19 #[.int .i64 a0, .agg #[.int .i64 a1_0, .int .i64 a1_1, .int .i64 a1_2]] w fun e w' => e = .returned (.bool r) ∧ Below w.heap.size w w' := by
  have hu25 := Try.underlying25
  have HB := Aside0.mk (Below.refl w.heap.size w)
  have H : ((spec_pzFloors.f a0).bind fun t164 => (if t164 = true then ((spec_pzClue.f a0 a1_0 a1_1 a1_2).bind fun t165 => (some t165)) else (some false))) = some r := h
  clear h
  replace H := Option.bind_eq_some_iff.mp H
  obtain ⟨t164, A30, H⟩ := H
  replace H : (if t164 = true then ((spec_pzClue.f a0 a1_0 a1_1 a1_2).bind fun t165 => (some t165)) else (some false)) = some r := H
  have A3 := Aside0.mk A30
  clear A30
  by_cases c4 : t164 = true
  · subst c4
    have H1 : ((spec_pzClue.f a0 a1_0 a1_1 a1_2).bind fun t165 => (some t165)) = some r := by rw [if_pos rfl] at H; exact H
    clear H
    have H := H1
    clear H1
    replace H := Option.bind_eq_some_iff.mp H
    obtain ⟨t165, A50, H⟩ := H
    replace H : (some t165) = some r := H
    have A5 := Aside0.mk A50
    clear A50
    obtain rfl := Option.some.inj H
    go_enter Try.func19, Try.ntmps19
    go_wp2_with (first | ((with_reducible refine gate_dst (N := 3) rfl ?_); refine box_event ?hg (N := 3) ?hd (cs := #[.int .i64 a1_0, .int .i64 a1_1, .int .i64 a1_2]) (t := 25) ?hr ?_; (case hd => rfl); (case hg => rfl); (case hr => first | (go_simp; done) | (go_simp; rfl)); intro gb163 hg w6 hbox hb; have n0_ := Aside0.mk (below_step (by repeat (first | (with_reducible first | exact HB.out | apply below_alloc | apply pw_below_drewN | apply below_drew1) | exact HB.out)) hb); have n1_ := Aside0.mk (hbox); have n2_ := Aside0.mk ((by rw [hg]; exact (below_size (by repeat (first | (with_reducible first | exact HB.out | apply below_alloc | apply pw_below_drewN | apply below_drew1) | exact HB.out))) : w.heap.size ≤ gb163)); have n3_ := Aside0.mk ((by rw [hg]; exact (below_size (by repeat (first | (with_reducible first | exact HB.out | apply below_alloc | apply pw_below_drewN | apply below_drew1) | exact HB.out))) : w.heap.size ≤ gb163)); clear HB; have HB := n0_; have BK163 := n1_; have GW163 := n2_; have GE163 := n3_; clear n0_ n1_ n2_ n3_; clear hb hbox hg) | ((with_reducible refine gate_callee (f := 72) rfl ?_); refine goesL_ (some 6) rfl rfl Try.func72 (by kernel_rfl) rfl #[.int .i64 a0] rfl (by (try simp only [List.map_toArray, List.map_cons, List.map_nil]); first | done | rfl | (simp only [List.length_drop, List.length_take]; rfl)) ?_; (with_reducible refine (spec_pzFloors.calls a0 true _ A3.out).mono ?_); rintro e w' ⟨rfl, ⟨nd, rfl⟩⟩; refine ⟨_, rfl, ?_⟩; have hcz7_0 : w6.cell? ⟨gb163, 0, none⟩ = some (.int .i64 a1_0) := (blk_cell BK163.out 0).trans rfl; have hcz7_1 : w6.cell? ⟨gb163, 1, none⟩ = some (.int .i64 a1_1) := (blk_cell BK163.out 1).trans rfl; have hcz7_2 : w6.cell? ⟨gb163, 2, none⟩ = some (.int .i64 a1_2) := (blk_cell BK163.out 2).trans rfl; have hfz7_0 := blk_frozen BK163.out 0; have hfz7_1 := blk_frozen BK163.out 1; have hfz7_2 := blk_frozen BK163.out 2) | (go_at_call 73; (with_reducible refine (spec_pzClue.calls a0 a1_0 a1_1 a1_2 t165 _ A5.out).mono ?_); rintro e w8 ⟨rfl, hb⟩; have n0_ := Aside0.mk (blk_below (g := gb163) (o := .cells #[.int .i64 a1_0, .int .i64 a1_1, .int .i64 a1_2] 25 (0, 0)) (by (with_reducible repeat (first | refine blk_drewN ?_ _ | refine blk_drew ?_ | refine blk_alloc ?_ _)); exact BK163.out) hb); have n1_ := Aside0.mk (below_step (by repeat (first | (with_reducible first | exact HB.out | apply below_alloc | apply pw_below_drewN | apply below_drew1 | refine below_set ?_ GE163.out) | exact HB.out)) hb); clear BK163; clear HB; have BK163 := n0_; have HB := n1_; clear n0_ n1_; (try clear hb); (try clear hb2); (try clear hk); (try clear hi)))
    go_ret
    exact ⟨by first | rfl | (simp [errW_none, errW_some] <;> rfl) | (simp [*, errW_none, errW_some] <;> rfl), by repeat (first | (with_reducible first | exact HB.out | apply below_alloc | apply pw_below_drewN | apply below_drew1 | refine below_set ?_ GE163.out) | exact HB.out)⟩
  · replace c4 := Bool.eq_false_iff.mpr c4
    subst c4
    have H1 : (some false) = some r := by rw [if_neg (show ¬ (false = true) by decide)] at H; exact H
    clear H
    have H := H1
    clear H1
    obtain rfl := Option.some.inj H
    go_enter Try.func19, Try.ntmps19
    go_wp2_with (first | ((with_reducible refine gate_dst (N := 3) rfl ?_); refine box_event ?hg (N := 3) ?hd (cs := #[.int .i64 a1_0, .int .i64 a1_1, .int .i64 a1_2]) (t := 25) ?hr ?_; (case hd => rfl); (case hg => rfl); (case hr => first | (go_simp; done) | (go_simp; rfl)); intro gb163 hg w9 hbox hb; have n0_ := Aside0.mk (below_step (by repeat (first | (with_reducible first | exact HB.out | apply below_alloc | apply pw_below_drewN | apply below_drew1) | exact HB.out)) hb); have n1_ := Aside0.mk (hbox); have n2_ := Aside0.mk ((by rw [hg]; exact (below_size (by repeat (first | (with_reducible first | exact HB.out | apply below_alloc | apply pw_below_drewN | apply below_drew1) | exact HB.out))) : w.heap.size ≤ gb163)); have n3_ := Aside0.mk ((by rw [hg]; exact (below_size (by repeat (first | (with_reducible first | exact HB.out | apply below_alloc | apply pw_below_drewN | apply below_drew1) | exact HB.out))) : w.heap.size ≤ gb163)); clear HB; have HB := n0_; have BK163 := n1_; have GW163 := n2_; have GE163 := n3_; clear n0_ n1_ n2_ n3_; clear hb hbox hg) | ((with_reducible refine gate_callee (f := 72) rfl ?_); refine goesL_ (some 6) rfl rfl Try.func72 (by kernel_rfl) rfl #[.int .i64 a0] rfl (by (try simp only [List.map_toArray, List.map_cons, List.map_nil]); first | done | rfl | (simp only [List.length_drop, List.length_take]; rfl)) ?_; (with_reducible refine (spec_pzFloors.calls a0 false _ A3.out).mono ?_); rintro e w' ⟨rfl, ⟨nd, rfl⟩⟩; refine ⟨_, rfl, ?_⟩))
    go_ret
    exact ⟨by first | rfl | (simp [errW_none, errW_some] <;> rfl) | (simp [*, errW_none, errW_some] <;> rfl), by repeat (first | (with_reducible first | exact HB.out | apply below_alloc | apply pw_below_drewN | apply below_drew1 | refine below_set ?_ GE163.out) | exact HB.out)⟩

/-! ### laws_FnExactIsClue: function 3 -/
def laws_FnExactIsClue.f (a0 : Int) (a1_0 : Int) (a1_1 : Int) (a1_2 : Int) : Option (Bool) := (laws_toClue.f a1_0 a1_1 a1_2).bind fun bt167 => ((spec_IsClue.f a0 bt167.1 bt167.2.1 bt167.2.2).bind fun t170 => ((laws_toClue.f a1_0 a1_1 a1_2).bind fun bt171 => ((impl_IsClue.f a0 bt171.1 bt171.2.1 bt171.2.2).bind fun t174 => (if (t174 != t170) = true then (some false) else (some true)))))
set_option maxHeartbeats 8000000 in
set_option maxRecDepth 100000 in
theorem laws_FnExactIsClue.calls (a0 : Int) (a1_0 : Int) (a1_1 : Int) (a1_2 : Int) (r : Bool) (w : World) (h : laws_FnExactIsClue.f a0 a1_0 a1_1 a1_2 = some r) :
    Calls Try.prog 3 #[.int .i64 a0, .agg #[.int .i64 a1_0, .int .i64 a1_1, .int .i64 a1_2]] w fun e w' => e = .returned (.bool r) ∧ Below w.heap.size w w' := by
  have hu23 := Try.underlying23
  have HB := Aside0.mk (Below.refl w.heap.size w)
  have H : ((laws_toClue.f a1_0 a1_1 a1_2).bind fun bt167 => ((spec_IsClue.f a0 bt167.1 bt167.2.1 bt167.2.2).bind fun t170 => ((laws_toClue.f a1_0 a1_1 a1_2).bind fun bt171 => ((impl_IsClue.f a0 bt171.1 bt171.2.1 bt171.2.2).bind fun t174 => (if (t174 != t170) = true then (some false) else (some true)))))) = some r := h
  clear h
  replace H := Option.bind_eq_some_iff.mp H
  obtain ⟨⟨t167, t168, t169⟩, A30, H⟩ := H
  replace H : ((spec_IsClue.f a0 t167 t168 t169).bind fun t170 => ((laws_toClue.f a1_0 a1_1 a1_2).bind fun bt171 => ((impl_IsClue.f a0 bt171.1 bt171.2.1 bt171.2.2).bind fun t174 => (if (t174 != t170) = true then (some false) else (some true))))) = some r := H
  have A3 := Aside0.mk A30
  clear A30
  replace H := Option.bind_eq_some_iff.mp H
  obtain ⟨t170, A40, H⟩ := H
  replace H : ((laws_toClue.f a1_0 a1_1 a1_2).bind fun bt171 => ((impl_IsClue.f a0 bt171.1 bt171.2.1 bt171.2.2).bind fun t174 => (if (t174 != t170) = true then (some false) else (some true)))) = some r := H
  have A4 := Aside0.mk A40
  clear A40
  replace H := Option.bind_eq_some_iff.mp H
  obtain ⟨⟨t171, t172, t173⟩, A50, H⟩ := H
  replace H : ((impl_IsClue.f a0 t171 t172 t173).bind fun t174 => (if (t174 != t170) = true then (some false) else (some true))) = some r := H
  have A5 := Aside0.mk A50
  clear A50
  replace H := Option.bind_eq_some_iff.mp H
  obtain ⟨t174, A60, H⟩ := H
  replace H : (if (t174 != t170) = true then (some false) else (some true)) = some r := H
  have A6 := Aside0.mk A60
  clear A60
  by_cases c7 : (t174 != t170) = true
  · rw [if_pos c7] at H
    have c7b0 : (t174 != t170) = true := c7
    (try (have c7b1 : decide (t174 = t170) = false := by simpa using c7))
    (try (have c7b2 : (t174 == t170) = false := by simpa using c7))
    (try (have c7b3 : ¬ (t174 = t170) := by simpa using c7))
    clear c7
    obtain rfl := Option.some.inj H
    go_enter Try.func3, Try.ntmps3
    go_wp2_with (first | ((with_reducible refine gate_dst (N := 3) rfl ?_); refine box_event ?hg (N := 3) ?hd (cs := #[.int .i64 a1_0, .int .i64 a1_1, .int .i64 a1_2]) (t := 23) ?hr ?_; (case hd => rfl); (case hg => rfl); (case hr => first | (go_simp; done) | (go_simp; rfl)); intro gb166 hg w8 hbox hb; have n0_ := Aside0.mk (below_step (by repeat (first | (with_reducible first | exact HB.out | apply below_alloc | apply pw_below_drewN | apply below_drew1) | exact HB.out)) hb); have n1_ := Aside0.mk (hbox); have n2_ := Aside0.mk ((by rw [hg]; exact (below_size (by repeat (first | (with_reducible first | exact HB.out | apply below_alloc | apply pw_below_drewN | apply below_drew1) | exact HB.out))) : w.heap.size ≤ gb166)); have n3_ := Aside0.mk ((by rw [hg]; exact (below_size (by repeat (first | (with_reducible first | exact HB.out | apply below_alloc | apply pw_below_drewN | apply below_drew1) | exact HB.out))) : w.heap.size ≤ gb166)); clear HB; have HB := n0_; have BK166 := n1_; have GW166 := n2_; have GE166 := n3_; clear n0_ n1_ n2_ n3_; clear hb hbox hg; have hcz9_0 : w8.cell? ⟨gb166, 0, none⟩ = some (.int .i64 a1_0) := (blk_cell BK166.out 0).trans rfl; have hcz9_1 : w8.cell? ⟨gb166, 1, none⟩ = some (.int .i64 a1_1) := (blk_cell BK166.out 1).trans rfl; have hcz9_2 : w8.cell? ⟨gb166, 2, none⟩ = some (.int .i64 a1_2) := (blk_cell BK166.out 2).trans rfl; have hfz9_0 := blk_frozen BK166.out 0; have hfz9_1 := blk_frozen BK166.out 1; have hfz9_2 := blk_frozen BK166.out 2) | ((with_reducible refine gate_callee (f := 20) rfl ?_); refine goesL_ (some 9) rfl rfl Try.func20 (by kernel_rfl) rfl #[.agg #[.int .i64 a1_0, .int .i64 a1_1, .int .i64 a1_2]] rfl (by (try simp only [List.map_toArray, List.map_cons, List.map_nil]); first | done | rfl | (simp only [List.length_drop, List.length_take]; rfl)) ?_; (with_reducible refine (laws_toClue.calls a1_0 a1_1 a1_2 t167 t168 t169 _ A3.out).mono ?_); rintro e w10 ⟨rfl, hb⟩; refine ⟨_, rfl, ?_⟩; have n0_ := Aside0.mk (blk_below (g := gb166) (o := .cells #[.int .i64 a1_0, .int .i64 a1_1, .int .i64 a1_2] 23 (0, 0)) (by (with_reducible repeat (first | refine blk_drewN ?_ _ | refine blk_drew ?_ | refine blk_alloc ?_ _)); exact BK166.out) hb); have n1_ := Aside0.mk (below_step (by repeat (first | (with_reducible first | exact HB.out | apply below_alloc | apply pw_below_drewN | apply below_drew1 | refine below_set ?_ GE166.out) | exact HB.out)) hb); clear BK166; clear HB; have BK166 := n0_; have HB := n1_; clear n0_ n1_; (try clear hb); (try clear hb2); (try clear hk); (try clear hi)) | ((with_reducible refine gate_callee (f := 19) rfl ?_); refine goesL_ (some 10) rfl rfl Try.func19 (by kernel_rfl) rfl #[.int .i64 a0, .agg #[.int .i64 t167, .int .i64 t168, .int .i64 t169]] rfl (by (try simp only [List.map_toArray, List.map_cons, List.map_nil]); first | done | rfl | (simp only [List.length_drop, List.length_take]; rfl)) ?_; (with_reducible refine (spec_IsClue.calls a0 t167 t168 t169 t170 _ A4.out).mono ?_); rintro e w11 ⟨rfl, hb⟩; refine ⟨_, rfl, ?_⟩; have n0_ := Aside0.mk (blk_below (g := gb166) (o := .cells #[.int .i64 a1_0, .int .i64 a1_1, .int .i64 a1_2] 23 (0, 0)) (by (with_reducible repeat (first | refine blk_drewN ?_ _ | refine blk_drew ?_ | refine blk_alloc ?_ _)); exact BK166.out) hb); have n1_ := Aside0.mk (below_step (by repeat (first | (with_reducible first | exact HB.out | apply below_alloc | apply pw_below_drewN | apply below_drew1 | refine below_set ?_ GE166.out) | exact HB.out)) hb); clear BK166; clear HB; have BK166 := n0_; have HB := n1_; clear n0_ n1_; (try clear hb); (try clear hb2); (try clear hk); (try clear hi); have hcz12_0 : w11.cell? ⟨gb166, 0, none⟩ = some (.int .i64 a1_0) := (blk_cell BK166.out 0).trans rfl; have hcz12_1 : w11.cell? ⟨gb166, 1, none⟩ = some (.int .i64 a1_1) := (blk_cell BK166.out 1).trans rfl; have hcz12_2 : w11.cell? ⟨gb166, 2, none⟩ = some (.int .i64 a1_2) := (blk_cell BK166.out 2).trans rfl; have hfz12_0 := blk_frozen BK166.out 0; have hfz12_1 := blk_frozen BK166.out 1; have hfz12_2 := blk_frozen BK166.out 2) | ((with_reducible refine gate_callee (f := 20) rfl ?_); refine goesL_ (some 13) rfl rfl Try.func20 (by kernel_rfl) rfl #[.agg #[.int .i64 a1_0, .int .i64 a1_1, .int .i64 a1_2]] rfl (by (try simp only [List.map_toArray, List.map_cons, List.map_nil]); first | done | rfl | (simp only [List.length_drop, List.length_take]; rfl)) ?_; (with_reducible refine (laws_toClue.calls a1_0 a1_1 a1_2 t171 t172 t173 _ A5.out).mono ?_); rintro e w13 ⟨rfl, hb⟩; refine ⟨_, rfl, ?_⟩; have n0_ := Aside0.mk (blk_below (g := gb166) (o := .cells #[.int .i64 a1_0, .int .i64 a1_1, .int .i64 a1_2] 23 (0, 0)) (by (with_reducible repeat (first | refine blk_drewN ?_ _ | refine blk_drew ?_ | refine blk_alloc ?_ _)); exact BK166.out) hb); have n1_ := Aside0.mk (below_step (by repeat (first | (with_reducible first | exact HB.out | apply below_alloc | apply pw_below_drewN | apply below_drew1 | refine below_set ?_ GE166.out) | exact HB.out)) hb); clear BK166; clear HB; have BK166 := n0_; have HB := n1_; clear n0_ n1_; (try clear hb); (try clear hb2); (try clear hk); (try clear hi)) | ((with_reducible refine gate_callee (f := 21) rfl ?_); refine goesL_ (some 14) rfl rfl Try.func21 (by kernel_rfl) rfl #[.int .i64 a0, .agg #[.int .i64 t171, .int .i64 t172, .int .i64 t173]] rfl (by (try simp only [List.map_toArray, List.map_cons, List.map_nil]); first | done | rfl | (simp only [List.length_drop, List.length_take]; rfl)) ?_; (with_reducible refine (impl_IsClue.calls a0 t171 t172 t173 t174 _ A6.out).mono ?_); rintro e w14 ⟨rfl, hb⟩; refine ⟨_, rfl, ?_⟩; have n0_ := Aside0.mk (blk_below (g := gb166) (o := .cells #[.int .i64 a1_0, .int .i64 a1_1, .int .i64 a1_2] 23 (0, 0)) (by (with_reducible repeat (first | refine blk_drewN ?_ _ | refine blk_drew ?_ | refine blk_alloc ?_ _)); exact BK166.out) hb); have n1_ := Aside0.mk (below_step (by repeat (first | (with_reducible first | exact HB.out | apply below_alloc | apply pw_below_drewN | apply below_drew1 | refine below_set ?_ GE166.out) | exact HB.out)) hb); clear BK166; clear HB; have BK166 := n0_; have HB := n1_; clear n0_ n1_; (try clear hb); (try clear hb2); (try clear hk); (try clear hi)))
    go_ret
    exact ⟨by first | rfl | (simp [errW_none, errW_some] <;> rfl) | (simp [*, errW_none, errW_some] <;> rfl), by repeat (first | (with_reducible first | exact HB.out | apply below_alloc | apply pw_below_drewN | apply below_drew1 | refine below_set ?_ GE166.out) | exact HB.out)⟩
  · rw [if_neg c7] at H
    have c7b0 : (t174 != t170) = false := by simpa using c7
    (try (have c7b1 : decide (t174 = t170) = true := by simpa using c7))
    (try (have c7b2 : (t174 == t170) = true := by simpa using c7))
    clear c7
    obtain rfl := Option.some.inj H
    go_enter Try.func3, Try.ntmps3
    go_wp2_with (first | ((with_reducible refine gate_dst (N := 3) rfl ?_); refine box_event ?hg (N := 3) ?hd (cs := #[.int .i64 a1_0, .int .i64 a1_1, .int .i64 a1_2]) (t := 23) ?hr ?_; (case hd => rfl); (case hg => rfl); (case hr => first | (go_simp; done) | (go_simp; rfl)); intro gb166 hg w15 hbox hb; have n0_ := Aside0.mk (below_step (by repeat (first | (with_reducible first | exact HB.out | apply below_alloc | apply pw_below_drewN | apply below_drew1) | exact HB.out)) hb); have n1_ := Aside0.mk (hbox); have n2_ := Aside0.mk ((by rw [hg]; exact (below_size (by repeat (first | (with_reducible first | exact HB.out | apply below_alloc | apply pw_below_drewN | apply below_drew1) | exact HB.out))) : w.heap.size ≤ gb166)); have n3_ := Aside0.mk ((by rw [hg]; exact (below_size (by repeat (first | (with_reducible first | exact HB.out | apply below_alloc | apply pw_below_drewN | apply below_drew1) | exact HB.out))) : w.heap.size ≤ gb166)); clear HB; have HB := n0_; have BK166 := n1_; have GW166 := n2_; have GE166 := n3_; clear n0_ n1_ n2_ n3_; clear hb hbox hg; have hcz16_0 : w15.cell? ⟨gb166, 0, none⟩ = some (.int .i64 a1_0) := (blk_cell BK166.out 0).trans rfl; have hcz16_1 : w15.cell? ⟨gb166, 1, none⟩ = some (.int .i64 a1_1) := (blk_cell BK166.out 1).trans rfl; have hcz16_2 : w15.cell? ⟨gb166, 2, none⟩ = some (.int .i64 a1_2) := (blk_cell BK166.out 2).trans rfl; have hfz16_0 := blk_frozen BK166.out 0; have hfz16_1 := blk_frozen BK166.out 1; have hfz16_2 := blk_frozen BK166.out 2) | ((with_reducible refine gate_callee (f := 20) rfl ?_); refine goesL_ (some 9) rfl rfl Try.func20 (by kernel_rfl) rfl #[.agg #[.int .i64 a1_0, .int .i64 a1_1, .int .i64 a1_2]] rfl (by (try simp only [List.map_toArray, List.map_cons, List.map_nil]); first | done | rfl | (simp only [List.length_drop, List.length_take]; rfl)) ?_; (with_reducible refine (laws_toClue.calls a1_0 a1_1 a1_2 t167 t168 t169 _ A3.out).mono ?_); rintro e w17 ⟨rfl, hb⟩; refine ⟨_, rfl, ?_⟩; have n0_ := Aside0.mk (blk_below (g := gb166) (o := .cells #[.int .i64 a1_0, .int .i64 a1_1, .int .i64 a1_2] 23 (0, 0)) (by (with_reducible repeat (first | refine blk_drewN ?_ _ | refine blk_drew ?_ | refine blk_alloc ?_ _)); exact BK166.out) hb); have n1_ := Aside0.mk (below_step (by repeat (first | (with_reducible first | exact HB.out | apply below_alloc | apply pw_below_drewN | apply below_drew1 | refine below_set ?_ GE166.out) | exact HB.out)) hb); clear BK166; clear HB; have BK166 := n0_; have HB := n1_; clear n0_ n1_; (try clear hb); (try clear hb2); (try clear hk); (try clear hi)) | ((with_reducible refine gate_callee (f := 19) rfl ?_); refine goesL_ (some 10) rfl rfl Try.func19 (by kernel_rfl) rfl #[.int .i64 a0, .agg #[.int .i64 t167, .int .i64 t168, .int .i64 t169]] rfl (by (try simp only [List.map_toArray, List.map_cons, List.map_nil]); first | done | rfl | (simp only [List.length_drop, List.length_take]; rfl)) ?_; (with_reducible refine (spec_IsClue.calls a0 t167 t168 t169 t170 _ A4.out).mono ?_); rintro e w18 ⟨rfl, hb⟩; refine ⟨_, rfl, ?_⟩; have n0_ := Aside0.mk (blk_below (g := gb166) (o := .cells #[.int .i64 a1_0, .int .i64 a1_1, .int .i64 a1_2] 23 (0, 0)) (by (with_reducible repeat (first | refine blk_drewN ?_ _ | refine blk_drew ?_ | refine blk_alloc ?_ _)); exact BK166.out) hb); have n1_ := Aside0.mk (below_step (by repeat (first | (with_reducible first | exact HB.out | apply below_alloc | apply pw_below_drewN | apply below_drew1 | refine below_set ?_ GE166.out) | exact HB.out)) hb); clear BK166; clear HB; have BK166 := n0_; have HB := n1_; clear n0_ n1_; (try clear hb); (try clear hb2); (try clear hk); (try clear hi); have hcz19_0 : w18.cell? ⟨gb166, 0, none⟩ = some (.int .i64 a1_0) := (blk_cell BK166.out 0).trans rfl; have hcz19_1 : w18.cell? ⟨gb166, 1, none⟩ = some (.int .i64 a1_1) := (blk_cell BK166.out 1).trans rfl; have hcz19_2 : w18.cell? ⟨gb166, 2, none⟩ = some (.int .i64 a1_2) := (blk_cell BK166.out 2).trans rfl; have hfz19_0 := blk_frozen BK166.out 0; have hfz19_1 := blk_frozen BK166.out 1; have hfz19_2 := blk_frozen BK166.out 2) | ((with_reducible refine gate_callee (f := 20) rfl ?_); refine goesL_ (some 13) rfl rfl Try.func20 (by kernel_rfl) rfl #[.agg #[.int .i64 a1_0, .int .i64 a1_1, .int .i64 a1_2]] rfl (by (try simp only [List.map_toArray, List.map_cons, List.map_nil]); first | done | rfl | (simp only [List.length_drop, List.length_take]; rfl)) ?_; (with_reducible refine (laws_toClue.calls a1_0 a1_1 a1_2 t171 t172 t173 _ A5.out).mono ?_); rintro e w20 ⟨rfl, hb⟩; refine ⟨_, rfl, ?_⟩; have n0_ := Aside0.mk (blk_below (g := gb166) (o := .cells #[.int .i64 a1_0, .int .i64 a1_1, .int .i64 a1_2] 23 (0, 0)) (by (with_reducible repeat (first | refine blk_drewN ?_ _ | refine blk_drew ?_ | refine blk_alloc ?_ _)); exact BK166.out) hb); have n1_ := Aside0.mk (below_step (by repeat (first | (with_reducible first | exact HB.out | apply below_alloc | apply pw_below_drewN | apply below_drew1 | refine below_set ?_ GE166.out) | exact HB.out)) hb); clear BK166; clear HB; have BK166 := n0_; have HB := n1_; clear n0_ n1_; (try clear hb); (try clear hb2); (try clear hk); (try clear hi)) | ((with_reducible refine gate_callee (f := 21) rfl ?_); refine goesL_ (some 14) rfl rfl Try.func21 (by kernel_rfl) rfl #[.int .i64 a0, .agg #[.int .i64 t171, .int .i64 t172, .int .i64 t173]] rfl (by (try simp only [List.map_toArray, List.map_cons, List.map_nil]); first | done | rfl | (simp only [List.length_drop, List.length_take]; rfl)) ?_; (with_reducible refine (impl_IsClue.calls a0 t171 t172 t173 t174 _ A6.out).mono ?_); rintro e w21 ⟨rfl, hb⟩; refine ⟨_, rfl, ?_⟩; have n0_ := Aside0.mk (blk_below (g := gb166) (o := .cells #[.int .i64 a1_0, .int .i64 a1_1, .int .i64 a1_2] 23 (0, 0)) (by (with_reducible repeat (first | refine blk_drewN ?_ _ | refine blk_drew ?_ | refine blk_alloc ?_ _)); exact BK166.out) hb); have n1_ := Aside0.mk (below_step (by repeat (first | (with_reducible first | exact HB.out | apply below_alloc | apply pw_below_drewN | apply below_drew1 | refine below_set ?_ GE166.out) | exact HB.out)) hb); clear BK166; clear HB; have BK166 := n0_; have HB := n1_; clear n0_ n1_; (try clear hb); (try clear hb2); (try clear hk); (try clear hi)))
    go_ret
    exact ⟨by first | rfl | (simp [errW_none, errW_some] <;> rfl) | (simp [*, errW_none, errW_some] <;> rfl), by repeat (first | (with_reducible first | exact HB.out | apply below_alloc | apply pw_below_drewN | apply below_drew1 | refine below_set ?_ GE166.out) | exact HB.out)⟩

end Go.Proofs.Ytbkplokoomodcaa.Q
