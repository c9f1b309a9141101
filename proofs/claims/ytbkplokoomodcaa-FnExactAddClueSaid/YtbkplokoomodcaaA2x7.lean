/- Plain Lean functions with the answers of Go functions, and proofs of it: printed by a program of this session (pr.py) over the kit's print, with hand-written parts. -/
import Derived.Test.YtbkplokoomodcaaA2x0
import Derived.Test.YtbkplokoomodcaaA2x1
import Derived.Test.YtbkplokoomodcaaA2x2
import Derived.Test.YtbkplokoomodcaaA2x4
import Derived.Test.YtbkplokoomodcaaA2x5
import Derived.Test.YtbkplokoomodcaaA2x6
namespace Go.Proofs.Ytbkplokoomodcaa.A2
open Go.RowKit Go.Proofs.YtbkplokoomodcaaW.PrintWords Go.Proofs.YtbkplokoomodcaaW.PrintLast Go.Proofs.YtbkplokoomodcaaW.PrintMore
attribute [local go_sem] max2_int min2_int max_two min_two max_three min_three max_four min_four   -- for this text's walks alone
set_option linter.unusedVariables false
set_option linter.unusedSimpArgs false

-- FOR laws.FnExactAddClue
theorem C_cut {W : World} {A : Option Addr} {F L : List S25} {n : Nat} (h : Kd.C k25 W A F.length F) (hL : F.take n = L) (hLl : L.length = n) (h2 : L.length ≤ F.length) : Kd.C k25 W A L.length L := by
  have h_ := Hw.C_take h L.length h2
  rw [hLl, hL, ← hLl] at h_
  exact h_
theorem toTrue_ok (F F' L : List S25) (l0 : List S23) (W : World) (A : Option Addr) (n c : Nat) (h0 : l0.length = 0 → F' = []) (h2 : l0.length ≠ 0 → F' = F) (hL : F.take l0.length = L) (hLl : L.length = l0.length) (hLF : L.length ≤ F.length) (q1 : F'.length ≤ c) (q2 : Kd.C k25 W A F'.length F') (hn : n = l0.length ∨ F' = [] ∧ n = 0) :
    n = L.length ∧ Kd.C k25 W A L.length L ∧ L.length ≤ c := by
  by_cases hz : l0.length = 0
  · have h_ := h0 hz
    subst h_
    have hLn : L = [] := List.eq_nil_of_length_eq_zero (hLl.trans hz)
    subst hLn
    refine ⟨?_, q2, Nat.zero_le _⟩
    rcases hn with h_ | ⟨_, h_⟩
    · rw [h_, hz]; rfl
    · exact h_
  · have h_ := h2 hz
    subst h_
    refine ⟨?_, C_cut q2 hL hLl hLF, Nat.le_trans hLF q1⟩
    rcases hn with h_ | ⟨h_, h3_⟩
    · exact h_.trans hLl.symm
    · rw [h3_, ← hL, h_]; simp
set_option maxHeartbeats 8000000 in
set_option maxRecDepth 100000 in
theorem hand_FnExactAddClue (k : Nat) (a0_0 : Int) (A0_1 : Option Addr) (c0_1 : Nat) (l0_1 : List S23) (a1_0 a1_1 a1_2 : Int) (w : World) (hr0_1 : Kd.C k23 w A0_1 l0_1.length l0_1) (hc0_1 : l0_1.length ≤ c0_1)
    (F F' L Lx : List S25) (t : Int) (r1 : Int) (G Gm : List S25) (r2 : Bool) (kx m : Int) (s : Int) (hs : laws_szPuzzle.f a0_0 l0_1 1000000 = some s) (hs0 : 0 ≤ s)
    (hF : full_toClueS.f k l0_1 false = some F) (hL : F.take l0_1.length = L) (hLl : L.length = l0_1.length) (hF' : full_toClueS.f k l0_1 true = some F') (hF2 : l0_1.length ≠ 0 → F' = F) (hF0 : l0_1.length = 0 → F' = [])
    (ht : laws_roomBehind.f (l0_1.length : Int) = some t) (hn : wrap64 ((l0_1.length : Int) + t) = (F.length : Int)) (he : laws_eqClueS.f k F F = some true)
    (h1 : spec_AddClue.f k a0_0 L a1_0 a1_1 a1_2 = some (r1, G, r2)) (h2 : impl_AddClue.f a0_0 L a1_0 a1_1 a1_2 = some (r1, G, r2))
    (hq : laws_eqPuzzle.f k r1 G r1 G = some true) (hmx : laws_markPuzzle.f k a0_0 L 101 = some (kx, Lx)) (hkx : 0 ≤ kx) (hmg : laws_markPuzzle.f k r1 G 101 = some (m, Gm)) (hhg : laws_heldPuzzle.f k r1 Gm 101 = some m) (hm0 : 0 ≤ m) (hGm : Gm.length = G.length) :
    Calls Try.prog 6 #[.agg #[.int .i64 a0_0, .slice A0_1 l0_1.length c0_1], .agg #[.int .i64 a1_0, .int .i64 a1_1, .int .i64 a1_2]] w fun e w' => e = .returned (.bool true) ∧ Below w.heap.size w w' := by
  have HR := Aside0.mk hr0_1
  have HC := Aside0.mk hc0_1
  have H0 := Aside0.mk hs
  have HF := Aside0.mk hF
  have HF' := Aside0.mk hF'
  have HT := Aside0.mk ht
  have HN := Aside0.mk hn
  have HE := Aside0.mk he
  have H1 := Aside0.mk h1
  have H2 := Aside0.mk h2
  have HF2 := Aside0.mk hF2
  have HF0 := Aside0.mk hF0
  have HL := Aside0.mk hL
  have HLl := Aside0.mk hLl
  have HQ := Aside0.mk hq
  have HMX := Aside0.mk hmx
  have HMG := Aside0.mk hmg
  have HHG := Aside0.mk hhg
  have HGm := Aside0.mk hGm
  have hs1 : decide (s < 0) = false := decide_eq_false (by omega)
  have dk : decide (kx < 0) = false := decide_eq_false (by omega)
  have dm : decide (m < 0) = false := decide_eq_false (by omega)
  have HTC : Aside0 (laws_toClue.f a1_0 a1_1 a1_2 = some (a1_0, a1_1, a1_2)) := ⟨rfl⟩
  clear hq hmx hkx hmg hhg hm0 hGm hr0_1 hc0_1 hs hF hF' ht hn he h1 h2 hF2 hF0 hL hLl hs0
  go_enter Try.func6, Try.ntmps6
  go_wp2_with fail
  have HB0 : Aside0 (Below w.heap.size w ((w.alloc (.cells #[.int .i64 a0_0, .slice A0_1 l0_1.length c0_1] 30 (0, 0))).alloc (.cells #[.int .i64 a1_0, .int .i64 a1_1, .int .i64 a1_2] 23 (0, 0)))) := ⟨below_alloc (below_alloc (Below.refl _ _) _) _⟩
  have BK0 : Aside0 (((w.alloc (.cells #[.int .i64 a0_0, .slice A0_1 l0_1.length c0_1] 30 (0, 0))).alloc (.cells #[.int .i64 a1_0, .int .i64 a1_1, .int .i64 a1_2] 23 (0, 0))).heap[w.heap.size]? = some (.cells #[.int .i64 a0_0, .slice A0_1 l0_1.length c0_1] 30 (0, 0))) := ⟨blk_alloc (blk_new _ _) _⟩
  have BC0 : Aside0 (((w.alloc (.cells #[.int .i64 a0_0, .slice A0_1 l0_1.length c0_1] 30 (0, 0))).alloc (.cells #[.int .i64 a1_0, .int .i64 a1_1, .int .i64 a1_2] 23 (0, 0))).heap[w.heap.size + 1]? = some (.cells #[.int .i64 a1_0, .int .i64 a1_1, .int .i64 a1_2] 23 (0, 0))) := ⟨by
    have h_ := blk_new (w.alloc (.cells #[.int .i64 a0_0, .slice A0_1 l0_1.length c0_1] 30 (0, 0))) (.cells #[.int .i64 a1_0, .int .i64 a1_1, .int .i64 a1_2] 23 (0, 0))
    rwa [World.size_alloc] at h_⟩
  refine (laws_szPuzzle.calls a0_0 _ _ l0_1 _ _ _ (Kd.C_below HR.out HB0.out) HC.out H0.out).mono ?_
  rintro e w1 ⟨rfl, hb⟩
  have HB1 : Aside0 (Below w.heap.size w w1) := ⟨below_step HB0.out hb⟩
  have BK1 : Aside0 (w1.heap[w.heap.size]? = some (.cells #[.int .i64 a0_0, .slice A0_1 l0_1.length c0_1] 30 (0, 0))) := ⟨blk_below BK0.out hb⟩
  have BC1 : Aside0 (w1.heap[w.heap.size + 1]? = some (.cells #[.int .i64 a1_0, .int .i64 a1_1, .int .i64 a1_2] 23 (0, 0))) := ⟨blk_below BC0.out hb⟩
  clear HB0 BK0 BC0 hb
  have ck10 := (blk_cell BK1.out 0).trans rfl
  have ck11 := (blk_cell BK1.out 1).trans rfl
  have cc10 := (blk_cell BC1.out 0).trans rfl
  have cc11 := (blk_cell BC1.out 1).trans rfl
  have cc12 := (blk_cell BC1.out 2).trans rfl
  go_wp2_with fail
  have hNC : w.heap.size + 1 < w1.heap.size := blk_lt BC1.out
  have HNC := Aside0.mk hNC
  clear hNC
  have HL2 : Aside0 (L.length ≤ F.length) := ⟨by rw [← HL.out, List.length_take]; omega⟩
  refine start_ (n := 11) (S := fun w' => w'.cell? ⟨w.heap.size, 0, none⟩ = some (.int .i64 a0_0) ∧ w'.cell? ⟨w.heap.size, 1, none⟩ = some (.slice A0_1 l0_1.length c0_1) ∧ w'.cell? ⟨w.heap.size + 1, 0, none⟩ = some (.int .i64 a1_0) ∧ w'.cell? ⟨w.heap.size + 1, 1, none⟩ = some (.int .i64 a1_1) ∧ w'.cell? ⟨w.heap.size + 1, 2, none⟩ = some (.int .i64 a1_2)) (ds := []) #[false, false, false, false, false, false, false, false, false, false, false] (by kernel_rfl) rfl rfl ⟨(blk_cell (blk_drew BK1.out) 0).trans rfl, (blk_cell (blk_drew BK1.out) 1).trans rfl, (blk_cell (blk_drew BC1.out) 0).trans rfl, (blk_cell (blk_drew BC1.out) 1).trans rfl, (blk_cell (blk_drew BC1.out) 2).trans rfl⟩ (fun hHeld => ?_)
  refine take_ (i := 0) (N := some 22) (v := ?_) (a' := ?_) #[true, false, false, false, false, false, false, false, false, false, false] rfl rfl (by kernel_rfl) (fun _ _ _ h => h) (Or.inl ⟨by rfl, ?_⟩) hHeld ?_ ?_
  rotate_left
  · rintro w' ⟨s0, s1, s2, s3, s4⟩
    go_simp
    with_reducible rfl
  rotate_left
  · simp only [Act.put, List.setIfInBounds_toArray, List.set_cons_zero, List.set_cons_succ, i64_w, i32_w]
    rfl
  refine take_ (i := 2) (N := some 24) (v := ?_) (a' := ?_) #[true, false, true, false, false, false, false, false, false, false, false] rfl rfl (by kernel_rfl) (fun _ _ _ h => h) (Or.inl ⟨by rfl, ?_⟩) hHeld ?_ ?_
  rotate_left
  · rintro w' ⟨s0, s1, s2, s3, s4⟩
    go_simp
    with_reducible rfl
  rotate_left
  · simp only [Act.put, List.setIfInBounds_toArray, List.set_cons_zero, List.set_cons_succ, i64_w, i32_w]
    rfl
  refine join_ (σ := Option Addr × Nat × Option Addr × Nat × Nat) 2 #[true, true, true, true, true, true, true, true, true, false, false] (fun s => [(23, .agg #[.int .i64 a0_0, .slice s.1 L.length s.2.1]), (25, .agg #[.int .i64 a1_0, .int .i64 a1_1, .int .i64 a1_2]), (26, .tuple #[.agg #[.int .i64 r1, .slice s.2.2.1 G.length s.2.2.2.1], .bool r2]), (21, .tuple #[.agg #[.int .i64 r1, .slice s.2.2.1 G.length s.2.2.2.1], .bool r2]), (27, .agg #[.int .i64 r1, .slice s.2.2.1 G.length s.2.2.2.1]), (28, .bool r2), (6, .pointer (some ⟨s.2.2.2.2, 0, none⟩))]) (fun s w' => Aside0 (Below w.heap.size w w') ∧ Aside0 (w'.heap[w.heap.size]? = some (.cells #[.int .i64 a0_0, .slice A0_1 l0_1.length c0_1] 30 (0, 0))) ∧ Aside0 (w'.heap[w.heap.size + 1]? = some (.cells #[.int .i64 a1_0, .int .i64 a1_1, .int .i64 a1_2] 23 (0, 0))) ∧ Aside0 (Kd.R k25 25 w' w.heap.size (fun k_ => k_ < w'.heap.size ∧ k_ ≠ s.2.2.2.2) (.slice s.2.2.1 G.length s.2.2.2.1) G) ∧ Aside0 (w'.heap[s.2.2.2.2]? = some (.cells #[.int .i64 0, .slice none 0 0] 35 (0, 0))) ∧ Aside0 (w1.heap.size ≤ s.2.2.2.2)) ?_ ?_
  rotate_left
  · intro hCont
    refine two_ (i := 1) (j := 8) (Ni := some 23) (Nj := some 6) #[true, true, true, false, false, false, false, false, false, false, false] #[true, false, true, false, false, false, false, false, true, false, false] rfl rfl rfl rfl (by kernel_rfl) (by decide) (by decide) (fun K hK => ?_) (fun K hK => ?_)
    · skip
      refine goes_ Try.func24 (by kernel_rfl) rfl #[.agg #[.int .i64 a0_0, .slice A0_1 l0_1.length c0_1], .bool false] (by rfl) rfl rfl (by simp only [List.map_toArray, List.map_cons, List.map_nil]; rfl) ?_
      with_reducible refine (full_toPuzzle k a0_0 _ _ l0_1 false F _ (Kd.C_below HR.out (below_drew1 HB1.out)) HC.out HF.out).mono ?_
      rintro e w5_toF ⟨AT, nT, cT, rfl, hRT, hnT, hb⟩
      refine ⟨_, rfl, ?_⟩
      obtain rfl : nT = L.length := (by rcases hnT with h_ | ⟨h_, h2_⟩; exact h_.trans HLl.out.symm; exact h2_.trans (by rw [← HL.out, h_]; simp))
      have hqT := Kd.R_reads' hRT
      have HCT : Aside0 (Kd.C k25 w5_toF AT L.length L) := ⟨C_cut hqT.2.2 HL.out HLl.out HL2.out⟩
      have HCT' : Aside0 (L.length ≤ cT) := ⟨Nat.le_trans HL2.out hqT.2.1⟩
      have HB5_toF : Aside0 (Below w.heap.size w w5_toF) := ⟨below_step (below_drew1 HB1.out) hb⟩
      have BK5_toF : Aside0 (w5_toF.heap[w.heap.size]? = some (.cells #[.int .i64 a0_0, .slice A0_1 l0_1.length c0_1] 30 (0, 0))) := ⟨blk_below (blk_drew BK1.out) hb⟩
      have BC5_toF : Aside0 (w5_toF.heap[w.heap.size + 1]? = some (.cells #[.int .i64 a1_0, .int .i64 a1_1, .int .i64 a1_2] 23 (0, 0))) := ⟨blk_below (blk_drew BC1.out) hb⟩
      have SZ5_toF : Aside0 (w1.heap.size ≤ w5_toF.heap.size) := ⟨Nat.le_trans (Nat.le_refl w1.heap.size) hb.size⟩
      clear hb hRT hnT hqT
      refine hK.out _ _ ⟨(blk_cell BK5_toF.out 0).trans rfl, (blk_cell BK5_toF.out 1).trans rfl, (blk_cell BC5_toF.out 0).trans rfl, (blk_cell BC5_toF.out 1).trans rfl, (blk_cell BC5_toF.out 2).trans rfl⟩ (fun hHeld => ?_)
      clear hK K
      refine norm_ (a' := ?_) ?_ ?_
      rotate_left
      · show Act.put _ (some 23) _ = _
        simp only [Act.put, List.setIfInBounds_toArray, List.set_cons_zero, List.set_cons_succ, i64_w, i32_w]
        rfl
      refine two_ (i := 3) (j := 8) (Ni := some 25) (Nj := some 6) #[true, true, true, true, false, false, false, false, false, false, false] #[true, true, true, false, false, false, false, false, true, false, false] rfl rfl rfl rfl (by kernel_rfl) (by decide) (by decide) (fun K hK => ?_) (fun K hK => ?_)
      · skip
        refine goes_ Try.func20 (by kernel_rfl) rfl #[.agg #[.int .i64 a1_0, .int .i64 a1_1, .int .i64 a1_2]] (by rfl) rfl rfl (by simp only [List.map_toArray, List.map_cons, List.map_nil]; rfl) ?_
        with_reducible refine (laws_toClue.calls a1_0 a1_1 a1_2 a1_0 a1_1 a1_2 _ HTC.out).mono ?_
        rintro e w5_clue ⟨rfl, hb⟩
        refine ⟨_, rfl, ?_⟩
        have HCT := Aside0.mk (Kd.C_below HCT.out hb)
        have HB5_clue : Aside0 (Below w.heap.size w w5_clue) := ⟨below_step HB5_toF.out hb⟩
        have BK5_clue : Aside0 (w5_clue.heap[w.heap.size]? = some (.cells #[.int .i64 a0_0, .slice A0_1 l0_1.length c0_1] 30 (0, 0))) := ⟨blk_below BK5_toF.out hb⟩
        have BC5_clue : Aside0 (w5_clue.heap[w.heap.size + 1]? = some (.cells #[.int .i64 a1_0, .int .i64 a1_1, .int .i64 a1_2] 23 (0, 0))) := ⟨blk_below BC5_toF.out hb⟩
        have SZ5_clue : Aside0 (w1.heap.size ≤ w5_clue.heap.size) := ⟨Nat.le_trans SZ5_toF.out hb.size⟩
        clear hb
        refine hK.out _ _ ⟨(blk_cell BK5_clue.out 0).trans rfl, (blk_cell BK5_clue.out 1).trans rfl, (blk_cell BC5_clue.out 0).trans rfl, (blk_cell BC5_clue.out 1).trans rfl, (blk_cell BC5_clue.out 2).trans rfl⟩ (fun hHeld => ?_)
        clear hK K
        refine norm_ (a' := ?_) ?_ ?_
        rotate_left
        · show Act.put _ (some 25) _ = _
          simp only [Act.put, List.setIfInBounds_toArray, List.set_cons_zero, List.set_cons_succ, i64_w, i32_w]
          rfl
        refine two_ (i := 4) (j := 8) (Ni := some 26) (Nj := some 6) #[true, true, true, true, true, false, false, false, false, false, false] #[true, true, true, true, false, false, false, false, true, false, false] rfl rfl rfl rfl (by kernel_rfl) (by decide) (by decide) (fun K hK => ?_) (fun K hK => ?_)
        · skip
          refine goes_ Try.func29 (by kernel_rfl) rfl #[.agg #[.int .i64 a0_0, .slice AT L.length cT], .agg #[.int .i64 a1_0, .int .i64 a1_1, .int .i64 a1_2]] (by rfl) rfl rfl (by simp only [List.map_toArray, List.map_cons, List.map_nil]; rfl) ?_
          with_reducible refine (spec_AddClue.calls k a0_0 _ _ L a1_0 a1_1 a1_2 r1 G r2 _ HCT.out HCT'.out H1.out).mono ?_
          rintro e w5_spec ⟨vR, rfl, ho, hb⟩
          obtain ⟨A3, c3, rfl⟩ := Kd.R_slice ho
          refine ⟨_, rfl, ?_⟩
          have RW5_spec := Aside0.mk (Kd.R_lower (Kd.R_bound ho) (below_size HB5_clue.out))
          have HB5_spec : Aside0 (Below w.heap.size w w5_spec) := ⟨below_step HB5_clue.out hb⟩
          have BK5_spec : Aside0 (w5_spec.heap[w.heap.size]? = some (.cells #[.int .i64 a0_0, .slice A0_1 l0_1.length c0_1] 30 (0, 0))) := ⟨blk_below BK5_clue.out hb⟩
          have BC5_spec : Aside0 (w5_spec.heap[w.heap.size + 1]? = some (.cells #[.int .i64 a1_0, .int .i64 a1_1, .int .i64 a1_2] 23 (0, 0))) := ⟨blk_below BC5_clue.out hb⟩
          have SZ5_spec : Aside0 (w1.heap.size ≤ w5_spec.heap.size) := ⟨Nat.le_trans SZ5_clue.out hb.size⟩
          clear hb ho
          refine hK.out _ _ ⟨(blk_cell BK5_spec.out 0).trans rfl, (blk_cell BK5_spec.out 1).trans rfl, (blk_cell BC5_spec.out 0).trans rfl, (blk_cell BC5_spec.out 1).trans rfl, (blk_cell BC5_spec.out 2).trans rfl⟩ (fun hHeld => ?_)
          clear hK K
          refine norm_ (a' := ?_) ?_ ?_
          rotate_left
          · show Act.put _ (some 26) _ = _
            simp only [Act.put, List.setIfInBounds_toArray, List.set_cons_zero, List.set_cons_succ, i64_w, i32_w]
            rfl
          refine pure_ (i := 5) (N := some 21) (v := ?_) (a' := ?_) #[true, true, true, true, true, true, false, false, false, false, false] rfl rfl (by kernel_rfl) (fun _ _ _ h => h) (Or.inl ⟨by rfl, ?_⟩) ?_ ?_
          rotate_left
          · intro w'
            go_simp
            with_reducible rfl
          rotate_left
          · simp only [Act.put, List.setIfInBounds_toArray, List.set_cons_zero, List.set_cons_succ, i64_w, i32_w]
            rfl
          refine pure_ (i := 6) (N := some 27) (v := ?_) (a' := ?_) #[true, true, true, true, true, true, true, false, false, false, false] rfl rfl (by kernel_rfl) (fun _ _ _ h => h) (Or.inl ⟨by rfl, ?_⟩) ?_ ?_
          rotate_left
          · intro w'
            go_simp
            with_reducible rfl
          rotate_left
          · simp only [Act.put, List.setIfInBounds_toArray, List.set_cons_zero, List.set_cons_succ, i64_w, i32_w]
            rfl
          refine pure_ (i := 7) (N := some 28) (v := ?_) (a' := ?_) #[true, true, true, true, true, true, true, true, false, false, false] rfl rfl (by kernel_rfl) (fun _ _ _ h => h) (Or.inl ⟨by rfl, ?_⟩) ?_ ?_
          rotate_left
          · intro w'
            go_simp
            with_reducible rfl
          rotate_left
          · simp only [Act.put, List.setIfInBounds_toArray, List.set_cons_zero, List.set_cons_succ, i64_w, i32_w]
            rfl
          refine one_ (i := 8) (N := some 6) #[true, true, true, true, true, true, true, true, true, false, false] rfl rfl (by kernel_rfl) (by decide) (fun K hK => ?_)
          refine value_ (w1 := ?_) (v := ?_) (by rfl) rfl ?_ ?_
          rotate_left 2
          · go_simp
            constructor
            · rfl
            · rfl
          refine hK.out _ _ ⟨(blk_cell (blk_alloc BK5_spec.out _) 0).trans rfl, (blk_cell (blk_alloc BK5_spec.out _) 1).trans rfl, (blk_cell (blk_alloc BC5_spec.out _) 0).trans rfl, (blk_cell (blk_alloc BC5_spec.out _) 1).trans rfl, (blk_cell (blk_alloc BC5_spec.out _) 2).trans rfl⟩ (fun hHeld => ?_)
          clear hK K
          refine norm_ (a' := ?_) ?_ ?_
          rotate_left
          · show Act.put _ (some 6) _ = _
            simp only [Act.put, List.setIfInBounds_toArray, List.set_cons_zero, List.set_cons_succ, i64_w, i32_w]
            rfl
          exact norm_ (by simp only [putAll, Act.put, List.setIfInBounds_toArray, List.set_cons_zero, List.set_cons_succ]) (hCont (AT, cT, A3, c3, (w5_spec).heap.size) _ ⟨⟨(below_alloc HB5_spec.out _)⟩, ⟨(blk_alloc BK5_spec.out _)⟩, ⟨(blk_alloc BC5_spec.out _)⟩, ⟨(Kd.R_mono (Kd.R_bound (Kd.R_types (Kd.R_alloc RW5_spec.out _) (blk_new _ _) (by decide))) (fun k_ hk => ⟨hk.2.2.1, hk.1.2⟩))⟩, ⟨(blk_new _ _)⟩, ⟨SZ5_spec.out⟩⟩)
        · skip
          refine value_ (w1 := ?_) (v := ?_) (by rfl) rfl ?_ ?_
          rotate_left 2
          · go_simp
            constructor
            · rfl
            · rfl
          refine hK.out _ _ ⟨(blk_cell (blk_alloc BK5_clue.out _) 0).trans rfl, (blk_cell (blk_alloc BK5_clue.out _) 1).trans rfl, (blk_cell (blk_alloc BC5_clue.out _) 0).trans rfl, (blk_cell (blk_alloc BC5_clue.out _) 1).trans rfl, (blk_cell (blk_alloc BC5_clue.out _) 2).trans rfl⟩ (fun hHeld => ?_)
          clear hK K
          refine norm_ (a' := ?_) ?_ ?_
          rotate_left
          · show Act.put _ (some 6) _ = _
            simp only [Act.put, List.setIfInBounds_toArray, List.set_cons_zero, List.set_cons_succ, i64_w, i32_w]
            rfl
          refine one_ (i := 4) (N := some 26) #[true, true, true, true, true, false, false, false, true, false, false] rfl rfl (by kernel_rfl) (by decide) (fun K hK => ?_)
          refine goes_ Try.func29 (by kernel_rfl) rfl #[.agg #[.int .i64 a0_0, .slice AT L.length cT], .agg #[.int .i64 a1_0, .int .i64 a1_1, .int .i64 a1_2]] (by rfl) rfl rfl (by simp only [List.map_toArray, List.map_cons, List.map_nil]; rfl) ?_
          with_reducible refine (spec_AddClue.calls k a0_0 _ _ L a1_0 a1_1 a1_2 r1 G r2 _ (Kd.C_alloc HCT.out _) HCT'.out H1.out).mono ?_
          rintro e w5_spec ⟨vR, rfl, ho, hb⟩
          obtain ⟨A3, c3, rfl⟩ := Kd.R_slice ho
          refine ⟨_, rfl, ?_⟩
          have RW5_spec := Aside0.mk (Kd.R_lower (Kd.R_bound ho) (below_size (below_alloc HB5_clue.out _)))
          have HB5_spec : Aside0 (Below w.heap.size w w5_spec) := ⟨below_step (below_alloc HB5_clue.out _) hb⟩
          have BK5_spec : Aside0 (w5_spec.heap[w.heap.size]? = some (.cells #[.int .i64 a0_0, .slice A0_1 l0_1.length c0_1] 30 (0, 0))) := ⟨blk_below (blk_alloc BK5_clue.out _) hb⟩
          have BC5_spec : Aside0 (w5_spec.heap[w.heap.size + 1]? = some (.cells #[.int .i64 a1_0, .int .i64 a1_1, .int .i64 a1_2] 23 (0, 0))) := ⟨blk_below (blk_alloc BC5_clue.out _) hb⟩
          have BZ5_spec := Aside0.mk (blk_below (blk_new _ _) hb)
          have SZ5_spec : Aside0 (w1.heap.size ≤ w5_spec.heap.size) := ⟨Nat.le_trans (Nat.le_trans SZ5_clue.out (by simp)) hb.size⟩
          clear hb ho
          refine hK.out _ _ ⟨(blk_cell BK5_spec.out 0).trans rfl, (blk_cell BK5_spec.out 1).trans rfl, (blk_cell BC5_spec.out 0).trans rfl, (blk_cell BC5_spec.out 1).trans rfl, (blk_cell BC5_spec.out 2).trans rfl⟩ (fun hHeld => ?_)
          clear hK K
          refine norm_ (a' := ?_) ?_ ?_
          rotate_left
          · show Act.put _ (some 26) _ = _
            simp only [Act.put, List.setIfInBounds_toArray, List.set_cons_zero, List.set_cons_succ, i64_w, i32_w]
            rfl
          refine pure_ (i := 5) (N := some 21) (v := ?_) (a' := ?_) #[true, true, true, true, true, true, false, false, true, false, false] rfl rfl (by kernel_rfl) (fun _ _ _ h => h) (Or.inl ⟨by rfl, ?_⟩) ?_ ?_
          rotate_left
          · intro w'
            go_simp
            with_reducible rfl
          rotate_left
          · simp only [Act.put, List.setIfInBounds_toArray, List.set_cons_zero, List.set_cons_succ, i64_w, i32_w]
            rfl
          refine pure_ (i := 6) (N := some 27) (v := ?_) (a' := ?_) #[true, true, true, true, true, true, true, false, true, false, false] rfl rfl (by kernel_rfl) (fun _ _ _ h => h) (Or.inl ⟨by rfl, ?_⟩) ?_ ?_
          rotate_left
          · intro w'
            go_simp
            with_reducible rfl
          rotate_left
          · simp only [Act.put, List.setIfInBounds_toArray, List.set_cons_zero, List.set_cons_succ, i64_w, i32_w]
            rfl
          refine pure_ (i := 7) (N := some 28) (v := ?_) (a' := ?_) #[true, true, true, true, true, true, true, true, true, false, false] rfl rfl (by kernel_rfl) (fun _ _ _ h => h) (Or.inl ⟨by rfl, ?_⟩) ?_ ?_
          rotate_left
          · intro w'
            go_simp
            with_reducible rfl
          rotate_left
          · simp only [Act.put, List.setIfInBounds_toArray, List.set_cons_zero, List.set_cons_succ, i64_w, i32_w]
            rfl
          exact norm_ (by simp only [putAll, Act.put, List.setIfInBounds_toArray, List.set_cons_zero, List.set_cons_succ]) (hCont (AT, cT, A3, c3, (w5_clue).heap.size) _ ⟨⟨HB5_spec.out⟩, ⟨BK5_spec.out⟩, ⟨BC5_spec.out⟩, ⟨(Kd.R_mono (Kd.R_bound (Kd.R_types RW5_spec.out BZ5_spec.out (by decide))) (fun k_ hk => ⟨hk.2.2.1, hk.1.2⟩))⟩, ⟨BZ5_spec.out⟩, ⟨SZ5_clue.out⟩⟩)
      · skip
        refine value_ (w1 := ?_) (v := ?_) (by rfl) rfl ?_ ?_
        rotate_left 2
        · go_simp
          constructor
          · rfl
          · rfl
        refine hK.out _ _ ⟨(blk_cell (blk_alloc BK5_toF.out _) 0).trans rfl, (blk_cell (blk_alloc BK5_toF.out _) 1).trans rfl, (blk_cell (blk_alloc BC5_toF.out _) 0).trans rfl, (blk_cell (blk_alloc BC5_toF.out _) 1).trans rfl, (blk_cell (blk_alloc BC5_toF.out _) 2).trans rfl⟩ (fun hHeld => ?_)
        clear hK K
        refine norm_ (a' := ?_) ?_ ?_
        rotate_left
        · show Act.put _ (some 6) _ = _
          simp only [Act.put, List.setIfInBounds_toArray, List.set_cons_zero, List.set_cons_succ, i64_w, i32_w]
          rfl
        refine one_ (i := 3) (N := some 25) #[true, true, true, true, false, false, false, false, true, false, false] rfl rfl (by kernel_rfl) (by decide) (fun K hK => ?_)
        refine goes_ Try.func20 (by kernel_rfl) rfl #[.agg #[.int .i64 a1_0, .int .i64 a1_1, .int .i64 a1_2]] (by rfl) rfl rfl (by simp only [List.map_toArray, List.map_cons, List.map_nil]; rfl) ?_
        with_reducible refine (laws_toClue.calls a1_0 a1_1 a1_2 a1_0 a1_1 a1_2 _ HTC.out).mono ?_
        rintro e w5_clue ⟨rfl, hb⟩
        refine ⟨_, rfl, ?_⟩
        have HCT := Aside0.mk (Kd.C_below (Kd.C_alloc HCT.out _) hb)
        have HB5_clue : Aside0 (Below w.heap.size w w5_clue) := ⟨below_step (below_alloc HB5_toF.out _) hb⟩
        have BK5_clue : Aside0 (w5_clue.heap[w.heap.size]? = some (.cells #[.int .i64 a0_0, .slice A0_1 l0_1.length c0_1] 30 (0, 0))) := ⟨blk_below (blk_alloc BK5_toF.out _) hb⟩
        have BC5_clue : Aside0 (w5_clue.heap[w.heap.size + 1]? = some (.cells #[.int .i64 a1_0, .int .i64 a1_1, .int .i64 a1_2] 23 (0, 0))) := ⟨blk_below (blk_alloc BC5_toF.out _) hb⟩
        have BZ5_clue := Aside0.mk (blk_below (blk_new _ _) hb)
        have SZ5_clue : Aside0 (w1.heap.size ≤ w5_clue.heap.size) := ⟨Nat.le_trans (Nat.le_trans SZ5_toF.out (by simp)) hb.size⟩
        clear hb
        refine hK.out _ _ ⟨(blk_cell BK5_clue.out 0).trans rfl, (blk_cell BK5_clue.out 1).trans rfl, (blk_cell BC5_clue.out 0).trans rfl, (blk_cell BC5_clue.out 1).trans rfl, (blk_cell BC5_clue.out 2).trans rfl⟩ (fun hHeld => ?_)
        clear hK K
        refine norm_ (a' := ?_) ?_ ?_
        rotate_left
        · show Act.put _ (some 25) _ = _
          simp only [Act.put, List.setIfInBounds_toArray, List.set_cons_zero, List.set_cons_succ, i64_w, i32_w]
          rfl
        refine one_ (i := 4) (N := some 26) #[true, true, true, true, true, false, false, false, true, false, false] rfl rfl (by kernel_rfl) (by decide) (fun K hK => ?_)
        refine goes_ Try.func29 (by kernel_rfl) rfl #[.agg #[.int .i64 a0_0, .slice AT L.length cT], .agg #[.int .i64 a1_0, .int .i64 a1_1, .int .i64 a1_2]] (by rfl) rfl rfl (by simp only [List.map_toArray, List.map_cons, List.map_nil]; rfl) ?_
        with_reducible refine (spec_AddClue.calls k a0_0 _ _ L a1_0 a1_1 a1_2 r1 G r2 _ HCT.out HCT'.out H1.out).mono ?_
        rintro e w5_spec ⟨vR, rfl, ho, hb⟩
        obtain ⟨A3, c3, rfl⟩ := Kd.R_slice ho
        refine ⟨_, rfl, ?_⟩
        have RW5_spec := Aside0.mk (Kd.R_lower (Kd.R_bound ho) (below_size HB5_clue.out))
        have HB5_spec : Aside0 (Below w.heap.size w w5_spec) := ⟨below_step HB5_clue.out hb⟩
        have BK5_spec : Aside0 (w5_spec.heap[w.heap.size]? = some (.cells #[.int .i64 a0_0, .slice A0_1 l0_1.length c0_1] 30 (0, 0))) := ⟨blk_below BK5_clue.out hb⟩
        have BC5_spec : Aside0 (w5_spec.heap[w.heap.size + 1]? = some (.cells #[.int .i64 a1_0, .int .i64 a1_1, .int .i64 a1_2] 23 (0, 0))) := ⟨blk_below BC5_clue.out hb⟩
        have BZ5_spec := Aside0.mk (blk_below BZ5_clue.out hb)
        have SZ5_spec : Aside0 (w1.heap.size ≤ w5_spec.heap.size) := ⟨Nat.le_trans SZ5_clue.out hb.size⟩
        clear hb ho
        refine hK.out _ _ ⟨(blk_cell BK5_spec.out 0).trans rfl, (blk_cell BK5_spec.out 1).trans rfl, (blk_cell BC5_spec.out 0).trans rfl, (blk_cell BC5_spec.out 1).trans rfl, (blk_cell BC5_spec.out 2).trans rfl⟩ (fun hHeld => ?_)
        clear hK K
        refine norm_ (a' := ?_) ?_ ?_
        rotate_left
        · show Act.put _ (some 26) _ = _
          simp only [Act.put, List.setIfInBounds_toArray, List.set_cons_zero, List.set_cons_succ, i64_w, i32_w]
          rfl
        refine pure_ (i := 5) (N := some 21) (v := ?_) (a' := ?_) #[true, true, true, true, true, true, false, false, true, false, false] rfl rfl (by kernel_rfl) (fun _ _ _ h => h) (Or.inl ⟨by rfl, ?_⟩) ?_ ?_
        rotate_left
        · intro w'
          go_simp
          with_reducible rfl
        rotate_left
        · simp only [Act.put, List.setIfInBounds_toArray, List.set_cons_zero, List.set_cons_succ, i64_w, i32_w]
          rfl
        refine pure_ (i := 6) (N := some 27) (v := ?_) (a' := ?_) #[true, true, true, true, true, true, true, false, true, false, false] rfl rfl (by kernel_rfl) (fun _ _ _ h => h) (Or.inl ⟨by rfl, ?_⟩) ?_ ?_
        rotate_left
        · intro w'
          go_simp
          with_reducible rfl
        rotate_left
        · simp only [Act.put, List.setIfInBounds_toArray, List.set_cons_zero, List.set_cons_succ, i64_w, i32_w]
          rfl
        refine pure_ (i := 7) (N := some 28) (v := ?_) (a' := ?_) #[true, true, true, true, true, true, true, true, true, false, false] rfl rfl (by kernel_rfl) (fun _ _ _ h => h) (Or.inl ⟨by rfl, ?_⟩) ?_ ?_
        rotate_left
        · intro w'
          go_simp
          with_reducible rfl
        rotate_left
        · simp only [Act.put, List.setIfInBounds_toArray, List.set_cons_zero, List.set_cons_succ, i64_w, i32_w]
          rfl
        exact norm_ (by simp only [putAll, Act.put, List.setIfInBounds_toArray, List.set_cons_zero, List.set_cons_succ]) (hCont (AT, cT, A3, c3, (w5_toF).heap.size) _ ⟨⟨HB5_spec.out⟩, ⟨BK5_spec.out⟩, ⟨BC5_spec.out⟩, ⟨(Kd.R_mono (Kd.R_bound (Kd.R_types RW5_spec.out BZ5_spec.out (by decide))) (fun k_ hk => ⟨hk.2.2.1, hk.1.2⟩))⟩, ⟨BZ5_spec.out⟩, ⟨SZ5_toF.out⟩⟩)
    · skip
      refine value_ (w1 := ?_) (v := ?_) (by rfl) rfl ?_ ?_
      rotate_left 2
      · go_simp
        constructor
        · rfl
        · rfl
      refine hK.out _ _ ⟨(blk_cell (blk_drew (blk_alloc BK1.out _)) 0).trans rfl, (blk_cell (blk_drew (blk_alloc BK1.out _)) 1).trans rfl, (blk_cell (blk_drew (blk_alloc BC1.out _)) 0).trans rfl, (blk_cell (blk_drew (blk_alloc BC1.out _)) 1).trans rfl, (blk_cell (blk_drew (blk_alloc BC1.out _)) 2).trans rfl⟩ (fun hHeld => ?_)
      clear hK K
      refine norm_ (a' := ?_) ?_ ?_
      rotate_left
      · show Act.put _ (some 6) _ = _
        simp only [Act.put, List.setIfInBounds_toArray, List.set_cons_zero, List.set_cons_succ, i64_w, i32_w]
        rfl
      refine one_ (i := 1) (N := some 23) #[true, true, true, false, false, false, false, false, true, false, false] rfl rfl (by kernel_rfl) (by decide) (fun K hK => ?_)
      refine goes_ Try.func24 (by kernel_rfl) rfl #[.agg #[.int .i64 a0_0, .slice A0_1 l0_1.length c0_1], .bool false] (by rfl) rfl rfl (by simp only [List.map_toArray, List.map_cons, List.map_nil]; rfl) ?_
      with_reducible refine (full_toPuzzle k a0_0 _ _ l0_1 false F _ (Kd.C_below HR.out (below_drew1 (below_alloc HB1.out _))) HC.out HF.out).mono ?_
      rintro e w5_toF ⟨AT, nT, cT, rfl, hRT, hnT, hb⟩
      refine ⟨_, rfl, ?_⟩
      obtain rfl : nT = L.length := (by rcases hnT with h_ | ⟨h_, h2_⟩; exact h_.trans HLl.out.symm; exact h2_.trans (by rw [← HL.out, h_]; simp))
      have hqT := Kd.R_reads' hRT
      have HCT : Aside0 (Kd.C k25 w5_toF AT L.length L) := ⟨C_cut hqT.2.2 HL.out HLl.out HL2.out⟩
      have HCT' : Aside0 (L.length ≤ cT) := ⟨Nat.le_trans HL2.out hqT.2.1⟩
      have HB5_toF : Aside0 (Below w.heap.size w w5_toF) := ⟨below_step (below_drew1 (below_alloc HB1.out _)) hb⟩
      have BK5_toF : Aside0 (w5_toF.heap[w.heap.size]? = some (.cells #[.int .i64 a0_0, .slice A0_1 l0_1.length c0_1] 30 (0, 0))) := ⟨blk_below (blk_drew (blk_alloc BK1.out _)) hb⟩
      have BC5_toF : Aside0 (w5_toF.heap[w.heap.size + 1]? = some (.cells #[.int .i64 a1_0, .int .i64 a1_1, .int .i64 a1_2] 23 (0, 0))) := ⟨blk_below (blk_drew (blk_alloc BC1.out _)) hb⟩
      have BZ5_toF := Aside0.mk (blk_below (blk_drew (blk_new _ _)) hb)
      have SZ5_toF : Aside0 (w1.heap.size ≤ w5_toF.heap.size) := ⟨Nat.le_trans (show w1.heap.size ≤ (w1.alloc (.cells #[.int .i64 0, .slice none 0 0] 35 (0, 0))).heap.size by simp) hb.size⟩
      clear hb hRT hnT hqT
      refine hK.out _ _ ⟨(blk_cell BK5_toF.out 0).trans rfl, (blk_cell BK5_toF.out 1).trans rfl, (blk_cell BC5_toF.out 0).trans rfl, (blk_cell BC5_toF.out 1).trans rfl, (blk_cell BC5_toF.out 2).trans rfl⟩ (fun hHeld => ?_)
      clear hK K
      refine norm_ (a' := ?_) ?_ ?_
      rotate_left
      · show Act.put _ (some 23) _ = _
        simp only [Act.put, List.setIfInBounds_toArray, List.set_cons_zero, List.set_cons_succ, i64_w, i32_w]
        rfl
      refine one_ (i := 3) (N := some 25) #[true, true, true, true, false, false, false, false, true, false, false] rfl rfl (by kernel_rfl) (by decide) (fun K hK => ?_)
      refine goes_ Try.func20 (by kernel_rfl) rfl #[.agg #[.int .i64 a1_0, .int .i64 a1_1, .int .i64 a1_2]] (by rfl) rfl rfl (by simp only [List.map_toArray, List.map_cons, List.map_nil]; rfl) ?_
      with_reducible refine (laws_toClue.calls a1_0 a1_1 a1_2 a1_0 a1_1 a1_2 _ HTC.out).mono ?_
      rintro e w5_clue ⟨rfl, hb⟩
      refine ⟨_, rfl, ?_⟩
      have HCT := Aside0.mk (Kd.C_below HCT.out hb)
      have HB5_clue : Aside0 (Below w.heap.size w w5_clue) := ⟨below_step HB5_toF.out hb⟩
      have BK5_clue : Aside0 (w5_clue.heap[w.heap.size]? = some (.cells #[.int .i64 a0_0, .slice A0_1 l0_1.length c0_1] 30 (0, 0))) := ⟨blk_below BK5_toF.out hb⟩
      have BC5_clue : Aside0 (w5_clue.heap[w.heap.size + 1]? = some (.cells #[.int .i64 a1_0, .int .i64 a1_1, .int .i64 a1_2] 23 (0, 0))) := ⟨blk_below BC5_toF.out hb⟩
      have BZ5_clue := Aside0.mk (blk_below BZ5_toF.out hb)
      have SZ5_clue : Aside0 (w1.heap.size ≤ w5_clue.heap.size) := ⟨Nat.le_trans SZ5_toF.out hb.size⟩
      clear hb
      refine hK.out _ _ ⟨(blk_cell BK5_clue.out 0).trans rfl, (blk_cell BK5_clue.out 1).trans rfl, (blk_cell BC5_clue.out 0).trans rfl, (blk_cell BC5_clue.out 1).trans rfl, (blk_cell BC5_clue.out 2).trans rfl⟩ (fun hHeld => ?_)
      clear hK K
      refine norm_ (a' := ?_) ?_ ?_
      rotate_left
      · show Act.put _ (some 25) _ = _
        simp only [Act.put, List.setIfInBounds_toArray, List.set_cons_zero, List.set_cons_succ, i64_w, i32_w]
        rfl
      refine one_ (i := 4) (N := some 26) #[true, true, true, true, true, false, false, false, true, false, false] rfl rfl (by kernel_rfl) (by decide) (fun K hK => ?_)
      refine goes_ Try.func29 (by kernel_rfl) rfl #[.agg #[.int .i64 a0_0, .slice AT L.length cT], .agg #[.int .i64 a1_0, .int .i64 a1_1, .int .i64 a1_2]] (by rfl) rfl rfl (by simp only [List.map_toArray, List.map_cons, List.map_nil]; rfl) ?_
      with_reducible refine (spec_AddClue.calls k a0_0 _ _ L a1_0 a1_1 a1_2 r1 G r2 _ HCT.out HCT'.out H1.out).mono ?_
      rintro e w5_spec ⟨vR, rfl, ho, hb⟩
      obtain ⟨A3, c3, rfl⟩ := Kd.R_slice ho
      refine ⟨_, rfl, ?_⟩
      have RW5_spec := Aside0.mk (Kd.R_lower (Kd.R_bound ho) (below_size HB5_clue.out))
      have HB5_spec : Aside0 (Below w.heap.size w w5_spec) := ⟨below_step HB5_clue.out hb⟩
      have BK5_spec : Aside0 (w5_spec.heap[w.heap.size]? = some (.cells #[.int .i64 a0_0, .slice A0_1 l0_1.length c0_1] 30 (0, 0))) := ⟨blk_below BK5_clue.out hb⟩
      have BC5_spec : Aside0 (w5_spec.heap[w.heap.size + 1]? = some (.cells #[.int .i64 a1_0, .int .i64 a1_1, .int .i64 a1_2] 23 (0, 0))) := ⟨blk_below BC5_clue.out hb⟩
      have BZ5_spec := Aside0.mk (blk_below BZ5_clue.out hb)
      have SZ5_spec : Aside0 (w1.heap.size ≤ w5_spec.heap.size) := ⟨Nat.le_trans SZ5_clue.out hb.size⟩
      clear hb ho
      refine hK.out _ _ ⟨(blk_cell BK5_spec.out 0).trans rfl, (blk_cell BK5_spec.out 1).trans rfl, (blk_cell BC5_spec.out 0).trans rfl, (blk_cell BC5_spec.out 1).trans rfl, (blk_cell BC5_spec.out 2).trans rfl⟩ (fun hHeld => ?_)
      clear hK K
      refine norm_ (a' := ?_) ?_ ?_
      rotate_left
      · show Act.put _ (some 26) _ = _
        simp only [Act.put, List.setIfInBounds_toArray, List.set_cons_zero, List.set_cons_succ, i64_w, i32_w]
        rfl
      refine pure_ (i := 5) (N := some 21) (v := ?_) (a' := ?_) #[true, true, true, true, true, true, false, false, true, false, false] rfl rfl (by kernel_rfl) (fun _ _ _ h => h) (Or.inl ⟨by rfl, ?_⟩) ?_ ?_
      rotate_left
      · intro w'
        go_simp
        with_reducible rfl
      rotate_left
      · simp only [Act.put, List.setIfInBounds_toArray, List.set_cons_zero, List.set_cons_succ, i64_w, i32_w]
        rfl
      refine pure_ (i := 6) (N := some 27) (v := ?_) (a' := ?_) #[true, true, true, true, true, true, true, false, true, false, false] rfl rfl (by kernel_rfl) (fun _ _ _ h => h) (Or.inl ⟨by rfl, ?_⟩) ?_ ?_
      rotate_left
      · intro w'
        go_simp
        with_reducible rfl
      rotate_left
      · simp only [Act.put, List.setIfInBounds_toArray, List.set_cons_zero, List.set_cons_succ, i64_w, i32_w]
        rfl
      refine pure_ (i := 7) (N := some 28) (v := ?_) (a' := ?_) #[true, true, true, true, true, true, true, true, true, false, false] rfl rfl (by kernel_rfl) (fun _ _ _ h => h) (Or.inl ⟨by rfl, ?_⟩) ?_ ?_
      rotate_left
      · intro w'
        go_simp
        with_reducible rfl
      rotate_left
      · simp only [Act.put, List.setIfInBounds_toArray, List.set_cons_zero, List.set_cons_succ, i64_w, i32_w]
        rfl
      exact norm_ (by simp only [putAll, Act.put, List.setIfInBounds_toArray, List.set_cons_zero, List.set_cons_succ]) (hCont (AT, cT, A3, c3, w1.heap.size) _ ⟨⟨HB5_spec.out⟩, ⟨BK5_spec.out⟩, ⟨BC5_spec.out⟩, ⟨(Kd.R_mono (Kd.R_bound (Kd.R_types RW5_spec.out BZ5_spec.out (by decide))) (fun k_ hk => ⟨hk.2.2.1, hk.1.2⟩))⟩, ⟨BZ5_spec.out⟩, ⟨(Nat.le_refl _)⟩⟩)
  rintro ⟨A2, c2, A3, c3, gw⟩ w5_e ⟨HB5_, BK5_, BC5_, RW5_, BZ5_, LB5_⟩
  have hHeld : w5_e.cell? ⟨w.heap.size, 0, none⟩ = some (.int .i64 a0_0) ∧ w5_e.cell? ⟨w.heap.size, 1, none⟩ = some (.slice A0_1 l0_1.length c0_1) ∧ w5_e.cell? ⟨w.heap.size + 1, 0, none⟩ = some (.int .i64 a1_0) ∧ w5_e.cell? ⟨w.heap.size + 1, 1, none⟩ = some (.int .i64 a1_1) ∧ w5_e.cell? ⟨w.heap.size + 1, 2, none⟩ = some (.int .i64 a1_2) := ⟨(blk_cell BK5_.out 0).trans rfl, (blk_cell BK5_.out 1).trans rfl, (blk_cell BC5_.out 0).trans rfl, (blk_cell BC5_.out 1).trans rfl, (blk_cell BC5_.out 2).trans rfl⟩
  refine norm_ (a' := ?_) ?_ ?_
  rotate_left
  · simp only [putAll, Act.put, List.setIfInBounds_toArray, List.set_cons_zero, List.set_cons_succ]
    rfl
  refine one_ (i := 9) (N := none) #[true, true, true, true, true, true, true, true, true, true, false] rfl rfl (by kernel_rfl) (by decide) (fun K hK => ?_)
  have hz0 : w5_e.cell? ⟨gw, 0, none⟩ = some (.int .i64 0) := (blk_cell BZ5_.out 0).trans rfl
  have hz1 : w5_e.cell? ⟨gw, 1, none⟩ = some (.slice none 0 0) := (blk_cell BZ5_.out 1).trans rfl
  have fz0 := blk_frozen BZ5_.out 0
  have fz1 := blk_frozen BZ5_.out 1
  refine skip_ (w1 := ?_) (by rfl) rfl ?_ ?_
  rotate_left
  · go_simp
    rfl
  refine hK.out _ _ ⟨(blk_cell (blk_far (blk_far BK5_.out (by show w.heap.size ≠ gw; have h1_ : w1.heap.size ≤ gw := LB5_.out; have h3_ := blk_lt BK1.out; omega) _) (by show w.heap.size ≠ gw; have h1_ : w1.heap.size ≤ gw := LB5_.out; have h3_ := blk_lt BK1.out; omega) _) 0).trans rfl, (blk_cell (blk_far (blk_far BK5_.out (by show w.heap.size ≠ gw; have h1_ : w1.heap.size ≤ gw := LB5_.out; have h3_ := blk_lt BK1.out; omega) _) (by show w.heap.size ≠ gw; have h1_ : w1.heap.size ≤ gw := LB5_.out; have h3_ := blk_lt BK1.out; omega) _) 1).trans rfl, (blk_cell (blk_far (blk_far BC5_.out (by show w.heap.size + 1 ≠ gw; have h1_ : w1.heap.size ≤ gw := LB5_.out; have h3_ := blk_lt BC1.out; omega) _) (by show w.heap.size + 1 ≠ gw; have h1_ : w1.heap.size ≤ gw := LB5_.out; have h3_ := blk_lt BC1.out; omega) _) 0).trans rfl, (blk_cell (blk_far (blk_far BC5_.out (by show w.heap.size + 1 ≠ gw; have h1_ : w1.heap.size ≤ gw := LB5_.out; have h3_ := blk_lt BC1.out; omega) _) (by show w.heap.size + 1 ≠ gw; have h1_ : w1.heap.size ≤ gw := LB5_.out; have h3_ := blk_lt BC1.out; omega) _) 1).trans rfl, (blk_cell (blk_far (blk_far BC5_.out (by show w.heap.size + 1 ≠ gw; have h1_ : w1.heap.size ≤ gw := LB5_.out; have h3_ := blk_lt BC1.out; omega) _) (by show w.heap.size + 1 ≠ gw; have h1_ : w1.heap.size ≤ gw := LB5_.out; have h3_ := blk_lt BC1.out; omega) _) 2).trans rfl⟩ (fun hHeld => ?_)
  clear hK K
  refine pure_ (i := 10) (N := some 7) (v := ?_) (a' := ?_) #[true, true, true, true, true, true, true, true, true, true, true] rfl rfl (by kernel_rfl) (fun _ _ _ h => h) (Or.inl ⟨by rfl, ?_⟩) ?_ ?_
  rotate_left
  · intro w'
    go_simp
    with_reducible rfl
  rotate_left
  · simp only [Act.put, List.setIfInBounds_toArray, List.set_cons_zero, List.set_cons_succ, i64_w, i32_w]
    rfl
  refine done_ (by kernel_rfl) ?_
  obtain ⟨w3, hw_⟩ : ∃ W_, W_ = ((w5_e.setCell ⟨gw, 0, none⟩ (.int .i64 r1)).setCell ⟨gw, 1, none⟩ (.slice A3 G.length c3)) := ⟨_, rfl⟩
  rw [← hw_]
  have hsz_ : w3.heap.size = w5_e.heap.size := by rw [hw_]; simp
  have HSZw3 := Aside0.mk hsz_
  have HB3 : Aside0 (Below w.heap.size w w3) := ⟨by rw [hw_]; exact below_set (below_set HB5_.out (by have h1_ : w1.heap.size ≤ gw := LB5_.out; have h2_ := HNC.out; omega)) (by have h1_ : w1.heap.size ≤ gw := LB5_.out; have h2_ := HNC.out; omega)⟩
  have BK3 : Aside0 (w3.heap[w.heap.size]? = some (.cells #[.int .i64 a0_0, .slice A0_1 l0_1.length c0_1] 30 (0, 0))) := ⟨by rw [hw_]; exact blk_far (blk_far BK5_.out (by show _ ≠ gw; have h1_ : w1.heap.size ≤ gw := LB5_.out; have h2_ := HNC.out; omega) _) (by show _ ≠ gw; have h1_ : w1.heap.size ≤ gw := LB5_.out; have h2_ := HNC.out; omega) _⟩
  have BC3 : Aside0 (w3.heap[w.heap.size + 1]? = some (.cells #[.int .i64 a1_0, .int .i64 a1_1, .int .i64 a1_2] 23 (0, 0))) := ⟨by rw [hw_]; exact blk_far (blk_far BC5_.out (by show _ ≠ gw; have h1_ : w1.heap.size ≤ gw := LB5_.out; have h2_ := HNC.out; omega) _) (by show _ ≠ gw; have h1_ : w1.heap.size ≤ gw := LB5_.out; have h2_ := HNC.out; omega) _⟩
  have BW3 : Aside0 (w3.heap[gw]? = some (.cells #[.int .i64 r1, .slice A3 G.length c3] 35 (0, 0))) := ⟨by rw [hw_]; exact blk_put (blk_put BZ5_.out 0 _ rfl) 1 _ rfl⟩
  have HW3 : Aside0 (Kd.R k25 25 w3 w.heap.size (fun k_ => k_ < w3.heap.size ∧ k_ ≠ gw) (.slice A3 G.length c3) G) := ⟨by have h_ : Kd.R k25 25 ((w5_e.setCell ⟨gw, 0, none⟩ (.int .i64 r1)).setCell ⟨gw, 1, none⟩ (.slice A3 G.length c3)) w.heap.size (fun k_ => k_ < w3.heap.size ∧ k_ ≠ gw) (.slice A3 G.length c3) G := Kd.R_mono (Kd.R_far (Kd.R_far RW5_.out (fun k_ hk => hk.2) (.int .i64 r1)) (fun k_ hk => hk.2) (.slice A3 G.length c3)) (fun k_ hk => ⟨by rw [hsz_]; exact hk.1, hk.2⟩); rw [hw_]; rw [hw_] at h_; exact h_⟩
  have HGW : Aside0 (w.heap.size + 2 ≤ gw ∧ gw < w3.heap.size) := ⟨by have h1_ : w1.heap.size ≤ gw := LB5_.out; have h2_ := HNC.out; have h3_ := blk_lt BZ5_.out; have h4_ : gw < w5_e.heap.size := h3_; omega⟩
  clear hw_ hsz_ hHeld
  clear HB5_ BK5_ BC5_ RW5_ BZ5_ LB5_ HB1 BK1 BC1 HNC ck10 ck11 cc10 cc11 cc12
  have ck30 := (blk_cell BK3.out 0).trans rfl
  have ck31 := (blk_cell BK3.out 1).trans rfl
  go_wp2_with fail
  refine (full_toPuzzle k a0_0 _ _ l0_1 false F _ (Kd.C_below HR.out HB3.out) HC.out HF.out).mono ?_
  rintro e w4 hp
  obtain ⟨A4, n4, c4, rfl, hR4, hn4, hb⟩ := hp
  obtain rfl : n4 = L.length := (by rcases hn4 with h_ | ⟨h_, h2_⟩; exact h_.trans HLl.out.symm; exact h2_.trans (by rw [← HL.out, h_]; simp))
  have HB4_ : Aside0 (Below w.heap.size w w4) := ⟨below_step HB3.out hb⟩
  have BK4_ : Aside0 (w4.heap[w.heap.size]? = some (.cells #[.int .i64 a0_0, .slice A0_1 l0_1.length c0_1] 30 (0, 0))) := ⟨blk_below BK3.out hb⟩
  have BC4_ : Aside0 (w4.heap[w.heap.size + 1]? = some (.cells #[.int .i64 a1_0, .int .i64 a1_1, .int .i64 a1_2] 23 (0, 0))) := ⟨blk_below BC3.out hb⟩
  have BW4_ : Aside0 (w4.heap[gw]? = some (.cells #[.int .i64 r1, .slice A3 G.length c3] 35 (0, 0))) := ⟨blk_below BW3.out hb⟩
  have HW4_ : Aside0 (Kd.R k25 25 w4 w.heap.size (fun k_ => k_ < w3.heap.size ∧ k_ ≠ gw) (.slice A3 G.length c3) G) := ⟨Kd.R_below HW3.out hb⟩
  have hq := Kd.R_reads' hR4
  have HC4' : Aside0 (F.length ≤ c4) := ⟨hq.2.1⟩
  have HY4_ : Aside0 (Kd.R k25 25 w4 w.heap.size (fun k_ => w3.heap.size ≤ k_ ∧ k_ < w4.heap.size) (.slice A4 F.length c4) F) := ⟨Kd.R_mono (Kd.R_lower (Kd.R_bound hR4) (below_size HB3.out)) (fun k_ hk => ⟨hk.2.1, hk.2.2.1⟩)⟩
  have HX4_ : Aside0 (Kd.R k25 25 w4 w.heap.size (fun k_ => w3.heap.size ≤ k_ ∧ k_ < w4.heap.size) (.slice A4 L.length c4) L) := ⟨by
    have h_ := Hw.R_take hR4 L.length HL2.out
    rw [HLl.out, HL.out, ← HLl.out] at h_
    exact Kd.R_mono (Kd.R_lower (Kd.R_bound h_) (below_size HB3.out)) (fun k_ hk => ⟨hk.2.1, hk.2.2.1⟩)⟩
  have HS34 : Aside0 (w3.heap.size ≤ w4.heap.size) := ⟨hb.size⟩
  have HB4 : Aside0 (Below w.heap.size w (w4.alloc (.cells #[.int .i64 a0_0, .slice A4 L.length c4] 35 (0, 0)))) := ⟨below_alloc HB4_.out _⟩
  have BK4 : Aside0 ((w4.alloc (.cells #[.int .i64 a0_0, .slice A4 L.length c4] 35 (0, 0))).heap[w.heap.size]? = some (.cells #[.int .i64 a0_0, .slice A0_1 l0_1.length c0_1] 30 (0, 0))) := ⟨blk_alloc BK4_.out _⟩
  have BC4 : Aside0 ((w4.alloc (.cells #[.int .i64 a0_0, .slice A4 L.length c4] 35 (0, 0))).heap[w.heap.size + 1]? = some (.cells #[.int .i64 a1_0, .int .i64 a1_1, .int .i64 a1_2] 23 (0, 0))) := ⟨blk_alloc BC4_.out _⟩
  have BW4 : Aside0 ((w4.alloc (.cells #[.int .i64 a0_0, .slice A4 L.length c4] 35 (0, 0))).heap[gw]? = some (.cells #[.int .i64 r1, .slice A3 G.length c3] 35 (0, 0))) := ⟨blk_alloc BW4_.out _⟩
  have HW4 : Aside0 (Kd.R k25 25 (w4.alloc (.cells #[.int .i64 a0_0, .slice A4 L.length c4] 35 (0, 0))) w.heap.size (fun k_ => k_ < w3.heap.size ∧ k_ ≠ gw) (.slice A3 G.length c3) G) := ⟨Kd.R_alloc HW4_.out _⟩
  have HY4 : Aside0 (Kd.R k25 25 (w4.alloc (.cells #[.int .i64 a0_0, .slice A4 L.length c4] 35 (0, 0))) w.heap.size (fun k_ => w3.heap.size ≤ k_ ∧ k_ < w4.heap.size) (.slice A4 F.length c4) F) := ⟨Kd.R_alloc HY4_.out _⟩
  have HX4 : Aside0 (Kd.R k25 25 (w4.alloc (.cells #[.int .i64 a0_0, .slice A4 L.length c4] 35 (0, 0))) w.heap.size (fun k_ => w3.heap.size ≤ k_ ∧ k_ < w4.heap.size) (.slice A4 L.length c4) L) := ⟨Kd.R_alloc HX4_.out _⟩
  have BX4 : Aside0 ((w4.alloc (.cells #[.int .i64 a0_0, .slice A4 L.length c4] 35 (0, 0))).heap[w4.heap.size]? = some (.cells #[.int .i64 a0_0, .slice A4 L.length c4] 35 (0, 0))) := ⟨blk_new _ _⟩
  have HS4b : Aside0 ((w4.alloc (.cells #[.int .i64 a0_0, .slice A4 L.length c4] 35 (0, 0))).heap.size = w4.heap.size + 1) := ⟨by simp⟩
  clear hb ck30 ck31 hR4 hn4 hq
  clear HB3 BK3 BC3 BW3 HW3
  clear HB4_ BK4_ BC4_ BW4_ HW4_ HY4_ HX4_
  have cx40 := (blk_cell BX4.out 0).trans rfl
  have cx41 := (blk_cell BX4.out 1).trans rfl
  have cc40 := (blk_cell BC4.out 0).trans rfl
  have cc41 := (blk_cell BC4.out 1).trans rfl
  have cc42 := (blk_cell BC4.out 2).trans rfl
  go_wp2_with fail
  obtain ⟨w4b, hw_⟩ : ∃ W_, W_ = (w4.alloc (.cells #[.int .i64 a0_0, .slice A4 L.length c4] 35 (0, 0))) := ⟨_, rfl⟩
  rw [← hw_] at HB4 BK4 BC4 BW4 HW4 HY4 HX4 BX4 HS4b ⊢
  clear hw_ cx40 cx41 cc40 cc41 cc42
  refine start_ (n := 10) (S := fun w' => w'.cell? ⟨w4.heap.size, 0, none⟩ = some (.int .i64 a0_0) ∧ w'.cell? ⟨w4.heap.size, 1, none⟩ = some (.slice A4 L.length c4) ∧ w'.cell? ⟨w.heap.size + 1, 0, none⟩ = some (.int .i64 a1_0) ∧ w'.cell? ⟨w.heap.size + 1, 1, none⟩ = some (.int .i64 a1_1) ∧ w'.cell? ⟨w.heap.size + 1, 2, none⟩ = some (.int .i64 a1_2)) (ds := []) #[false, false, false, false, false, false, false, false, false, false] (by kernel_rfl) rfl rfl ⟨(blk_cell (blk_drew BX4.out) 0).trans rfl, (blk_cell (blk_drew BX4.out) 1).trans rfl, (blk_cell (blk_drew BC4.out) 0).trans rfl, (blk_cell (blk_drew BC4.out) 1).trans rfl, (blk_cell (blk_drew BC4.out) 2).trans rfl⟩ (fun hHeld => ?_)
  refine take_ (i := 0) (N := some 32) (v := ?_) (a' := ?_) #[true, false, false, false, false, false, false, false, false, false] rfl rfl (by kernel_rfl) (fun _ _ _ h => h) (Or.inl ⟨by rfl, ?_⟩) hHeld ?_ ?_
  rotate_left
  · rintro w' ⟨s0, s1, s2, s3, s4⟩
    go_simp
    with_reducible rfl
  rotate_left
  · simp only [Act.put, List.setIfInBounds_toArray, List.set_cons_zero, List.set_cons_succ, i64_w, i32_w]
    rfl
  refine take_ (i := 1) (N := some 33) (v := ?_) (a' := ?_) #[true, true, false, false, false, false, false, false, false, false] rfl rfl (by kernel_rfl) (fun _ _ _ h => h) (Or.inl ⟨by rfl, ?_⟩) hHeld ?_ ?_
  rotate_left
  · rintro w' ⟨s0, s1, s2, s3, s4⟩
    go_simp
    with_reducible rfl
  rotate_left
  · simp only [Act.put, List.setIfInBounds_toArray, List.set_cons_zero, List.set_cons_succ, i64_w, i32_w]
    rfl
  refine join_ (σ := Option Addr × Nat × Nat) 2 #[true, true, true, true, true, true, true, true, false, false] (fun s => [(34, .agg #[.int .i64 a1_0, .int .i64 a1_1, .int .i64 a1_2]), (35, .tuple #[.agg #[.int .i64 r1, .slice s.1 G.length s.2.1], .bool r2]), (31, .tuple #[.agg #[.int .i64 r1, .slice s.1 G.length s.2.1], .bool r2]), (36, .agg #[.int .i64 r1, .slice s.1 G.length s.2.1]), (37, .bool r2), (9, .pointer (some ⟨s.2.2, 0, none⟩))]) (fun s w' => Aside0 (Below w.heap.size w w') ∧ Aside0 (w'.heap[w.heap.size]? = some (.cells #[.int .i64 a0_0, .slice A0_1 l0_1.length c0_1] 30 (0, 0))) ∧ Aside0 (w'.heap[w.heap.size + 1]? = some (.cells #[.int .i64 a1_0, .int .i64 a1_1, .int .i64 a1_2] 23 (0, 0))) ∧ Aside0 (w'.heap[gw]? = some (.cells #[.int .i64 r1, .slice A3 G.length c3] 35 (0, 0))) ∧ Aside0 (Kd.R k25 25 w' w.heap.size (fun k_ => k_ < w3.heap.size ∧ k_ ≠ gw) (.slice A3 G.length c3) G) ∧ Aside0 (Kd.R k25 25 w' w.heap.size (fun k_ => w3.heap.size ≤ k_ ∧ k_ < w4.heap.size) (.slice A4 F.length c4) F) ∧ Aside0 (Kd.R k25 25 w' w.heap.size (fun k_ => w3.heap.size ≤ k_ ∧ k_ < w4.heap.size) (.slice A4 L.length c4) L) ∧ Aside0 (w'.heap[w4.heap.size]? = some (.cells #[.int .i64 a0_0, .slice A4 L.length c4] 35 (0, 0))) ∧ Aside0 (Kd.R k25 25 w' w.heap.size (fun k_ => w4.heap.size + 1 ≤ k_ ∧ k_ ≠ s.2.2) (.slice s.1 G.length s.2.1) G) ∧ Aside0 (w'.heap[s.2.2]? = some (.cells #[.int .i64 0, .slice none 0 0] 35 (0, 0))) ∧ Aside0 (w4b.heap.size ≤ s.2.2)) ?_ ?_
  rotate_left
  · intro hCont
    refine two_ (i := 2) (j := 7) (Ni := some 34) (Nj := some 9) #[true, true, true, false, false, false, false, false, false, false] #[true, true, false, false, false, false, false, true, false, false] rfl rfl rfl rfl (by kernel_rfl) (by decide) (by decide) (fun K hK => ?_) (fun K hK => ?_)
    · skip
      refine goes_ Try.func20 (by kernel_rfl) rfl #[.agg #[.int .i64 a1_0, .int .i64 a1_1, .int .i64 a1_2]] (by rfl) rfl rfl (by simp only [List.map_toArray, List.map_cons, List.map_nil]; rfl) ?_
      with_reducible refine (laws_toClue.calls a1_0 a1_1 a1_2 a1_0 a1_1 a1_2 _ HTC.out).mono ?_
      rintro e w7_clue ⟨rfl, hb⟩
      refine ⟨_, rfl, ?_⟩
      have HB7_clue : Aside0 (Below w.heap.size w w7_clue) := ⟨below_step (below_drew1 HB4.out) hb⟩
      have BK7_clue : Aside0 (w7_clue.heap[w.heap.size]? = some (.cells #[.int .i64 a0_0, .slice A0_1 l0_1.length c0_1] 30 (0, 0))) := ⟨blk_below (blk_drew BK4.out) hb⟩
      have BC7_clue : Aside0 (w7_clue.heap[w.heap.size + 1]? = some (.cells #[.int .i64 a1_0, .int .i64 a1_1, .int .i64 a1_2] 23 (0, 0))) := ⟨blk_below (blk_drew BC4.out) hb⟩
      have BW7_clue : Aside0 (w7_clue.heap[gw]? = some (.cells #[.int .i64 r1, .slice A3 G.length c3] 35 (0, 0))) := ⟨blk_below (blk_drew BW4.out) hb⟩
      have HW7_clue : Aside0 (Kd.R k25 25 w7_clue w.heap.size (fun k_ => k_ < w3.heap.size ∧ k_ ≠ gw) (.slice A3 G.length c3) G) := ⟨Kd.R_below (Kd.R_drew HW4.out) hb⟩
      have HY7_clue : Aside0 (Kd.R k25 25 w7_clue w.heap.size (fun k_ => w3.heap.size ≤ k_ ∧ k_ < w4.heap.size) (.slice A4 F.length c4) F) := ⟨Kd.R_below (Kd.R_drew HY4.out) hb⟩
      have HX7_clue : Aside0 (Kd.R k25 25 w7_clue w.heap.size (fun k_ => w3.heap.size ≤ k_ ∧ k_ < w4.heap.size) (.slice A4 L.length c4) L) := ⟨Kd.R_below (Kd.R_drew HX4.out) hb⟩
      have BX7_clue : Aside0 (w7_clue.heap[w4.heap.size]? = some (.cells #[.int .i64 a0_0, .slice A4 L.length c4] 35 (0, 0))) := ⟨blk_below (blk_drew BX4.out) hb⟩
      have SZ7_clue : Aside0 (w4b.heap.size ≤ w7_clue.heap.size) := ⟨Nat.le_trans (Nat.le_refl w4b.heap.size) hb.size⟩
      clear hb
      refine hK.out _ _ ⟨(blk_cell BX7_clue.out 0).trans rfl, (blk_cell BX7_clue.out 1).trans rfl, (blk_cell BC7_clue.out 0).trans rfl, (blk_cell BC7_clue.out 1).trans rfl, (blk_cell BC7_clue.out 2).trans rfl⟩ (fun hHeld => ?_)
      clear hK K
      refine norm_ (a' := ?_) ?_ ?_
      rotate_left
      · show Act.put _ (some 34) _ = _
        simp only [Act.put, List.setIfInBounds_toArray, List.set_cons_zero, List.set_cons_succ, i64_w, i32_w]
        rfl
      refine two_ (i := 3) (j := 7) (Ni := some 35) (Nj := some 9) #[true, true, true, true, false, false, false, false, false, false] #[true, true, true, false, false, false, false, true, false, false] rfl rfl rfl rfl (by kernel_rfl) (by decide) (by decide) (fun K hK => ?_) (fun K hK => ?_)
      · skip
        refine goes_ Try.func30 (by kernel_rfl) rfl #[.agg #[.int .i64 a0_0, .slice A4 L.length c4], .agg #[.int .i64 a1_0, .int .i64 a1_1, .int .i64 a1_2]] (by rfl) rfl rfl (by simp only [List.map_toArray, List.map_cons, List.map_nil]; rfl) ?_
        with_reducible refine (impl_AddClue.calls a0_0 _ _ L a1_0 a1_1 a1_2 r1 G r2 _ (C_cut (Kd.R_reads' HY7_clue.out).2.2 HL.out HLl.out HL2.out) (Nat.le_trans HL2.out HC4'.out) H2.out).mono ?_
        rintro e w7_impl ⟨vR, rfl, ho, hb⟩
        obtain ⟨A5, c5, rfl⟩ := Kd.R_slice ho
        refine ⟨_, rfl, ?_⟩
        have RW7_impl := Aside0.mk (Kd.R_lower (Kd.R_bound ho) (below_size HB7_clue.out))
        have HB7_impl : Aside0 (Below w.heap.size w w7_impl) := ⟨below_step HB7_clue.out hb⟩
        have BK7_impl : Aside0 (w7_impl.heap[w.heap.size]? = some (.cells #[.int .i64 a0_0, .slice A0_1 l0_1.length c0_1] 30 (0, 0))) := ⟨blk_below BK7_clue.out hb⟩
        have BC7_impl : Aside0 (w7_impl.heap[w.heap.size + 1]? = some (.cells #[.int .i64 a1_0, .int .i64 a1_1, .int .i64 a1_2] 23 (0, 0))) := ⟨blk_below BC7_clue.out hb⟩
        have BW7_impl : Aside0 (w7_impl.heap[gw]? = some (.cells #[.int .i64 r1, .slice A3 G.length c3] 35 (0, 0))) := ⟨blk_below BW7_clue.out hb⟩
        have HW7_impl : Aside0 (Kd.R k25 25 w7_impl w.heap.size (fun k_ => k_ < w3.heap.size ∧ k_ ≠ gw) (.slice A3 G.length c3) G) := ⟨Kd.R_below HW7_clue.out hb⟩
        have HY7_impl : Aside0 (Kd.R k25 25 w7_impl w.heap.size (fun k_ => w3.heap.size ≤ k_ ∧ k_ < w4.heap.size) (.slice A4 F.length c4) F) := ⟨Kd.R_below HY7_clue.out hb⟩
        have HX7_impl : Aside0 (Kd.R k25 25 w7_impl w.heap.size (fun k_ => w3.heap.size ≤ k_ ∧ k_ < w4.heap.size) (.slice A4 L.length c4) L) := ⟨Kd.R_below HX7_clue.out hb⟩
        have BX7_impl : Aside0 (w7_impl.heap[w4.heap.size]? = some (.cells #[.int .i64 a0_0, .slice A4 L.length c4] 35 (0, 0))) := ⟨blk_below BX7_clue.out hb⟩
        have SZ7_impl : Aside0 (w4b.heap.size ≤ w7_impl.heap.size) := ⟨Nat.le_trans SZ7_clue.out hb.size⟩
        clear hb ho
        refine hK.out _ _ ⟨(blk_cell BX7_impl.out 0).trans rfl, (blk_cell BX7_impl.out 1).trans rfl, (blk_cell BC7_impl.out 0).trans rfl, (blk_cell BC7_impl.out 1).trans rfl, (blk_cell BC7_impl.out 2).trans rfl⟩ (fun hHeld => ?_)
        clear hK K
        refine norm_ (a' := ?_) ?_ ?_
        rotate_left
        · show Act.put _ (some 35) _ = _
          simp only [Act.put, List.setIfInBounds_toArray, List.set_cons_zero, List.set_cons_succ, i64_w, i32_w]
          rfl
        refine pure_ (i := 4) (N := some 31) (v := ?_) (a' := ?_) #[true, true, true, true, true, false, false, false, false, false] rfl rfl (by kernel_rfl) (fun _ _ _ h => h) (Or.inl ⟨by rfl, ?_⟩) ?_ ?_
        rotate_left
        · intro w'
          go_simp
          with_reducible rfl
        rotate_left
        · simp only [Act.put, List.setIfInBounds_toArray, List.set_cons_zero, List.set_cons_succ, i64_w, i32_w]
          rfl
        refine pure_ (i := 5) (N := some 36) (v := ?_) (a' := ?_) #[true, true, true, true, true, true, false, false, false, false] rfl rfl (by kernel_rfl) (fun _ _ _ h => h) (Or.inl ⟨by rfl, ?_⟩) ?_ ?_
        rotate_left
        · intro w'
          go_simp
          with_reducible rfl
        rotate_left
        · simp only [Act.put, List.setIfInBounds_toArray, List.set_cons_zero, List.set_cons_succ, i64_w, i32_w]
          rfl
        refine pure_ (i := 6) (N := some 37) (v := ?_) (a' := ?_) #[true, true, true, true, true, true, true, false, false, false] rfl rfl (by kernel_rfl) (fun _ _ _ h => h) (Or.inl ⟨by rfl, ?_⟩) ?_ ?_
        rotate_left
        · intro w'
          go_simp
          with_reducible rfl
        rotate_left
        · simp only [Act.put, List.setIfInBounds_toArray, List.set_cons_zero, List.set_cons_succ, i64_w, i32_w]
          rfl
        refine one_ (i := 7) (N := some 9) #[true, true, true, true, true, true, true, true, false, false] rfl rfl (by kernel_rfl) (by decide) (fun K hK => ?_)
        refine value_ (w1 := ?_) (v := ?_) (by rfl) rfl ?_ ?_
        rotate_left 2
        · go_simp
          constructor
          · rfl
          · rfl
        refine hK.out _ _ ⟨(blk_cell (blk_alloc BX7_impl.out _) 0).trans rfl, (blk_cell (blk_alloc BX7_impl.out _) 1).trans rfl, (blk_cell (blk_alloc BC7_impl.out _) 0).trans rfl, (blk_cell (blk_alloc BC7_impl.out _) 1).trans rfl, (blk_cell (blk_alloc BC7_impl.out _) 2).trans rfl⟩ (fun hHeld => ?_)
        clear hK K
        refine norm_ (a' := ?_) ?_ ?_
        rotate_left
        · show Act.put _ (some 9) _ = _
          simp only [Act.put, List.setIfInBounds_toArray, List.set_cons_zero, List.set_cons_succ, i64_w, i32_w]
          rfl
        exact norm_ (by simp only [putAll, Act.put, List.setIfInBounds_toArray, List.set_cons_zero, List.set_cons_succ]) (hCont (A5, c5, (w7_impl).heap.size) _ ⟨⟨(below_alloc HB7_impl.out _)⟩, ⟨(blk_alloc BK7_impl.out _)⟩, ⟨(blk_alloc BC7_impl.out _)⟩, ⟨(blk_alloc BW7_impl.out _)⟩, ⟨(Kd.R_alloc HW7_impl.out _)⟩, ⟨(Kd.R_alloc HY7_impl.out _)⟩, ⟨(Kd.R_alloc HX7_impl.out _)⟩, ⟨(blk_alloc BX7_impl.out _)⟩, ⟨(Kd.R_mono (Kd.R_bound (Kd.R_types (Kd.R_alloc RW7_impl.out _) (blk_new _ _) (by decide))) (fun k_ hk => ⟨Nat.le_trans (Nat.le_trans (Nat.le_of_eq HS4b.out.symm) SZ7_clue.out) hk.1.1.2.1, hk.1.2⟩))⟩, ⟨(blk_new _ _)⟩, ⟨SZ7_impl.out⟩⟩)
      · skip
        refine value_ (w1 := ?_) (v := ?_) (by rfl) rfl ?_ ?_
        rotate_left 2
        · go_simp
          constructor
          · rfl
          · rfl
        refine hK.out _ _ ⟨(blk_cell (blk_alloc BX7_clue.out _) 0).trans rfl, (blk_cell (blk_alloc BX7_clue.out _) 1).trans rfl, (blk_cell (blk_alloc BC7_clue.out _) 0).trans rfl, (blk_cell (blk_alloc BC7_clue.out _) 1).trans rfl, (blk_cell (blk_alloc BC7_clue.out _) 2).trans rfl⟩ (fun hHeld => ?_)
        clear hK K
        refine norm_ (a' := ?_) ?_ ?_
        rotate_left
        · show Act.put _ (some 9) _ = _
          simp only [Act.put, List.setIfInBounds_toArray, List.set_cons_zero, List.set_cons_succ, i64_w, i32_w]
          rfl
        refine one_ (i := 3) (N := some 35) #[true, true, true, true, false, false, false, true, false, false] rfl rfl (by kernel_rfl) (by decide) (fun K hK => ?_)
        refine goes_ Try.func30 (by kernel_rfl) rfl #[.agg #[.int .i64 a0_0, .slice A4 L.length c4], .agg #[.int .i64 a1_0, .int .i64 a1_1, .int .i64 a1_2]] (by rfl) rfl rfl (by simp only [List.map_toArray, List.map_cons, List.map_nil]; rfl) ?_
        with_reducible refine (impl_AddClue.calls a0_0 _ _ L a1_0 a1_1 a1_2 r1 G r2 _ (C_cut (Kd.R_reads' (Kd.R_alloc HY7_clue.out _)).2.2 HL.out HLl.out HL2.out) (Nat.le_trans HL2.out HC4'.out) H2.out).mono ?_
        rintro e w7_impl ⟨vR, rfl, ho, hb⟩
        obtain ⟨A5, c5, rfl⟩ := Kd.R_slice ho
        refine ⟨_, rfl, ?_⟩
        have RW7_impl := Aside0.mk (Kd.R_lower (Kd.R_bound ho) (below_size (below_alloc HB7_clue.out _)))
        have HB7_impl : Aside0 (Below w.heap.size w w7_impl) := ⟨below_step (below_alloc HB7_clue.out _) hb⟩
        have BK7_impl : Aside0 (w7_impl.heap[w.heap.size]? = some (.cells #[.int .i64 a0_0, .slice A0_1 l0_1.length c0_1] 30 (0, 0))) := ⟨blk_below (blk_alloc BK7_clue.out _) hb⟩
        have BC7_impl : Aside0 (w7_impl.heap[w.heap.size + 1]? = some (.cells #[.int .i64 a1_0, .int .i64 a1_1, .int .i64 a1_2] 23 (0, 0))) := ⟨blk_below (blk_alloc BC7_clue.out _) hb⟩
        have BW7_impl : Aside0 (w7_impl.heap[gw]? = some (.cells #[.int .i64 r1, .slice A3 G.length c3] 35 (0, 0))) := ⟨blk_below (blk_alloc BW7_clue.out _) hb⟩
        have HW7_impl : Aside0 (Kd.R k25 25 w7_impl w.heap.size (fun k_ => k_ < w3.heap.size ∧ k_ ≠ gw) (.slice A3 G.length c3) G) := ⟨Kd.R_below (Kd.R_alloc HW7_clue.out _) hb⟩
        have HY7_impl : Aside0 (Kd.R k25 25 w7_impl w.heap.size (fun k_ => w3.heap.size ≤ k_ ∧ k_ < w4.heap.size) (.slice A4 F.length c4) F) := ⟨Kd.R_below (Kd.R_alloc HY7_clue.out _) hb⟩
        have HX7_impl : Aside0 (Kd.R k25 25 w7_impl w.heap.size (fun k_ => w3.heap.size ≤ k_ ∧ k_ < w4.heap.size) (.slice A4 L.length c4) L) := ⟨Kd.R_below (Kd.R_alloc HX7_clue.out _) hb⟩
        have BX7_impl : Aside0 (w7_impl.heap[w4.heap.size]? = some (.cells #[.int .i64 a0_0, .slice A4 L.length c4] 35 (0, 0))) := ⟨blk_below (blk_alloc BX7_clue.out _) hb⟩
        have BZ7_impl := Aside0.mk (blk_below (blk_new _ _) hb)
        have SZ7_impl : Aside0 (w4b.heap.size ≤ w7_impl.heap.size) := ⟨Nat.le_trans (Nat.le_trans SZ7_clue.out (by simp)) hb.size⟩
        clear hb ho
        refine hK.out _ _ ⟨(blk_cell BX7_impl.out 0).trans rfl, (blk_cell BX7_impl.out 1).trans rfl, (blk_cell BC7_impl.out 0).trans rfl, (blk_cell BC7_impl.out 1).trans rfl, (blk_cell BC7_impl.out 2).trans rfl⟩ (fun hHeld => ?_)
        clear hK K
        refine norm_ (a' := ?_) ?_ ?_
        rotate_left
        · show Act.put _ (some 35) _ = _
          simp only [Act.put, List.setIfInBounds_toArray, List.set_cons_zero, List.set_cons_succ, i64_w, i32_w]
          rfl
        refine pure_ (i := 4) (N := some 31) (v := ?_) (a' := ?_) #[true, true, true, true, true, false, false, true, false, false] rfl rfl (by kernel_rfl) (fun _ _ _ h => h) (Or.inl ⟨by rfl, ?_⟩) ?_ ?_
        rotate_left
        · intro w'
          go_simp
          with_reducible rfl
        rotate_left
        · simp only [Act.put, List.setIfInBounds_toArray, List.set_cons_zero, List.set_cons_succ, i64_w, i32_w]
          rfl
        refine pure_ (i := 5) (N := some 36) (v := ?_) (a' := ?_) #[true, true, true, true, true, true, false, true, false, false] rfl rfl (by kernel_rfl) (fun _ _ _ h => h) (Or.inl ⟨by rfl, ?_⟩) ?_ ?_
        rotate_left
        · intro w'
          go_simp
          with_reducible rfl
        rotate_left
        · simp only [Act.put, List.setIfInBounds_toArray, List.set_cons_zero, List.set_cons_succ, i64_w, i32_w]
          rfl
        refine pure_ (i := 6) (N := some 37) (v := ?_) (a' := ?_) #[true, true, true, true, true, true, true, true, false, false] rfl rfl (by kernel_rfl) (fun _ _ _ h => h) (Or.inl ⟨by rfl, ?_⟩) ?_ ?_
        rotate_left
        · intro w'
          go_simp
          with_reducible rfl
        rotate_left
        · simp only [Act.put, List.setIfInBounds_toArray, List.set_cons_zero, List.set_cons_succ, i64_w, i32_w]
          rfl
        exact norm_ (by simp only [putAll, Act.put, List.setIfInBounds_toArray, List.set_cons_zero, List.set_cons_succ]) (hCont (A5, c5, (w7_clue).heap.size) _ ⟨⟨HB7_impl.out⟩, ⟨BK7_impl.out⟩, ⟨BC7_impl.out⟩, ⟨BW7_impl.out⟩, ⟨HW7_impl.out⟩, ⟨HY7_impl.out⟩, ⟨HX7_impl.out⟩, ⟨BX7_impl.out⟩, ⟨(Kd.R_mono (Kd.R_bound (Kd.R_types RW7_impl.out BZ7_impl.out (by decide))) (fun k_ hk => ⟨Nat.le_trans (Nat.le_trans (Nat.le_of_eq HS4b.out.symm) (Nat.le_trans SZ7_clue.out (by simp))) hk.1.1.2.1, hk.1.2⟩))⟩, ⟨BZ7_impl.out⟩, ⟨SZ7_clue.out⟩⟩)
    · skip
      refine value_ (w1 := ?_) (v := ?_) (by rfl) rfl ?_ ?_
      rotate_left 2
      · go_simp
        constructor
        · rfl
        · rfl
      refine hK.out _ _ ⟨(blk_cell (blk_drew (blk_alloc BX4.out _)) 0).trans rfl, (blk_cell (blk_drew (blk_alloc BX4.out _)) 1).trans rfl, (blk_cell (blk_drew (blk_alloc BC4.out _)) 0).trans rfl, (blk_cell (blk_drew (blk_alloc BC4.out _)) 1).trans rfl, (blk_cell (blk_drew (blk_alloc BC4.out _)) 2).trans rfl⟩ (fun hHeld => ?_)
      clear hK K
      refine norm_ (a' := ?_) ?_ ?_
      rotate_left
      · show Act.put _ (some 9) _ = _
        simp only [Act.put, List.setIfInBounds_toArray, List.set_cons_zero, List.set_cons_succ, i64_w, i32_w]
        rfl
      refine one_ (i := 2) (N := some 34) #[true, true, true, false, false, false, false, true, false, false] rfl rfl (by kernel_rfl) (by decide) (fun K hK => ?_)
      refine goes_ Try.func20 (by kernel_rfl) rfl #[.agg #[.int .i64 a1_0, .int .i64 a1_1, .int .i64 a1_2]] (by rfl) rfl rfl (by simp only [List.map_toArray, List.map_cons, List.map_nil]; rfl) ?_
      with_reducible refine (laws_toClue.calls a1_0 a1_1 a1_2 a1_0 a1_1 a1_2 _ HTC.out).mono ?_
      rintro e w7_clue ⟨rfl, hb⟩
      refine ⟨_, rfl, ?_⟩
      have HB7_clue : Aside0 (Below w.heap.size w w7_clue) := ⟨below_step (below_drew1 (below_alloc HB4.out _)) hb⟩
      have BK7_clue : Aside0 (w7_clue.heap[w.heap.size]? = some (.cells #[.int .i64 a0_0, .slice A0_1 l0_1.length c0_1] 30 (0, 0))) := ⟨blk_below (blk_drew (blk_alloc BK4.out _)) hb⟩
      have BC7_clue : Aside0 (w7_clue.heap[w.heap.size + 1]? = some (.cells #[.int .i64 a1_0, .int .i64 a1_1, .int .i64 a1_2] 23 (0, 0))) := ⟨blk_below (blk_drew (blk_alloc BC4.out _)) hb⟩
      have BW7_clue : Aside0 (w7_clue.heap[gw]? = some (.cells #[.int .i64 r1, .slice A3 G.length c3] 35 (0, 0))) := ⟨blk_below (blk_drew (blk_alloc BW4.out _)) hb⟩
      have HW7_clue : Aside0 (Kd.R k25 25 w7_clue w.heap.size (fun k_ => k_ < w3.heap.size ∧ k_ ≠ gw) (.slice A3 G.length c3) G) := ⟨Kd.R_below (Kd.R_drew (Kd.R_alloc HW4.out _)) hb⟩
      have HY7_clue : Aside0 (Kd.R k25 25 w7_clue w.heap.size (fun k_ => w3.heap.size ≤ k_ ∧ k_ < w4.heap.size) (.slice A4 F.length c4) F) := ⟨Kd.R_below (Kd.R_drew (Kd.R_alloc HY4.out _)) hb⟩
      have HX7_clue : Aside0 (Kd.R k25 25 w7_clue w.heap.size (fun k_ => w3.heap.size ≤ k_ ∧ k_ < w4.heap.size) (.slice A4 L.length c4) L) := ⟨Kd.R_below (Kd.R_drew (Kd.R_alloc HX4.out _)) hb⟩
      have BX7_clue : Aside0 (w7_clue.heap[w4.heap.size]? = some (.cells #[.int .i64 a0_0, .slice A4 L.length c4] 35 (0, 0))) := ⟨blk_below (blk_drew (blk_alloc BX4.out _)) hb⟩
      have BZ7_clue := Aside0.mk (blk_below (blk_drew (blk_new _ _)) hb)
      have SZ7_clue : Aside0 (w4b.heap.size ≤ w7_clue.heap.size) := ⟨Nat.le_trans (show w4b.heap.size ≤ (w4b.alloc (.cells #[.int .i64 0, .slice none 0 0] 35 (0, 0))).heap.size by simp) hb.size⟩
      clear hb
      refine hK.out _ _ ⟨(blk_cell BX7_clue.out 0).trans rfl, (blk_cell BX7_clue.out 1).trans rfl, (blk_cell BC7_clue.out 0).trans rfl, (blk_cell BC7_clue.out 1).trans rfl, (blk_cell BC7_clue.out 2).trans rfl⟩ (fun hHeld => ?_)
      clear hK K
      refine norm_ (a' := ?_) ?_ ?_
      rotate_left
      · show Act.put _ (some 34) _ = _
        simp only [Act.put, List.setIfInBounds_toArray, List.set_cons_zero, List.set_cons_succ, i64_w, i32_w]
        rfl
      refine one_ (i := 3) (N := some 35) #[true, true, true, true, false, false, false, true, false, false] rfl rfl (by kernel_rfl) (by decide) (fun K hK => ?_)
      refine goes_ Try.func30 (by kernel_rfl) rfl #[.agg #[.int .i64 a0_0, .slice A4 L.length c4], .agg #[.int .i64 a1_0, .int .i64 a1_1, .int .i64 a1_2]] (by rfl) rfl rfl (by simp only [List.map_toArray, List.map_cons, List.map_nil]; rfl) ?_
      with_reducible refine (impl_AddClue.calls a0_0 _ _ L a1_0 a1_1 a1_2 r1 G r2 _ (C_cut (Kd.R_reads' HY7_clue.out).2.2 HL.out HLl.out HL2.out) (Nat.le_trans HL2.out HC4'.out) H2.out).mono ?_
      rintro e w7_impl ⟨vR, rfl, ho, hb⟩
      obtain ⟨A5, c5, rfl⟩ := Kd.R_slice ho
      refine ⟨_, rfl, ?_⟩
      have RW7_impl := Aside0.mk (Kd.R_lower (Kd.R_bound ho) (below_size HB7_clue.out))
      have HB7_impl : Aside0 (Below w.heap.size w w7_impl) := ⟨below_step HB7_clue.out hb⟩
      have BK7_impl : Aside0 (w7_impl.heap[w.heap.size]? = some (.cells #[.int .i64 a0_0, .slice A0_1 l0_1.length c0_1] 30 (0, 0))) := ⟨blk_below BK7_clue.out hb⟩
      have BC7_impl : Aside0 (w7_impl.heap[w.heap.size + 1]? = some (.cells #[.int .i64 a1_0, .int .i64 a1_1, .int .i64 a1_2] 23 (0, 0))) := ⟨blk_below BC7_clue.out hb⟩
      have BW7_impl : Aside0 (w7_impl.heap[gw]? = some (.cells #[.int .i64 r1, .slice A3 G.length c3] 35 (0, 0))) := ⟨blk_below BW7_clue.out hb⟩
      have HW7_impl : Aside0 (Kd.R k25 25 w7_impl w.heap.size (fun k_ => k_ < w3.heap.size ∧ k_ ≠ gw) (.slice A3 G.length c3) G) := ⟨Kd.R_below HW7_clue.out hb⟩
      have HY7_impl : Aside0 (Kd.R k25 25 w7_impl w.heap.size (fun k_ => w3.heap.size ≤ k_ ∧ k_ < w4.heap.size) (.slice A4 F.length c4) F) := ⟨Kd.R_below HY7_clue.out hb⟩
      have HX7_impl : Aside0 (Kd.R k25 25 w7_impl w.heap.size (fun k_ => w3.heap.size ≤ k_ ∧ k_ < w4.heap.size) (.slice A4 L.length c4) L) := ⟨Kd.R_below HX7_clue.out hb⟩
      have BX7_impl : Aside0 (w7_impl.heap[w4.heap.size]? = some (.cells #[.int .i64 a0_0, .slice A4 L.length c4] 35 (0, 0))) := ⟨blk_below BX7_clue.out hb⟩
      have BZ7_impl := Aside0.mk (blk_below BZ7_clue.out hb)
      have SZ7_impl : Aside0 (w4b.heap.size ≤ w7_impl.heap.size) := ⟨Nat.le_trans SZ7_clue.out hb.size⟩
      clear hb ho
      refine hK.out _ _ ⟨(blk_cell BX7_impl.out 0).trans rfl, (blk_cell BX7_impl.out 1).trans rfl, (blk_cell BC7_impl.out 0).trans rfl, (blk_cell BC7_impl.out 1).trans rfl, (blk_cell BC7_impl.out 2).trans rfl⟩ (fun hHeld => ?_)
      clear hK K
      refine norm_ (a' := ?_) ?_ ?_
      rotate_left
      · show Act.put _ (some 35) _ = _
        simp only [Act.put, List.setIfInBounds_toArray, List.set_cons_zero, List.set_cons_succ, i64_w, i32_w]
        rfl
      refine pure_ (i := 4) (N := some 31) (v := ?_) (a' := ?_) #[true, true, true, true, true, false, false, true, false, false] rfl rfl (by kernel_rfl) (fun _ _ _ h => h) (Or.inl ⟨by rfl, ?_⟩) ?_ ?_
      rotate_left
      · intro w'
        go_simp
        with_reducible rfl
      rotate_left
      · simp only [Act.put, List.setIfInBounds_toArray, List.set_cons_zero, List.set_cons_succ, i64_w, i32_w]
        rfl
      refine pure_ (i := 5) (N := some 36) (v := ?_) (a' := ?_) #[true, true, true, true, true, true, false, true, false, false] rfl rfl (by kernel_rfl) (fun _ _ _ h => h) (Or.inl ⟨by rfl, ?_⟩) ?_ ?_
      rotate_left
      · intro w'
        go_simp
        with_reducible rfl
      rotate_left
      · simp only [Act.put, List.setIfInBounds_toArray, List.set_cons_zero, List.set_cons_succ, i64_w, i32_w]
        rfl
      refine pure_ (i := 6) (N := some 37) (v := ?_) (a' := ?_) #[true, true, true, true, true, true, true, true, false, false] rfl rfl (by kernel_rfl) (fun _ _ _ h => h) (Or.inl ⟨by rfl, ?_⟩) ?_ ?_
      rotate_left
      · intro w'
        go_simp
        with_reducible rfl
      rotate_left
      · simp only [Act.put, List.setIfInBounds_toArray, List.set_cons_zero, List.set_cons_succ, i64_w, i32_w]
        rfl
      exact norm_ (by simp only [putAll, Act.put, List.setIfInBounds_toArray, List.set_cons_zero, List.set_cons_succ]) (hCont (A5, c5, w4b.heap.size) _ ⟨⟨HB7_impl.out⟩, ⟨BK7_impl.out⟩, ⟨BC7_impl.out⟩, ⟨BW7_impl.out⟩, ⟨HW7_impl.out⟩, ⟨HY7_impl.out⟩, ⟨HX7_impl.out⟩, ⟨BX7_impl.out⟩, ⟨(Kd.R_mono (Kd.R_bound (Kd.R_types RW7_impl.out BZ7_impl.out (by decide))) (fun k_ hk => ⟨Nat.le_trans (Nat.le_trans (Nat.le_of_eq HS4b.out.symm) SZ7_clue.out) hk.1.1.2.1, hk.1.2⟩))⟩, ⟨BZ7_impl.out⟩, ⟨(Nat.le_refl _)⟩⟩)
  rintro ⟨A5, c5, gg⟩ w7_e ⟨HB7_, BK7_, BC7_, BW7_, HW7_, HY7_, HX7_, BX7_, RW7_, BZ7_, LB7_⟩
  have hHeld : w7_e.cell? ⟨w4.heap.size, 0, none⟩ = some (.int .i64 a0_0) ∧ w7_e.cell? ⟨w4.heap.size, 1, none⟩ = some (.slice A4 L.length c4) ∧ w7_e.cell? ⟨w.heap.size + 1, 0, none⟩ = some (.int .i64 a1_0) ∧ w7_e.cell? ⟨w.heap.size + 1, 1, none⟩ = some (.int .i64 a1_1) ∧ w7_e.cell? ⟨w.heap.size + 1, 2, none⟩ = some (.int .i64 a1_2) := ⟨(blk_cell BX7_.out 0).trans rfl, (blk_cell BX7_.out 1).trans rfl, (blk_cell BC7_.out 0).trans rfl, (blk_cell BC7_.out 1).trans rfl, (blk_cell BC7_.out 2).trans rfl⟩
  refine norm_ (a' := ?_) ?_ ?_
  rotate_left
  · simp only [putAll, Act.put, List.setIfInBounds_toArray, List.set_cons_zero, List.set_cons_succ]
    rfl
  refine one_ (i := 8) (N := none) #[true, true, true, true, true, true, true, true, true, false] rfl rfl (by kernel_rfl) (by decide) (fun K hK => ?_)
  have hz0 : w7_e.cell? ⟨gg, 0, none⟩ = some (.int .i64 0) := (blk_cell BZ7_.out 0).trans rfl
  have hz1 : w7_e.cell? ⟨gg, 1, none⟩ = some (.slice none 0 0) := (blk_cell BZ7_.out 1).trans rfl
  have fz0 := blk_frozen BZ7_.out 0
  have fz1 := blk_frozen BZ7_.out 1
  refine skip_ (w1 := ?_) (by rfl) rfl ?_ ?_
  rotate_left
  · go_simp
    rfl
  refine hK.out _ _ ⟨(blk_cell (blk_far (blk_far BX7_.out (by show w4.heap.size ≠ gg; have h1_ : w4b.heap.size ≤ gg := LB7_.out; have h3_ := blk_lt BX4.out; omega) _) (by show w4.heap.size ≠ gg; have h1_ : w4b.heap.size ≤ gg := LB7_.out; have h3_ := blk_lt BX4.out; omega) _) 0).trans rfl, (blk_cell (blk_far (blk_far BX7_.out (by show w4.heap.size ≠ gg; have h1_ : w4b.heap.size ≤ gg := LB7_.out; have h3_ := blk_lt BX4.out; omega) _) (by show w4.heap.size ≠ gg; have h1_ : w4b.heap.size ≤ gg := LB7_.out; have h3_ := blk_lt BX4.out; omega) _) 1).trans rfl, (blk_cell (blk_far (blk_far BC7_.out (by show w.heap.size + 1 ≠ gg; have h1_ : w4b.heap.size ≤ gg := LB7_.out; have h3_ := blk_lt BC4.out; omega) _) (by show w.heap.size + 1 ≠ gg; have h1_ : w4b.heap.size ≤ gg := LB7_.out; have h3_ := blk_lt BC4.out; omega) _) 0).trans rfl, (blk_cell (blk_far (blk_far BC7_.out (by show w.heap.size + 1 ≠ gg; have h1_ : w4b.heap.size ≤ gg := LB7_.out; have h3_ := blk_lt BC4.out; omega) _) (by show w.heap.size + 1 ≠ gg; have h1_ : w4b.heap.size ≤ gg := LB7_.out; have h3_ := blk_lt BC4.out; omega) _) 1).trans rfl, (blk_cell (blk_far (blk_far BC7_.out (by show w.heap.size + 1 ≠ gg; have h1_ : w4b.heap.size ≤ gg := LB7_.out; have h3_ := blk_lt BC4.out; omega) _) (by show w.heap.size + 1 ≠ gg; have h1_ : w4b.heap.size ≤ gg := LB7_.out; have h3_ := blk_lt BC4.out; omega) _) 2).trans rfl⟩ (fun hHeld => ?_)
  clear hK K
  refine pure_ (i := 9) (N := some 10) (v := ?_) (a' := ?_) #[true, true, true, true, true, true, true, true, true, true] rfl rfl (by kernel_rfl) (fun _ _ _ h => h) (Or.inl ⟨by rfl, ?_⟩) ?_ ?_
  rotate_left
  · intro w'
    go_simp
    with_reducible rfl
  rotate_left
  · simp only [Act.put, List.setIfInBounds_toArray, List.set_cons_zero, List.set_cons_succ, i64_w, i32_w]
    rfl
  refine done_ (by kernel_rfl) ?_
  obtain ⟨w5, hw_⟩ : ∃ W_, W_ = ((w7_e.setCell ⟨gg, 0, none⟩ (.int .i64 r1)).setCell ⟨gg, 1, none⟩ (.slice A5 G.length c5)) := ⟨_, rfl⟩
  rw [← hw_]
  have hsz_ : w5.heap.size = w7_e.heap.size := by rw [hw_]; simp
  have HSZw5 := Aside0.mk hsz_
  have HB5 : Aside0 (Below w.heap.size w w5) := ⟨by rw [hw_]; exact below_set (below_set HB7_.out (by have h1_ : w4b.heap.size ≤ gg := LB7_.out; have h2_ := HS4b.out; have h3_ := HS34.out; have h4_ := HGW.out; omega)) (by have h1_ : w4b.heap.size ≤ gg := LB7_.out; have h2_ := HS4b.out; have h3_ := HS34.out; have h4_ := HGW.out; omega)⟩
  have BK5 : Aside0 (w5.heap[w.heap.size]? = some (.cells #[.int .i64 a0_0, .slice A0_1 l0_1.length c0_1] 30 (0, 0))) := ⟨by rw [hw_]; exact blk_far (blk_far BK7_.out (by show _ ≠ gg; have h1_ : w4b.heap.size ≤ gg := LB7_.out; have h2_ := HS4b.out; have h3_ := HS34.out; have h4_ := HGW.out; omega) _) (by show _ ≠ gg; have h1_ : w4b.heap.size ≤ gg := LB7_.out; have h2_ := HS4b.out; have h3_ := HS34.out; have h4_ := HGW.out; omega) _⟩
  have BC5 : Aside0 (w5.heap[w.heap.size + 1]? = some (.cells #[.int .i64 a1_0, .int .i64 a1_1, .int .i64 a1_2] 23 (0, 0))) := ⟨by rw [hw_]; exact blk_far (blk_far BC7_.out (by show _ ≠ gg; have h1_ : w4b.heap.size ≤ gg := LB7_.out; have h2_ := HS4b.out; have h3_ := HS34.out; have h4_ := HGW.out; omega) _) (by show _ ≠ gg; have h1_ : w4b.heap.size ≤ gg := LB7_.out; have h2_ := HS4b.out; have h3_ := HS34.out; have h4_ := HGW.out; omega) _⟩
  have BW5 : Aside0 (w5.heap[gw]? = some (.cells #[.int .i64 r1, .slice A3 G.length c3] 35 (0, 0))) := ⟨by rw [hw_]; exact blk_far (blk_far BW7_.out (by show _ ≠ gg; have h1_ : w4b.heap.size ≤ gg := LB7_.out; have h2_ := HS4b.out; have h3_ := HS34.out; have h4_ := HGW.out; omega) _) (by show _ ≠ gg; have h1_ : w4b.heap.size ≤ gg := LB7_.out; have h2_ := HS4b.out; have h3_ := HS34.out; have h4_ := HGW.out; omega) _⟩
  have HW5 : Aside0 (Kd.R k25 25 w5 w.heap.size (fun k_ => k_ < w3.heap.size ∧ k_ ≠ gw) (.slice A3 G.length c3) G) := ⟨by rw [hw_]; exact Kd.R_far (Kd.R_far HW7_.out (fun k_ hk => by show k_ ≠ gg; have h1_ : w4b.heap.size ≤ gg := LB7_.out; have h2_ := HS4b.out; have h3_ := HS34.out; have h4_ := HGW.out; omega) _) (fun k_ hk => by show k_ ≠ gg; have h1_ : w4b.heap.size ≤ gg := LB7_.out; have h2_ := HS4b.out; have h3_ := HS34.out; have h4_ := HGW.out; omega) _⟩
  have HY5 : Aside0 (Kd.R k25 25 w5 w.heap.size (fun k_ => w3.heap.size ≤ k_ ∧ k_ < w4.heap.size) (.slice A4 F.length c4) F) := ⟨by rw [hw_]; exact Kd.R_far (Kd.R_far HY7_.out (fun k_ hk => by show k_ ≠ gg; have h1_ : w4b.heap.size ≤ gg := LB7_.out; have h2_ := HS4b.out; have h3_ := HS34.out; have h4_ := HGW.out; omega) _) (fun k_ hk => by show k_ ≠ gg; have h1_ : w4b.heap.size ≤ gg := LB7_.out; have h2_ := HS4b.out; have h3_ := HS34.out; have h4_ := HGW.out; omega) _⟩
  have HX5 : Aside0 (Kd.R k25 25 w5 w.heap.size (fun k_ => w3.heap.size ≤ k_ ∧ k_ < w4.heap.size) (.slice A4 L.length c4) L) := ⟨by rw [hw_]; exact Kd.R_far (Kd.R_far HX7_.out (fun k_ hk => by show k_ ≠ gg; have h1_ : w4b.heap.size ≤ gg := LB7_.out; have h2_ := HS4b.out; have h3_ := HS34.out; have h4_ := HGW.out; omega) _) (fun k_ hk => by show k_ ≠ gg; have h1_ : w4b.heap.size ≤ gg := LB7_.out; have h2_ := HS4b.out; have h3_ := HS34.out; have h4_ := HGW.out; omega) _⟩
  have BX5 : Aside0 (w5.heap[w4.heap.size]? = some (.cells #[.int .i64 a0_0, .slice A4 L.length c4] 35 (0, 0))) := ⟨by rw [hw_]; exact blk_far (blk_far BX7_.out (by show _ ≠ gg; have h1_ : w4b.heap.size ≤ gg := LB7_.out; have h2_ := HS4b.out; have h3_ := HS34.out; have h4_ := HGW.out; omega) _) (by show _ ≠ gg; have h1_ : w4b.heap.size ≤ gg := LB7_.out; have h2_ := HS4b.out; have h3_ := HS34.out; have h4_ := HGW.out; omega) _⟩
  have BG5 : Aside0 (w5.heap[gg]? = some (.cells #[.int .i64 r1, .slice A5 G.length c5] 35 (0, 0))) := ⟨by rw [hw_]; exact blk_put (blk_put BZ7_.out 0 _ rfl) 1 _ rfl⟩
  have HG5 : Aside0 (Kd.R k25 25 w5 w.heap.size (fun k_ => w4.heap.size + 1 ≤ k_ ∧ k_ ≠ gg) (.slice A5 G.length c5) G) := ⟨by rw [hw_]; exact Kd.R_far (Kd.R_far RW7_.out (fun k_ hk => hk.2) _) (fun k_ hk => hk.2) _⟩
  have HGG : Aside0 (w4.heap.size + 1 ≤ gg) := ⟨by have h1_ : w4b.heap.size ≤ gg := LB7_.out; have h2_ := HS4b.out; omega⟩
  clear hw_ hsz_ hHeld
  clear HB7_ BK7_ BC7_ BW7_ HW7_ HY7_ HX7_ BX7_ RW7_ BZ7_ LB7_
  clear HB4 BK4 BC4 BW4 HW4 HY4 HX4 BX4
  have cw50 := (blk_cell BW5.out 0).trans rfl
  have cw51 := (blk_cell BW5.out 1).trans rfl
  have cg50 := (blk_cell BG5.out 0).trans rfl
  have cg51 := (blk_cell BG5.out 1).trans rfl
  go_wp2_with fail
  refine (laws_eqPuzzle.calls k r1 _ _ G r1 _ _ G true _ (Kd.R_reads' HG5.out).2.2 (Kd.R_reads' HG5.out).2.1 (Kd.R_reads' HW5.out).2.2 (Kd.R_reads' HW5.out).2.1 HQ.out).mono ?_
  rintro e w6 ⟨rfl, hb⟩
  have HB6 : Aside0 (Below w.heap.size w w6) := ⟨below_step HB5.out hb⟩
  have BK6 : Aside0 (w6.heap[w.heap.size]? = some (.cells #[.int .i64 a0_0, .slice A0_1 l0_1.length c0_1] 30 (0, 0))) := ⟨blk_below BK5.out hb⟩
  have BC6 : Aside0 (w6.heap[w.heap.size + 1]? = some (.cells #[.int .i64 a1_0, .int .i64 a1_1, .int .i64 a1_2] 23 (0, 0))) := ⟨blk_below BC5.out hb⟩
  have BW6 : Aside0 (w6.heap[gw]? = some (.cells #[.int .i64 r1, .slice A3 G.length c3] 35 (0, 0))) := ⟨blk_below BW5.out hb⟩
  have HW6 : Aside0 (Kd.R k25 25 w6 w.heap.size (fun k_ => k_ < w3.heap.size ∧ k_ ≠ gw) (.slice A3 G.length c3) G) := ⟨Kd.R_below HW5.out hb⟩
  have HY6 : Aside0 (Kd.R k25 25 w6 w.heap.size (fun k_ => w3.heap.size ≤ k_ ∧ k_ < w4.heap.size) (.slice A4 F.length c4) F) := ⟨Kd.R_below HY5.out hb⟩
  have HX6 : Aside0 (Kd.R k25 25 w6 w.heap.size (fun k_ => w3.heap.size ≤ k_ ∧ k_ < w4.heap.size) (.slice A4 L.length c4) L) := ⟨Kd.R_below HX5.out hb⟩
  have BX6 : Aside0 (w6.heap[w4.heap.size]? = some (.cells #[.int .i64 a0_0, .slice A4 L.length c4] 35 (0, 0))) := ⟨blk_below BX5.out hb⟩
  have HG6 : Aside0 (Kd.R k25 25 w6 w.heap.size (fun k_ => w4.heap.size + 1 ≤ k_ ∧ k_ ≠ gg) (.slice A5 G.length c5) G) := ⟨Kd.R_below HG5.out hb⟩
  have BG6 : Aside0 (w6.heap[gg]? = some (.cells #[.int .i64 r1, .slice A5 G.length c5] 35 (0, 0))) := ⟨blk_below BG5.out hb⟩
  clear HB5 BK5 BC5 BW5 HW5 HY5 HX5 BX5 HG5 BG5 hb cw50 cw51 cg50 cg51
  have hr2 : (r2 != r2) = false := by simp
  have ck60 := (blk_cell BK6.out 0).trans rfl
  have ck61 := (blk_cell BK6.out 1).trans rfl
  have cx60 := (blk_cell BX6.out 0).trans rfl
  have cx61 := (blk_cell BX6.out 1).trans rfl
  go_wp2_with fail
  have HB6' : Aside0 (∀ W, Below w6.heap.size w6 W → Below w.heap.size w W) := ⟨fun W h_ => below_step HB6.out h_⟩
  go_region_held3 (fun w' => w'.cell? ⟨w.heap.size, 0, none⟩ = some (.int .i64 a0_0) ∧ w'.cell? ⟨w.heap.size, 1, none⟩ = some (.slice A0_1 l0_1.length c0_1) ∧ w'.cell? ⟨w4.heap.size, 0, none⟩ = some (.int .i64 a0_0) ∧ w'.cell? ⟨w4.heap.size, 1, none⟩ = some (.slice A4 L.length c4)) (first | exact ⟨ck60, ck61, cx60, cx61⟩ | exact ⟨ck70, ck71, cx70, cx71⟩ | exact ⟨ck80, ck81, cx80, cx81⟩) (first
    | (go_at_call 24; refine (full_toPuzzle k a0_0 _ _ l0_1 false F _ (Kd.C_below HR.out (below_drew1 HB6.out)) HC.out HF.out).mono ?_; rintro e w7 hp; obtain ⟨A7, n7, c7, rfl, hR7, hn7, hb⟩ := hp; obtain rfl : n7 = L.length := (by rcases hn7 with h_ | ⟨h_, h2_⟩; exact h_.trans HLl.out.symm; exact h2_.trans (by rw [← HL.out, h_]; simp)); have hq7 := Kd.R_reads' hR7; have hb7 : Below w6.heap.size w6 w7 := below_step (below_drew1 (Below.refl _ _)) hb; have HB7 : Aside0 (Below w.heap.size w w7) := ⟨HB6'.out _ hb7⟩; have BK7 : Aside0 (w7.heap[w.heap.size]? = some (.cells #[.int .i64 a0_0, .slice A0_1 l0_1.length c0_1] 30 (0, 0))) := ⟨blk_below BK6.out hb7⟩; have BC7 : Aside0 (w7.heap[w.heap.size + 1]? = some (.cells #[.int .i64 a1_0, .int .i64 a1_1, .int .i64 a1_2] 23 (0, 0))) := ⟨blk_below BC6.out hb7⟩; have BW7 : Aside0 (w7.heap[gw]? = some (.cells #[.int .i64 r1, .slice A3 G.length c3] 35 (0, 0))) := ⟨blk_below BW6.out hb7⟩; have HW7 : Aside0 (Kd.R k25 25 w7 w.heap.size (fun k_ => k_ < w3.heap.size ∧ k_ ≠ gw) (.slice A3 G.length c3) G) := ⟨Kd.R_below HW6.out hb7⟩; have HY7 : Aside0 (Kd.R k25 25 w7 w.heap.size (fun k_ => w3.heap.size ≤ k_ ∧ k_ < w4.heap.size) (.slice A4 F.length c4) F) := ⟨Kd.R_below HY6.out hb7⟩; have HX7 : Aside0 (Kd.R k25 25 w7 w.heap.size (fun k_ => w3.heap.size ≤ k_ ∧ k_ < w4.heap.size) (.slice A4 L.length c4) L) := ⟨Kd.R_below HX6.out hb7⟩; have BX7 : Aside0 (w7.heap[w4.heap.size]? = some (.cells #[.int .i64 a0_0, .slice A4 L.length c4] 35 (0, 0))) := ⟨blk_below BX6.out hb7⟩; have HG7 : Aside0 (Kd.R k25 25 w7 w.heap.size (fun k_ => w4.heap.size + 1 ≤ k_ ∧ k_ ≠ gg) (.slice A5 G.length c5) G) := ⟨Kd.R_below HG6.out hb7⟩; have BG7 : Aside0 (w7.heap[gg]? = some (.cells #[.int .i64 r1, .slice A5 G.length c5] 35 (0, 0))) := ⟨blk_below BG6.out hb7⟩; have HD7 : Aside0 (Kd.C k25 w7 A7 F.length F) := ⟨hq7.2.2⟩; have HD7c : Aside0 (F.length ≤ c7) := ⟨hq7.2.1⟩; have ck70 := (blk_cell BK7.out 0).trans rfl; have ck71 := (blk_cell BK7.out 1).trans rfl; have cx70 := (blk_cell BX7.out 0).trans rfl; have cx71 := (blk_cell BX7.out 1).trans rfl; clear hb hb7 hq7 hR7 hn7)
    | (go_at_call 26; refine (intact_Puzzle k a0_0 F A4 A7 L.length c4 c7 t w7 (by rw [HLl.out]; exact HT.out) (by rw [HLl.out]; exact HN.out) HC4'.out HD7c.out (Kd.R_reads' HY7.out).2.2 HD7.out HE.out).mono ?_; rintro e w8 ⟨rfl, hb⟩; have HB8 : Aside0 (Below w.heap.size w w8) := ⟨below_step HB7.out hb⟩; have BK8 : Aside0 (w8.heap[w.heap.size]? = some (.cells #[.int .i64 a0_0, .slice A0_1 l0_1.length c0_1] 30 (0, 0))) := ⟨blk_below BK7.out hb⟩; have BC8 : Aside0 (w8.heap[w.heap.size + 1]? = some (.cells #[.int .i64 a1_0, .int .i64 a1_1, .int .i64 a1_2] 23 (0, 0))) := ⟨blk_below BC7.out hb⟩; have BW8 : Aside0 (w8.heap[gw]? = some (.cells #[.int .i64 r1, .slice A3 G.length c3] 35 (0, 0))) := ⟨blk_below BW7.out hb⟩; have HW8 : Aside0 (Kd.R k25 25 w8 w.heap.size (fun k_ => k_ < w3.heap.size ∧ k_ ≠ gw) (.slice A3 G.length c3) G) := ⟨Kd.R_below HW7.out hb⟩; have HY8 : Aside0 (Kd.R k25 25 w8 w.heap.size (fun k_ => w3.heap.size ≤ k_ ∧ k_ < w4.heap.size) (.slice A4 F.length c4) F) := ⟨Kd.R_below HY7.out hb⟩; have HX8 : Aside0 (Kd.R k25 25 w8 w.heap.size (fun k_ => w3.heap.size ≤ k_ ∧ k_ < w4.heap.size) (.slice A4 L.length c4) L) := ⟨Kd.R_below HX7.out hb⟩; have BX8 : Aside0 (w8.heap[w4.heap.size]? = some (.cells #[.int .i64 a0_0, .slice A4 L.length c4] 35 (0, 0))) := ⟨blk_below BX7.out hb⟩; have HG8 : Aside0 (Kd.R k25 25 w8 w.heap.size (fun k_ => w4.heap.size + 1 ≤ k_ ∧ k_ ≠ gg) (.slice A5 G.length c5) G) := ⟨Kd.R_below HG7.out hb⟩; have BG8 : Aside0 (w8.heap[gg]? = some (.cells #[.int .i64 r1, .slice A5 G.length c5] 35 (0, 0))) := ⟨blk_below BG7.out hb⟩; have ck80 := (blk_cell BK8.out 0).trans rfl; have ck81 := (blk_cell BK8.out 1).trans rfl; have cx80 := (blk_cell BX8.out 0).trans rfl; have cx81 := (blk_cell BX8.out 1).trans rfl; clear hb))
  clear ck60 ck61 cx60 cx61 HB6'
  clear HB6 BK6 BC6 BW6 HW6 HY6 HX6 BX6 HG6 BG6
  clear ck70 ck71 cx70 cx71 HD7 HD7c
  clear HB7 BK7 BC7 BW7 HW7 HY7 HX7 BX7 HG7 BG7
  go_wp2_with fail
  have hn3 := HGW.out
  have hs34 := HS34.out
  have hs45 := HGG.out
  refine (laws_markPuzzle.calls k a0_0 _ _ L 101 kx Lx w w8 HB8.out HX8.out HMX.out).mono ?_
  rintro e w9 ⟨rfl, hx9, hb9, hk⟩
  have HB9 : Aside0 (Below w.heap.size w w9) := ⟨hb9⟩
  have BK9 : Aside0 (w9.heap[w.heap.size]? = some (.cells #[.int .i64 a0_0, .slice A0_1 l0_1.length c0_1] 30 (0, 0))) := ⟨blk_kept BK8.out hk (fun h_ => by omega)⟩
  have BC9 : Aside0 (w9.heap[w.heap.size + 1]? = some (.cells #[.int .i64 a1_0, .int .i64 a1_1, .int .i64 a1_2] 23 (0, 0))) := ⟨blk_kept BC8.out hk (fun h_ => by omega)⟩
  have BW9 : Aside0 (w9.heap[gw]? = some (.cells #[.int .i64 r1, .slice A3 G.length c3] 35 (0, 0))) := ⟨blk_kept BW8.out hk (fun h_ => by omega)⟩
  have BG9 : Aside0 (w9.heap[gg]? = some (.cells #[.int .i64 r1, .slice A5 G.length c5] 35 (0, 0))) := ⟨blk_kept BG8.out hk (fun h_ => by omega)⟩
  have HW9 : Aside0 (Kd.R k25 25 w9 w.heap.size (fun k_ => k_ < w3.heap.size ∧ k_ ≠ gw) (.slice A3 G.length c3) G) := ⟨Kd.R_kept HW8.out hk (fun k_ h1_ h2_ => by omega)⟩
  have HG9 : Aside0 (Kd.R k25 25 w9 w.heap.size (fun k_ => w4.heap.size + 1 ≤ k_ ∧ k_ ≠ gg) (.slice A5 G.length c5) G) := ⟨Kd.R_kept HG8.out hk (fun k_ h1_ h2_ => by omega)⟩
  clear HB8 BK8 BC8 BW8 HW8 HY8 HX8 BX8 HG8 BG8 hx9 hb9 hk ck80 ck81 cx80 cx81
  have cw90 := (blk_cell BW9.out 0).trans rfl
  have cw91 := (blk_cell BW9.out 1).trans rfl
  have cg90 := (blk_cell BG9.out 0).trans rfl
  have cg91 := (blk_cell BG9.out 1).trans rfl
  go_wp2_with fail
  refine (laws_eqPuzzle.calls k r1 _ _ G r1 _ _ G true _ (Kd.R_reads' HG9.out).2.2 (Kd.R_reads' HG9.out).2.1 (Kd.R_reads' HW9.out).2.2 (Kd.R_reads' HW9.out).2.1 HQ.out).mono ?_
  rintro e w10 ⟨rfl, hb⟩
  have HB10 : Aside0 (Below w.heap.size w w10) := ⟨below_step HB9.out hb⟩
  have BK10 : Aside0 (w10.heap[w.heap.size]? = some (.cells #[.int .i64 a0_0, .slice A0_1 l0_1.length c0_1] 30 (0, 0))) := ⟨blk_below BK9.out hb⟩
  have BC10 : Aside0 (w10.heap[w.heap.size + 1]? = some (.cells #[.int .i64 a1_0, .int .i64 a1_1, .int .i64 a1_2] 23 (0, 0))) := ⟨blk_below BC9.out hb⟩
  have BW10 : Aside0 (w10.heap[gw]? = some (.cells #[.int .i64 r1, .slice A3 G.length c3] 35 (0, 0))) := ⟨blk_below BW9.out hb⟩
  have BG10 : Aside0 (w10.heap[gg]? = some (.cells #[.int .i64 r1, .slice A5 G.length c5] 35 (0, 0))) := ⟨blk_below BG9.out hb⟩
  have HW10 : Aside0 (Kd.R k25 25 w10 w.heap.size (fun k_ => k_ < w3.heap.size ∧ k_ ≠ gw) (.slice A3 G.length c3) G) := ⟨Kd.R_below HW9.out hb⟩
  have HG10 : Aside0 (Kd.R k25 25 w10 w.heap.size (fun k_ => w4.heap.size + 1 ≤ k_ ∧ k_ ≠ gg) (.slice A5 G.length c5) G) := ⟨Kd.R_below HG9.out hb⟩
  clear HB9 BK9 BC9 BW9 BG9 HW9 HG9 hb cw90 cw91 cg90 cg91
  have cg100 := (blk_cell BG10.out 0).trans rfl
  have cg101 := (blk_cell BG10.out 1).trans rfl
  go_wp2_with fail
  refine (laws_markPuzzle.calls k r1 _ _ G 101 m Gm w w10 HB10.out HG10.out HMG.out).mono ?_
  rintro e w11 ⟨rfl, hx11, hb11, hk⟩
  have HB11 : Aside0 (Below w.heap.size w w11) := ⟨hb11⟩
  have BK11 : Aside0 (w11.heap[w.heap.size]? = some (.cells #[.int .i64 a0_0, .slice A0_1 l0_1.length c0_1] 30 (0, 0))) := ⟨blk_kept BK10.out hk (fun h_ => by omega)⟩
  have BC11 : Aside0 (w11.heap[w.heap.size + 1]? = some (.cells #[.int .i64 a1_0, .int .i64 a1_1, .int .i64 a1_2] 23 (0, 0))) := ⟨blk_kept BC10.out hk (fun h_ => by omega)⟩
  have BW11 : Aside0 (w11.heap[gw]? = some (.cells #[.int .i64 r1, .slice A3 G.length c3] 35 (0, 0))) := ⟨blk_kept BW10.out hk (fun h_ => by omega)⟩
  have BG11 : Aside0 (w11.heap[gg]? = some (.cells #[.int .i64 r1, .slice A5 G.length c5] 35 (0, 0))) := ⟨blk_kept BG10.out hk (fun h_ => by omega)⟩
  have HW11 : Aside0 (Kd.R k25 25 w11 w.heap.size (fun k_ => k_ < w3.heap.size ∧ k_ ≠ gw) (.slice A3 G.length c3) G) := ⟨Kd.R_kept HW10.out hk (fun k_ h1_ h2_ => by omega)⟩
  have HM11 : Aside0 (Kd.R k25 25 w11 w.heap.size (fun k_ => (w4.heap.size + 1 ≤ k_ ∧ k_ ≠ gg) ∨ w10.heap.size ≤ k_) (.slice A5 G.length c5) Gm) := ⟨hx11⟩
  clear HB10 BK10 BC10 BW10 BG10 HW10 HG10 hx11 hb11 hk cg100 cg101
  have cg110 := (blk_cell BG11.out 0).trans rfl
  have cg111 := (blk_cell BG11.out 1).trans rfl
  go_wp2_with fail
  have hcall := laws_heldPuzzle.calls k r1 A5 c5 Gm 101 m w11 (Kd.R_reads' (by have h_ := HM11.out; rw [← HGm.out] at h_; exact h_)).2.2 (Kd.R_reads' (by have h_ := HM11.out; rw [← HGm.out] at h_; exact h_)).2.1 HHG.out
  rw [HGm.out] at hcall
  refine hcall.mono ?_
  clear hcall
  rintro e w12 ⟨rfl, hb⟩
  have HB12 : Aside0 (Below w.heap.size w w12) := ⟨below_step HB11.out hb⟩
  have BK12 : Aside0 (w12.heap[w.heap.size]? = some (.cells #[.int .i64 a0_0, .slice A0_1 l0_1.length c0_1] 30 (0, 0))) := ⟨blk_below BK11.out hb⟩
  have BC12 : Aside0 (w12.heap[w.heap.size + 1]? = some (.cells #[.int .i64 a1_0, .int .i64 a1_1, .int .i64 a1_2] 23 (0, 0))) := ⟨blk_below BC11.out hb⟩
  have BW12 : Aside0 (w12.heap[gw]? = some (.cells #[.int .i64 r1, .slice A3 G.length c3] 35 (0, 0))) := ⟨blk_below BW11.out hb⟩
  have BG12 : Aside0 (w12.heap[gg]? = some (.cells #[.int .i64 r1, .slice A5 G.length c5] 35 (0, 0))) := ⟨blk_below BG11.out hb⟩
  have HW12 : Aside0 (Kd.R k25 25 w12 w.heap.size (fun k_ => k_ < w3.heap.size ∧ k_ ≠ gw) (.slice A3 G.length c3) G) := ⟨Kd.R_below HW11.out hb⟩
  have HM12 : Aside0 (Kd.R k25 25 w12 w.heap.size (fun k_ => (w4.heap.size + 1 ≤ k_ ∧ k_ ≠ gg) ∨ w10.heap.size ≤ k_) (.slice A5 G.length c5) Gm) := ⟨Kd.R_below HM11.out hb⟩
  clear HB11 BK11 BC11 BW11 BG11 HW11 HM11 hb cg110 cg111
  have HN12 : Aside0 (Kd.R k25 25 w12 w.heap.size (fun k_ => k_ < w12.heap.size) (.slice A5 G.length c5) Gm) := ⟨Kd.R_mono (Kd.R_bound HM12.out) (fun k_ hk => hk.2.2.1)⟩
  clear HM12
  have ck120 := (blk_cell BK12.out 0).trans rfl
  have ck121 := (blk_cell BK12.out 1).trans rfl
  have cc120 := (blk_cell BC12.out 0).trans rfl
  have cc121 := (blk_cell BC12.out 1).trans rfl
  have cc122 := (blk_cell BC12.out 2).trans rfl
  go_wp2_with fail
  have HS312 : Aside0 (w3.heap.size ≤ w12.heap.size) := ⟨by have h1_ := blk_lt BG12.out; have h2_ := HGG.out; have h3_ := HS34.out; omega⟩
  refine start_ (n := 11) (S := fun w' => w'.cell? ⟨w.heap.size, 0, none⟩ = some (.int .i64 a0_0) ∧ w'.cell? ⟨w.heap.size, 1, none⟩ = some (.slice A0_1 l0_1.length c0_1) ∧ w'.cell? ⟨w.heap.size + 1, 0, none⟩ = some (.int .i64 a1_0) ∧ w'.cell? ⟨w.heap.size + 1, 1, none⟩ = some (.int .i64 a1_1) ∧ w'.cell? ⟨w.heap.size + 1, 2, none⟩ = some (.int .i64 a1_2)) (ds := []) #[false, false, false, false, false, false, false, false, false, false, false] (by kernel_rfl) rfl rfl ⟨(blk_cell (blk_drew BK12.out) 0).trans rfl, (blk_cell (blk_drew BK12.out) 1).trans rfl, (blk_cell (blk_drew BC12.out) 0).trans rfl, (blk_cell (blk_drew BC12.out) 1).trans rfl, (blk_cell (blk_drew BC12.out) 2).trans rfl⟩ (fun hHeld => ?_)
  refine take_ (i := 0) (N := some 80) (v := ?_) (a' := ?_) #[true, false, false, false, false, false, false, false, false, false, false] rfl rfl (by kernel_rfl) (fun _ _ _ h => h) (Or.inl ⟨by rfl, ?_⟩) hHeld ?_ ?_
  rotate_left
  · rintro w' ⟨s0, s1, s2, s3, s4⟩
    go_simp
    with_reducible rfl
  rotate_left
  · simp only [Act.put, List.setIfInBounds_toArray, List.set_cons_zero, List.set_cons_succ, i64_w, i32_w]
    rfl
  refine take_ (i := 2) (N := some 82) (v := ?_) (a' := ?_) #[true, false, true, false, false, false, false, false, false, false, false] rfl rfl (by kernel_rfl) (fun _ _ _ h => h) (Or.inl ⟨by rfl, ?_⟩) hHeld ?_ ?_
  rotate_left
  · rintro w' ⟨s0, s1, s2, s3, s4⟩
    go_simp
    with_reducible rfl
  rotate_left
  · simp only [Act.put, List.setIfInBounds_toArray, List.set_cons_zero, List.set_cons_succ, i64_w, i32_w]
    rfl
  refine join_ (σ := Option Addr × Nat × Option Addr × Nat × Nat) 2 #[true, true, true, true, true, true, true, true, true, false, false] (fun s => [(81, .agg #[.int .i64 a0_0, .slice s.1 L.length s.2.1]), (83, .agg #[.int .i64 a1_0, .int .i64 a1_1, .int .i64 a1_2]), (84, .tuple #[.agg #[.int .i64 r1, .slice s.2.2.1 G.length s.2.2.2.1], .bool r2]), (79, .tuple #[.agg #[.int .i64 r1, .slice s.2.2.1 G.length s.2.2.2.1], .bool r2]), (85, .agg #[.int .i64 r1, .slice s.2.2.1 G.length s.2.2.2.1]), (86, .bool r2), (14, .pointer (some ⟨s.2.2.2.2, 0, none⟩))]) (fun s w' => Aside0 (Below w.heap.size w w') ∧ Aside0 (w'.heap[w.heap.size]? = some (.cells #[.int .i64 a0_0, .slice A0_1 l0_1.length c0_1] 30 (0, 0))) ∧ Aside0 (w'.heap[w.heap.size + 1]? = some (.cells #[.int .i64 a1_0, .int .i64 a1_1, .int .i64 a1_2] 23 (0, 0))) ∧ Aside0 (w'.heap[gw]? = some (.cells #[.int .i64 r1, .slice A3 G.length c3] 35 (0, 0))) ∧ Aside0 (w'.heap[gg]? = some (.cells #[.int .i64 r1, .slice A5 G.length c5] 35 (0, 0))) ∧ Aside0 (Kd.R k25 25 w' w.heap.size (fun k_ => k_ < w3.heap.size ∧ k_ ≠ gw) (.slice A3 G.length c3) G) ∧ Aside0 (Kd.R k25 25 w' w.heap.size (fun k_ => k_ < w12.heap.size) (.slice A5 G.length c5) Gm) ∧ Aside0 (Kd.R k25 25 w' w.heap.size (fun k_ => k_ ≠ s.2.2.2.2) (.slice s.2.2.1 G.length s.2.2.2.1) G) ∧ Aside0 (w'.heap[s.2.2.2.2]? = some (.cells #[.int .i64 0, .slice none 0 0] 35 (0, 0))) ∧ Aside0 (w12.heap.size ≤ s.2.2.2.2)) ?_ ?_
  rotate_left
  · intro hCont
    refine two_ (i := 1) (j := 8) (Ni := some 81) (Nj := some 14) #[true, true, true, false, false, false, false, false, false, false, false] #[true, false, true, false, false, false, false, false, true, false, false] rfl rfl rfl rfl (by kernel_rfl) (by decide) (by decide) (fun K hK => ?_) (fun K hK => ?_)
    · skip
      refine goes_ Try.func24 (by kernel_rfl) rfl #[.agg #[.int .i64 a0_0, .slice A0_1 l0_1.length c0_1], .bool true] (by rfl) rfl rfl (by simp only [List.map_toArray, List.map_cons, List.map_nil]; rfl) ?_
      with_reducible refine (full_toPuzzle k a0_0 _ _ l0_1 true F' _ (Kd.C_below HR.out (below_drew1 HB12.out)) HC.out HF'.out).mono ?_
      rintro e w24_toT ⟨AT, nT, cT, rfl, hRT, hnT, hb⟩
      refine ⟨_, rfl, ?_⟩
      have hqT := Kd.R_reads' hRT
      have H13a : nT = L.length ∧ Kd.C k25 w24_toT AT L.length L ∧ L.length ≤ cT := toTrue_ok F F' L l0_1 w24_toT AT nT cT HF0.out HF2.out HL.out HLl.out HL2.out hqT.2.1 hqT.2.2 hnT
      obtain ⟨rfl, h131, h132⟩ := H13a
      have HCT := Aside0.mk h131
      have HCT' := Aside0.mk h132
      have HB24_toT : Aside0 (Below w.heap.size w w24_toT) := ⟨below_step (below_drew1 HB12.out) hb⟩
      have BK24_toT : Aside0 (w24_toT.heap[w.heap.size]? = some (.cells #[.int .i64 a0_0, .slice A0_1 l0_1.length c0_1] 30 (0, 0))) := ⟨blk_below (blk_drew BK12.out) hb⟩
      have BC24_toT : Aside0 (w24_toT.heap[w.heap.size + 1]? = some (.cells #[.int .i64 a1_0, .int .i64 a1_1, .int .i64 a1_2] 23 (0, 0))) := ⟨blk_below (blk_drew BC12.out) hb⟩
      have BW24_toT : Aside0 (w24_toT.heap[gw]? = some (.cells #[.int .i64 r1, .slice A3 G.length c3] 35 (0, 0))) := ⟨blk_below (blk_drew BW12.out) hb⟩
      have BG24_toT : Aside0 (w24_toT.heap[gg]? = some (.cells #[.int .i64 r1, .slice A5 G.length c5] 35 (0, 0))) := ⟨blk_below (blk_drew BG12.out) hb⟩
      have HW24_toT : Aside0 (Kd.R k25 25 w24_toT w.heap.size (fun k_ => k_ < w3.heap.size ∧ k_ ≠ gw) (.slice A3 G.length c3) G) := ⟨Kd.R_below (Kd.R_drew HW12.out) hb⟩
      have HN24_toT : Aside0 (Kd.R k25 25 w24_toT w.heap.size (fun k_ => k_ < w12.heap.size) (.slice A5 G.length c5) Gm) := ⟨Kd.R_below (Kd.R_drew HN12.out) hb⟩
      have SZ24_toT : Aside0 (w12.heap.size ≤ w24_toT.heap.size) := ⟨Nat.le_trans (Nat.le_refl w12.heap.size) hb.size⟩
      clear hb hRT hnT hqT h131 h132
      refine hK.out _ _ ⟨(blk_cell BK24_toT.out 0).trans rfl, (blk_cell BK24_toT.out 1).trans rfl, (blk_cell BC24_toT.out 0).trans rfl, (blk_cell BC24_toT.out 1).trans rfl, (blk_cell BC24_toT.out 2).trans rfl⟩ (fun hHeld => ?_)
      clear hK K
      refine norm_ (a' := ?_) ?_ ?_
      rotate_left
      · show Act.put _ (some 81) _ = _
        simp only [Act.put, List.setIfInBounds_toArray, List.set_cons_zero, List.set_cons_succ, i64_w, i32_w]
        rfl
      refine two_ (i := 3) (j := 8) (Ni := some 83) (Nj := some 14) #[true, true, true, true, false, false, false, false, false, false, false] #[true, true, true, false, false, false, false, false, true, false, false] rfl rfl rfl rfl (by kernel_rfl) (by decide) (by decide) (fun K hK => ?_) (fun K hK => ?_)
      · skip
        refine goes_ Try.func20 (by kernel_rfl) rfl #[.agg #[.int .i64 a1_0, .int .i64 a1_1, .int .i64 a1_2]] (by rfl) rfl rfl (by simp only [List.map_toArray, List.map_cons, List.map_nil]; rfl) ?_
        with_reducible refine (laws_toClue.calls a1_0 a1_1 a1_2 a1_0 a1_1 a1_2 _ HTC.out).mono ?_
        rintro e w24_clue ⟨rfl, hb⟩
        refine ⟨_, rfl, ?_⟩
        have HCT := Aside0.mk (Kd.C_below HCT.out hb)
        have HB24_clue : Aside0 (Below w.heap.size w w24_clue) := ⟨below_step HB24_toT.out hb⟩
        have BK24_clue : Aside0 (w24_clue.heap[w.heap.size]? = some (.cells #[.int .i64 a0_0, .slice A0_1 l0_1.length c0_1] 30 (0, 0))) := ⟨blk_below BK24_toT.out hb⟩
        have BC24_clue : Aside0 (w24_clue.heap[w.heap.size + 1]? = some (.cells #[.int .i64 a1_0, .int .i64 a1_1, .int .i64 a1_2] 23 (0, 0))) := ⟨blk_below BC24_toT.out hb⟩
        have BW24_clue : Aside0 (w24_clue.heap[gw]? = some (.cells #[.int .i64 r1, .slice A3 G.length c3] 35 (0, 0))) := ⟨blk_below BW24_toT.out hb⟩
        have BG24_clue : Aside0 (w24_clue.heap[gg]? = some (.cells #[.int .i64 r1, .slice A5 G.length c5] 35 (0, 0))) := ⟨blk_below BG24_toT.out hb⟩
        have HW24_clue : Aside0 (Kd.R k25 25 w24_clue w.heap.size (fun k_ => k_ < w3.heap.size ∧ k_ ≠ gw) (.slice A3 G.length c3) G) := ⟨Kd.R_below HW24_toT.out hb⟩
        have HN24_clue : Aside0 (Kd.R k25 25 w24_clue w.heap.size (fun k_ => k_ < w12.heap.size) (.slice A5 G.length c5) Gm) := ⟨Kd.R_below HN24_toT.out hb⟩
        have SZ24_clue : Aside0 (w12.heap.size ≤ w24_clue.heap.size) := ⟨Nat.le_trans SZ24_toT.out hb.size⟩
        clear hb
        refine hK.out _ _ ⟨(blk_cell BK24_clue.out 0).trans rfl, (blk_cell BK24_clue.out 1).trans rfl, (blk_cell BC24_clue.out 0).trans rfl, (blk_cell BC24_clue.out 1).trans rfl, (blk_cell BC24_clue.out 2).trans rfl⟩ (fun hHeld => ?_)
        clear hK K
        refine norm_ (a' := ?_) ?_ ?_
        rotate_left
        · show Act.put _ (some 83) _ = _
          simp only [Act.put, List.setIfInBounds_toArray, List.set_cons_zero, List.set_cons_succ, i64_w, i32_w]
          rfl
        refine two_ (i := 4) (j := 8) (Ni := some 84) (Nj := some 14) #[true, true, true, true, true, false, false, false, false, false, false] #[true, true, true, true, false, false, false, false, true, false, false] rfl rfl rfl rfl (by kernel_rfl) (by decide) (by decide) (fun K hK => ?_) (fun K hK => ?_)
        · skip
          refine goes_ Try.func30 (by kernel_rfl) rfl #[.agg #[.int .i64 a0_0, .slice AT L.length cT], .agg #[.int .i64 a1_0, .int .i64 a1_1, .int .i64 a1_2]] (by rfl) rfl rfl (by simp only [List.map_toArray, List.map_cons, List.map_nil]; rfl) ?_
          with_reducible refine (impl_AddClue.calls a0_0 _ _ L a1_0 a1_1 a1_2 r1 G r2 _ HCT.out HCT'.out H2.out).mono ?_
          rintro e w24_impl ⟨vR, rfl, ho, hb⟩
          obtain ⟨A14, c14, rfl⟩ := Kd.R_slice ho
          refine ⟨_, rfl, ?_⟩
          have RW24_impl := Aside0.mk (Kd.R_lower (Kd.R_bound ho) (below_size HB24_clue.out))
          have HB24_impl : Aside0 (Below w.heap.size w w24_impl) := ⟨below_step HB24_clue.out hb⟩
          have BK24_impl : Aside0 (w24_impl.heap[w.heap.size]? = some (.cells #[.int .i64 a0_0, .slice A0_1 l0_1.length c0_1] 30 (0, 0))) := ⟨blk_below BK24_clue.out hb⟩
          have BC24_impl : Aside0 (w24_impl.heap[w.heap.size + 1]? = some (.cells #[.int .i64 a1_0, .int .i64 a1_1, .int .i64 a1_2] 23 (0, 0))) := ⟨blk_below BC24_clue.out hb⟩
          have BW24_impl : Aside0 (w24_impl.heap[gw]? = some (.cells #[.int .i64 r1, .slice A3 G.length c3] 35 (0, 0))) := ⟨blk_below BW24_clue.out hb⟩
          have BG24_impl : Aside0 (w24_impl.heap[gg]? = some (.cells #[.int .i64 r1, .slice A5 G.length c5] 35 (0, 0))) := ⟨blk_below BG24_clue.out hb⟩
          have HW24_impl : Aside0 (Kd.R k25 25 w24_impl w.heap.size (fun k_ => k_ < w3.heap.size ∧ k_ ≠ gw) (.slice A3 G.length c3) G) := ⟨Kd.R_below HW24_clue.out hb⟩
          have HN24_impl : Aside0 (Kd.R k25 25 w24_impl w.heap.size (fun k_ => k_ < w12.heap.size) (.slice A5 G.length c5) Gm) := ⟨Kd.R_below HN24_clue.out hb⟩
          have SZ24_impl : Aside0 (w12.heap.size ≤ w24_impl.heap.size) := ⟨Nat.le_trans SZ24_clue.out hb.size⟩
          clear hb ho
          refine hK.out _ _ ⟨(blk_cell BK24_impl.out 0).trans rfl, (blk_cell BK24_impl.out 1).trans rfl, (blk_cell BC24_impl.out 0).trans rfl, (blk_cell BC24_impl.out 1).trans rfl, (blk_cell BC24_impl.out 2).trans rfl⟩ (fun hHeld => ?_)
          clear hK K
          refine norm_ (a' := ?_) ?_ ?_
          rotate_left
          · show Act.put _ (some 84) _ = _
            simp only [Act.put, List.setIfInBounds_toArray, List.set_cons_zero, List.set_cons_succ, i64_w, i32_w]
            rfl
          refine pure_ (i := 5) (N := some 79) (v := ?_) (a' := ?_) #[true, true, true, true, true, true, false, false, false, false, false] rfl rfl (by kernel_rfl) (fun _ _ _ h => h) (Or.inl ⟨by rfl, ?_⟩) ?_ ?_
          rotate_left
          · intro w'
            go_simp
            with_reducible rfl
          rotate_left
          · simp only [Act.put, List.setIfInBounds_toArray, List.set_cons_zero, List.set_cons_succ, i64_w, i32_w]
            rfl
          refine pure_ (i := 6) (N := some 85) (v := ?_) (a' := ?_) #[true, true, true, true, true, true, true, false, false, false, false] rfl rfl (by kernel_rfl) (fun _ _ _ h => h) (Or.inl ⟨by rfl, ?_⟩) ?_ ?_
          rotate_left
          · intro w'
            go_simp
            with_reducible rfl
          rotate_left
          · simp only [Act.put, List.setIfInBounds_toArray, List.set_cons_zero, List.set_cons_succ, i64_w, i32_w]
            rfl
          refine pure_ (i := 7) (N := some 86) (v := ?_) (a' := ?_) #[true, true, true, true, true, true, true, true, false, false, false] rfl rfl (by kernel_rfl) (fun _ _ _ h => h) (Or.inl ⟨by rfl, ?_⟩) ?_ ?_
          rotate_left
          · intro w'
            go_simp
            with_reducible rfl
          rotate_left
          · simp only [Act.put, List.setIfInBounds_toArray, List.set_cons_zero, List.set_cons_succ, i64_w, i32_w]
            rfl
          refine one_ (i := 8) (N := some 14) #[true, true, true, true, true, true, true, true, true, false, false] rfl rfl (by kernel_rfl) (by decide) (fun K hK => ?_)
          refine value_ (w1 := ?_) (v := ?_) (by rfl) rfl ?_ ?_
          rotate_left 2
          · go_simp
            constructor
            · rfl
            · rfl
          refine hK.out _ _ ⟨(blk_cell (blk_alloc BK24_impl.out _) 0).trans rfl, (blk_cell (blk_alloc BK24_impl.out _) 1).trans rfl, (blk_cell (blk_alloc BC24_impl.out _) 0).trans rfl, (blk_cell (blk_alloc BC24_impl.out _) 1).trans rfl, (blk_cell (blk_alloc BC24_impl.out _) 2).trans rfl⟩ (fun hHeld => ?_)
          clear hK K
          refine norm_ (a' := ?_) ?_ ?_
          rotate_left
          · show Act.put _ (some 14) _ = _
            simp only [Act.put, List.setIfInBounds_toArray, List.set_cons_zero, List.set_cons_succ, i64_w, i32_w]
            rfl
          exact norm_ (by simp only [putAll, Act.put, List.setIfInBounds_toArray, List.set_cons_zero, List.set_cons_succ]) (hCont (AT, cT, A14, c14, (w24_impl).heap.size) _ ⟨⟨(below_alloc HB24_impl.out _)⟩, ⟨(blk_alloc BK24_impl.out _)⟩, ⟨(blk_alloc BC24_impl.out _)⟩, ⟨(blk_alloc BW24_impl.out _)⟩, ⟨(blk_alloc BG24_impl.out _)⟩, ⟨(Kd.R_alloc HW24_impl.out _)⟩, ⟨(Kd.R_alloc HN24_impl.out _)⟩, ⟨(Kd.R_mono (Kd.R_bound (Kd.R_types (Kd.R_alloc RW24_impl.out _) (blk_new _ _) (by decide))) (fun k_ hk => hk.1.2))⟩, ⟨(blk_new _ _)⟩, ⟨SZ24_impl.out⟩⟩)
        · skip
          refine value_ (w1 := ?_) (v := ?_) (by rfl) rfl ?_ ?_
          rotate_left 2
          · go_simp
            constructor
            · rfl
            · rfl
          refine hK.out _ _ ⟨(blk_cell (blk_alloc BK24_clue.out _) 0).trans rfl, (blk_cell (blk_alloc BK24_clue.out _) 1).trans rfl, (blk_cell (blk_alloc BC24_clue.out _) 0).trans rfl, (blk_cell (blk_alloc BC24_clue.out _) 1).trans rfl, (blk_cell (blk_alloc BC24_clue.out _) 2).trans rfl⟩ (fun hHeld => ?_)
          clear hK K
          refine norm_ (a' := ?_) ?_ ?_
          rotate_left
          · show Act.put _ (some 14) _ = _
            simp only [Act.put, List.setIfInBounds_toArray, List.set_cons_zero, List.set_cons_succ, i64_w, i32_w]
            rfl
          refine one_ (i := 4) (N := some 84) #[true, true, true, true, true, false, false, false, true, false, false] rfl rfl (by kernel_rfl) (by decide) (fun K hK => ?_)
          refine goes_ Try.func30 (by kernel_rfl) rfl #[.agg #[.int .i64 a0_0, .slice AT L.length cT], .agg #[.int .i64 a1_0, .int .i64 a1_1, .int .i64 a1_2]] (by rfl) rfl rfl (by simp only [List.map_toArray, List.map_cons, List.map_nil]; rfl) ?_
          with_reducible refine (impl_AddClue.calls a0_0 _ _ L a1_0 a1_1 a1_2 r1 G r2 _ (Kd.C_alloc HCT.out _) HCT'.out H2.out).mono ?_
          rintro e w24_impl ⟨vR, rfl, ho, hb⟩
          obtain ⟨A14, c14, rfl⟩ := Kd.R_slice ho
          refine ⟨_, rfl, ?_⟩
          have RW24_impl := Aside0.mk (Kd.R_lower (Kd.R_bound ho) (below_size (below_alloc HB24_clue.out _)))
          have HB24_impl : Aside0 (Below w.heap.size w w24_impl) := ⟨below_step (below_alloc HB24_clue.out _) hb⟩
          have BK24_impl : Aside0 (w24_impl.heap[w.heap.size]? = some (.cells #[.int .i64 a0_0, .slice A0_1 l0_1.length c0_1] 30 (0, 0))) := ⟨blk_below (blk_alloc BK24_clue.out _) hb⟩
          have BC24_impl : Aside0 (w24_impl.heap[w.heap.size + 1]? = some (.cells #[.int .i64 a1_0, .int .i64 a1_1, .int .i64 a1_2] 23 (0, 0))) := ⟨blk_below (blk_alloc BC24_clue.out _) hb⟩
          have BW24_impl : Aside0 (w24_impl.heap[gw]? = some (.cells #[.int .i64 r1, .slice A3 G.length c3] 35 (0, 0))) := ⟨blk_below (blk_alloc BW24_clue.out _) hb⟩
          have BG24_impl : Aside0 (w24_impl.heap[gg]? = some (.cells #[.int .i64 r1, .slice A5 G.length c5] 35 (0, 0))) := ⟨blk_below (blk_alloc BG24_clue.out _) hb⟩
          have HW24_impl : Aside0 (Kd.R k25 25 w24_impl w.heap.size (fun k_ => k_ < w3.heap.size ∧ k_ ≠ gw) (.slice A3 G.length c3) G) := ⟨Kd.R_below (Kd.R_alloc HW24_clue.out _) hb⟩
          have HN24_impl : Aside0 (Kd.R k25 25 w24_impl w.heap.size (fun k_ => k_ < w12.heap.size) (.slice A5 G.length c5) Gm) := ⟨Kd.R_below (Kd.R_alloc HN24_clue.out _) hb⟩
          have BZ24_impl := Aside0.mk (blk_below (blk_new _ _) hb)
          have SZ24_impl : Aside0 (w12.heap.size ≤ w24_impl.heap.size) := ⟨Nat.le_trans (Nat.le_trans SZ24_clue.out (by simp)) hb.size⟩
          clear hb ho
          refine hK.out _ _ ⟨(blk_cell BK24_impl.out 0).trans rfl, (blk_cell BK24_impl.out 1).trans rfl, (blk_cell BC24_impl.out 0).trans rfl, (blk_cell BC24_impl.out 1).trans rfl, (blk_cell BC24_impl.out 2).trans rfl⟩ (fun hHeld => ?_)
          clear hK K
          refine norm_ (a' := ?_) ?_ ?_
          rotate_left
          · show Act.put _ (some 84) _ = _
            simp only [Act.put, List.setIfInBounds_toArray, List.set_cons_zero, List.set_cons_succ, i64_w, i32_w]
            rfl
          refine pure_ (i := 5) (N := some 79) (v := ?_) (a' := ?_) #[true, true, true, true, true, true, false, false, true, false, false] rfl rfl (by kernel_rfl) (fun _ _ _ h => h) (Or.inl ⟨by rfl, ?_⟩) ?_ ?_
          rotate_left
          · intro w'
            go_simp
            with_reducible rfl
          rotate_left
          · simp only [Act.put, List.setIfInBounds_toArray, List.set_cons_zero, List.set_cons_succ, i64_w, i32_w]
            rfl
          refine pure_ (i := 6) (N := some 85) (v := ?_) (a' := ?_) #[true, true, true, true, true, true, true, false, true, false, false] rfl rfl (by kernel_rfl) (fun _ _ _ h => h) (Or.inl ⟨by rfl, ?_⟩) ?_ ?_
          rotate_left
          · intro w'
            go_simp
            with_reducible rfl
          rotate_left
          · simp only [Act.put, List.setIfInBounds_toArray, List.set_cons_zero, List.set_cons_succ, i64_w, i32_w]
            rfl
          refine pure_ (i := 7) (N := some 86) (v := ?_) (a' := ?_) #[true, true, true, true, true, true, true, true, true, false, false] rfl rfl (by kernel_rfl) (fun _ _ _ h => h) (Or.inl ⟨by rfl, ?_⟩) ?_ ?_
          rotate_left
          · intro w'
            go_simp
            with_reducible rfl
          rotate_left
          · simp only [Act.put, List.setIfInBounds_toArray, List.set_cons_zero, List.set_cons_succ, i64_w, i32_w]
            rfl
          exact norm_ (by simp only [putAll, Act.put, List.setIfInBounds_toArray, List.set_cons_zero, List.set_cons_succ]) (hCont (AT, cT, A14, c14, (w24_clue).heap.size) _ ⟨⟨HB24_impl.out⟩, ⟨BK24_impl.out⟩, ⟨BC24_impl.out⟩, ⟨BW24_impl.out⟩, ⟨BG24_impl.out⟩, ⟨HW24_impl.out⟩, ⟨HN24_impl.out⟩, ⟨(Kd.R_mono (Kd.R_bound (Kd.R_types RW24_impl.out BZ24_impl.out (by decide))) (fun k_ hk => hk.1.2))⟩, ⟨BZ24_impl.out⟩, ⟨SZ24_clue.out⟩⟩)
      · skip
        refine value_ (w1 := ?_) (v := ?_) (by rfl) rfl ?_ ?_
        rotate_left 2
        · go_simp
          constructor
          · rfl
          · rfl
        refine hK.out _ _ ⟨(blk_cell (blk_alloc BK24_toT.out _) 0).trans rfl, (blk_cell (blk_alloc BK24_toT.out _) 1).trans rfl, (blk_cell (blk_alloc BC24_toT.out _) 0).trans rfl, (blk_cell (blk_alloc BC24_toT.out _) 1).trans rfl, (blk_cell (blk_alloc BC24_toT.out _) 2).trans rfl⟩ (fun hHeld => ?_)
        clear hK K
        refine norm_ (a' := ?_) ?_ ?_
        rotate_left
        · show Act.put _ (some 14) _ = _
          simp only [Act.put, List.setIfInBounds_toArray, List.set_cons_zero, List.set_cons_succ, i64_w, i32_w]
          rfl
        refine one_ (i := 3) (N := some 83) #[true, true, true, true, false, false, false, false, true, false, false] rfl rfl (by kernel_rfl) (by decide) (fun K hK => ?_)
        refine goes_ Try.func20 (by kernel_rfl) rfl #[.agg #[.int .i64 a1_0, .int .i64 a1_1, .int .i64 a1_2]] (by rfl) rfl rfl (by simp only [List.map_toArray, List.map_cons, List.map_nil]; rfl) ?_
        with_reducible refine (laws_toClue.calls a1_0 a1_1 a1_2 a1_0 a1_1 a1_2 _ HTC.out).mono ?_
        rintro e w24_clue ⟨rfl, hb⟩
        refine ⟨_, rfl, ?_⟩
        have HCT := Aside0.mk (Kd.C_below (Kd.C_alloc HCT.out _) hb)
        have HB24_clue : Aside0 (Below w.heap.size w w24_clue) := ⟨below_step (below_alloc HB24_toT.out _) hb⟩
        have BK24_clue : Aside0 (w24_clue.heap[w.heap.size]? = some (.cells #[.int .i64 a0_0, .slice A0_1 l0_1.length c0_1] 30 (0, 0))) := ⟨blk_below (blk_alloc BK24_toT.out _) hb⟩
        have BC24_clue : Aside0 (w24_clue.heap[w.heap.size + 1]? = some (.cells #[.int .i64 a1_0, .int .i64 a1_1, .int .i64 a1_2] 23 (0, 0))) := ⟨blk_below (blk_alloc BC24_toT.out _) hb⟩
        have BW24_clue : Aside0 (w24_clue.heap[gw]? = some (.cells #[.int .i64 r1, .slice A3 G.length c3] 35 (0, 0))) := ⟨blk_below (blk_alloc BW24_toT.out _) hb⟩
        have BG24_clue : Aside0 (w24_clue.heap[gg]? = some (.cells #[.int .i64 r1, .slice A5 G.length c5] 35 (0, 0))) := ⟨blk_below (blk_alloc BG24_toT.out _) hb⟩
        have HW24_clue : Aside0 (Kd.R k25 25 w24_clue w.heap.size (fun k_ => k_ < w3.heap.size ∧ k_ ≠ gw) (.slice A3 G.length c3) G) := ⟨Kd.R_below (Kd.R_alloc HW24_toT.out _) hb⟩
        have HN24_clue : Aside0 (Kd.R k25 25 w24_clue w.heap.size (fun k_ => k_ < w12.heap.size) (.slice A5 G.length c5) Gm) := ⟨Kd.R_below (Kd.R_alloc HN24_toT.out _) hb⟩
        have BZ24_clue := Aside0.mk (blk_below (blk_new _ _) hb)
        have SZ24_clue : Aside0 (w12.heap.size ≤ w24_clue.heap.size) := ⟨Nat.le_trans (Nat.le_trans SZ24_toT.out (by simp)) hb.size⟩
        clear hb
        refine hK.out _ _ ⟨(blk_cell BK24_clue.out 0).trans rfl, (blk_cell BK24_clue.out 1).trans rfl, (blk_cell BC24_clue.out 0).trans rfl, (blk_cell BC24_clue.out 1).trans rfl, (blk_cell BC24_clue.out 2).trans rfl⟩ (fun hHeld => ?_)
        clear hK K
        refine norm_ (a' := ?_) ?_ ?_
        rotate_left
        · show Act.put _ (some 83) _ = _
          simp only [Act.put, List.setIfInBounds_toArray, List.set_cons_zero, List.set_cons_succ, i64_w, i32_w]
          rfl
        refine one_ (i := 4) (N := some 84) #[true, true, true, true, true, false, false, false, true, false, false] rfl rfl (by kernel_rfl) (by decide) (fun K hK => ?_)
        refine goes_ Try.func30 (by kernel_rfl) rfl #[.agg #[.int .i64 a0_0, .slice AT L.length cT], .agg #[.int .i64 a1_0, .int .i64 a1_1, .int .i64 a1_2]] (by rfl) rfl rfl (by simp only [List.map_toArray, List.map_cons, List.map_nil]; rfl) ?_
        with_reducible refine (impl_AddClue.calls a0_0 _ _ L a1_0 a1_1 a1_2 r1 G r2 _ HCT.out HCT'.out H2.out).mono ?_
        rintro e w24_impl ⟨vR, rfl, ho, hb⟩
        obtain ⟨A14, c14, rfl⟩ := Kd.R_slice ho
        refine ⟨_, rfl, ?_⟩
        have RW24_impl := Aside0.mk (Kd.R_lower (Kd.R_bound ho) (below_size HB24_clue.out))
        have HB24_impl : Aside0 (Below w.heap.size w w24_impl) := ⟨below_step HB24_clue.out hb⟩
        have BK24_impl : Aside0 (w24_impl.heap[w.heap.size]? = some (.cells #[.int .i64 a0_0, .slice A0_1 l0_1.length c0_1] 30 (0, 0))) := ⟨blk_below BK24_clue.out hb⟩
        have BC24_impl : Aside0 (w24_impl.heap[w.heap.size + 1]? = some (.cells #[.int .i64 a1_0, .int .i64 a1_1, .int .i64 a1_2] 23 (0, 0))) := ⟨blk_below BC24_clue.out hb⟩
        have BW24_impl : Aside0 (w24_impl.heap[gw]? = some (.cells #[.int .i64 r1, .slice A3 G.length c3] 35 (0, 0))) := ⟨blk_below BW24_clue.out hb⟩
        have BG24_impl : Aside0 (w24_impl.heap[gg]? = some (.cells #[.int .i64 r1, .slice A5 G.length c5] 35 (0, 0))) := ⟨blk_below BG24_clue.out hb⟩
        have HW24_impl : Aside0 (Kd.R k25 25 w24_impl w.heap.size (fun k_ => k_ < w3.heap.size ∧ k_ ≠ gw) (.slice A3 G.length c3) G) := ⟨Kd.R_below HW24_clue.out hb⟩
        have HN24_impl : Aside0 (Kd.R k25 25 w24_impl w.heap.size (fun k_ => k_ < w12.heap.size) (.slice A5 G.length c5) Gm) := ⟨Kd.R_below HN24_clue.out hb⟩
        have BZ24_impl := Aside0.mk (blk_below BZ24_clue.out hb)
        have SZ24_impl : Aside0 (w12.heap.size ≤ w24_impl.heap.size) := ⟨Nat.le_trans SZ24_clue.out hb.size⟩
        clear hb ho
        refine hK.out _ _ ⟨(blk_cell BK24_impl.out 0).trans rfl, (blk_cell BK24_impl.out 1).trans rfl, (blk_cell BC24_impl.out 0).trans rfl, (blk_cell BC24_impl.out 1).trans rfl, (blk_cell BC24_impl.out 2).trans rfl⟩ (fun hHeld => ?_)
        clear hK K
        refine norm_ (a' := ?_) ?_ ?_
        rotate_left
        · show Act.put _ (some 84) _ = _
          simp only [Act.put, List.setIfInBounds_toArray, List.set_cons_zero, List.set_cons_succ, i64_w, i32_w]
          rfl
        refine pure_ (i := 5) (N := some 79) (v := ?_) (a' := ?_) #[true, true, true, true, true, true, false, false, true, false, false] rfl rfl (by kernel_rfl) (fun _ _ _ h => h) (Or.inl ⟨by rfl, ?_⟩) ?_ ?_
        rotate_left
        · intro w'
          go_simp
          with_reducible rfl
        rotate_left
        · simp only [Act.put, List.setIfInBounds_toArray, List.set_cons_zero, List.set_cons_succ, i64_w, i32_w]
          rfl
        refine pure_ (i := 6) (N := some 85) (v := ?_) (a' := ?_) #[true, true, true, true, true, true, true, false, true, false, false] rfl rfl (by kernel_rfl) (fun _ _ _ h => h) (Or.inl ⟨by rfl, ?_⟩) ?_ ?_
        rotate_left
        · intro w'
          go_simp
          with_reducible rfl
        rotate_left
        · simp only [Act.put, List.setIfInBounds_toArray, List.set_cons_zero, List.set_cons_succ, i64_w, i32_w]
          rfl
        refine pure_ (i := 7) (N := some 86) (v := ?_) (a' := ?_) #[true, true, true, true, true, true, true, true, true, false, false] rfl rfl (by kernel_rfl) (fun _ _ _ h => h) (Or.inl ⟨by rfl, ?_⟩) ?_ ?_
        rotate_left
        · intro w'
          go_simp
          with_reducible rfl
        rotate_left
        · simp only [Act.put, List.setIfInBounds_toArray, List.set_cons_zero, List.set_cons_succ, i64_w, i32_w]
          rfl
        exact norm_ (by simp only [putAll, Act.put, List.setIfInBounds_toArray, List.set_cons_zero, List.set_cons_succ]) (hCont (AT, cT, A14, c14, (w24_toT).heap.size) _ ⟨⟨HB24_impl.out⟩, ⟨BK24_impl.out⟩, ⟨BC24_impl.out⟩, ⟨BW24_impl.out⟩, ⟨BG24_impl.out⟩, ⟨HW24_impl.out⟩, ⟨HN24_impl.out⟩, ⟨(Kd.R_mono (Kd.R_bound (Kd.R_types RW24_impl.out BZ24_impl.out (by decide))) (fun k_ hk => hk.1.2))⟩, ⟨BZ24_impl.out⟩, ⟨SZ24_toT.out⟩⟩)
    · skip
      refine value_ (w1 := ?_) (v := ?_) (by rfl) rfl ?_ ?_
      rotate_left 2
      · go_simp
        constructor
        · rfl
        · rfl
      refine hK.out _ _ ⟨(blk_cell (blk_drew (blk_alloc BK12.out _)) 0).trans rfl, (blk_cell (blk_drew (blk_alloc BK12.out _)) 1).trans rfl, (blk_cell (blk_drew (blk_alloc BC12.out _)) 0).trans rfl, (blk_cell (blk_drew (blk_alloc BC12.out _)) 1).trans rfl, (blk_cell (blk_drew (blk_alloc BC12.out _)) 2).trans rfl⟩ (fun hHeld => ?_)
      clear hK K
      refine norm_ (a' := ?_) ?_ ?_
      rotate_left
      · show Act.put _ (some 14) _ = _
        simp only [Act.put, List.setIfInBounds_toArray, List.set_cons_zero, List.set_cons_succ, i64_w, i32_w]
        rfl
      refine one_ (i := 1) (N := some 81) #[true, true, true, false, false, false, false, false, true, false, false] rfl rfl (by kernel_rfl) (by decide) (fun K hK => ?_)
      refine goes_ Try.func24 (by kernel_rfl) rfl #[.agg #[.int .i64 a0_0, .slice A0_1 l0_1.length c0_1], .bool true] (by rfl) rfl rfl (by simp only [List.map_toArray, List.map_cons, List.map_nil]; rfl) ?_
      with_reducible refine (full_toPuzzle k a0_0 _ _ l0_1 true F' _ (Kd.C_below HR.out (below_drew1 (below_alloc HB12.out _))) HC.out HF'.out).mono ?_
      rintro e w24_toT ⟨AT, nT, cT, rfl, hRT, hnT, hb⟩
      refine ⟨_, rfl, ?_⟩
      have hqT := Kd.R_reads' hRT
      have H13a : nT = L.length ∧ Kd.C k25 w24_toT AT L.length L ∧ L.length ≤ cT := toTrue_ok F F' L l0_1 w24_toT AT nT cT HF0.out HF2.out HL.out HLl.out HL2.out hqT.2.1 hqT.2.2 hnT
      obtain ⟨rfl, h131, h132⟩ := H13a
      have HCT := Aside0.mk h131
      have HCT' := Aside0.mk h132
      have HB24_toT : Aside0 (Below w.heap.size w w24_toT) := ⟨below_step (below_drew1 (below_alloc HB12.out _)) hb⟩
      have BK24_toT : Aside0 (w24_toT.heap[w.heap.size]? = some (.cells #[.int .i64 a0_0, .slice A0_1 l0_1.length c0_1] 30 (0, 0))) := ⟨blk_below (blk_drew (blk_alloc BK12.out _)) hb⟩
      have BC24_toT : Aside0 (w24_toT.heap[w.heap.size + 1]? = some (.cells #[.int .i64 a1_0, .int .i64 a1_1, .int .i64 a1_2] 23 (0, 0))) := ⟨blk_below (blk_drew (blk_alloc BC12.out _)) hb⟩
      have BW24_toT : Aside0 (w24_toT.heap[gw]? = some (.cells #[.int .i64 r1, .slice A3 G.length c3] 35 (0, 0))) := ⟨blk_below (blk_drew (blk_alloc BW12.out _)) hb⟩
      have BG24_toT : Aside0 (w24_toT.heap[gg]? = some (.cells #[.int .i64 r1, .slice A5 G.length c5] 35 (0, 0))) := ⟨blk_below (blk_drew (blk_alloc BG12.out _)) hb⟩
      have HW24_toT : Aside0 (Kd.R k25 25 w24_toT w.heap.size (fun k_ => k_ < w3.heap.size ∧ k_ ≠ gw) (.slice A3 G.length c3) G) := ⟨Kd.R_below (Kd.R_drew (Kd.R_alloc HW12.out _)) hb⟩
      have HN24_toT : Aside0 (Kd.R k25 25 w24_toT w.heap.size (fun k_ => k_ < w12.heap.size) (.slice A5 G.length c5) Gm) := ⟨Kd.R_below (Kd.R_drew (Kd.R_alloc HN12.out _)) hb⟩
      have BZ24_toT := Aside0.mk (blk_below (blk_drew (blk_new _ _)) hb)
      have SZ24_toT : Aside0 (w12.heap.size ≤ w24_toT.heap.size) := ⟨Nat.le_trans (show w12.heap.size ≤ (w12.alloc (.cells #[.int .i64 0, .slice none 0 0] 35 (0, 0))).heap.size by simp) hb.size⟩
      clear hb hRT hnT hqT h131 h132
      refine hK.out _ _ ⟨(blk_cell BK24_toT.out 0).trans rfl, (blk_cell BK24_toT.out 1).trans rfl, (blk_cell BC24_toT.out 0).trans rfl, (blk_cell BC24_toT.out 1).trans rfl, (blk_cell BC24_toT.out 2).trans rfl⟩ (fun hHeld => ?_)
      clear hK K
      refine norm_ (a' := ?_) ?_ ?_
      rotate_left
      · show Act.put _ (some 81) _ = _
        simp only [Act.put, List.setIfInBounds_toArray, List.set_cons_zero, List.set_cons_succ, i64_w, i32_w]
        rfl
      refine one_ (i := 3) (N := some 83) #[true, true, true, true, false, false, false, false, true, false, false] rfl rfl (by kernel_rfl) (by decide) (fun K hK => ?_)
      refine goes_ Try.func20 (by kernel_rfl) rfl #[.agg #[.int .i64 a1_0, .int .i64 a1_1, .int .i64 a1_2]] (by rfl) rfl rfl (by simp only [List.map_toArray, List.map_cons, List.map_nil]; rfl) ?_
      with_reducible refine (laws_toClue.calls a1_0 a1_1 a1_2 a1_0 a1_1 a1_2 _ HTC.out).mono ?_
      rintro e w24_clue ⟨rfl, hb⟩
      refine ⟨_, rfl, ?_⟩
      have HCT := Aside0.mk (Kd.C_below HCT.out hb)
      have HB24_clue : Aside0 (Below w.heap.size w w24_clue) := ⟨below_step HB24_toT.out hb⟩
      have BK24_clue : Aside0 (w24_clue.heap[w.heap.size]? = some (.cells #[.int .i64 a0_0, .slice A0_1 l0_1.length c0_1] 30 (0, 0))) := ⟨blk_below BK24_toT.out hb⟩
      have BC24_clue : Aside0 (w24_clue.heap[w.heap.size + 1]? = some (.cells #[.int .i64 a1_0, .int .i64 a1_1, .int .i64 a1_2] 23 (0, 0))) := ⟨blk_below BC24_toT.out hb⟩
      have BW24_clue : Aside0 (w24_clue.heap[gw]? = some (.cells #[.int .i64 r1, .slice A3 G.length c3] 35 (0, 0))) := ⟨blk_below BW24_toT.out hb⟩
      have BG24_clue : Aside0 (w24_clue.heap[gg]? = some (.cells #[.int .i64 r1, .slice A5 G.length c5] 35 (0, 0))) := ⟨blk_below BG24_toT.out hb⟩
      have HW24_clue : Aside0 (Kd.R k25 25 w24_clue w.heap.size (fun k_ => k_ < w3.heap.size ∧ k_ ≠ gw) (.slice A3 G.length c3) G) := ⟨Kd.R_below HW24_toT.out hb⟩
      have HN24_clue : Aside0 (Kd.R k25 25 w24_clue w.heap.size (fun k_ => k_ < w12.heap.size) (.slice A5 G.length c5) Gm) := ⟨Kd.R_below HN24_toT.out hb⟩
      have BZ24_clue := Aside0.mk (blk_below BZ24_toT.out hb)
      have SZ24_clue : Aside0 (w12.heap.size ≤ w24_clue.heap.size) := ⟨Nat.le_trans SZ24_toT.out hb.size⟩
      clear hb
      refine hK.out _ _ ⟨(blk_cell BK24_clue.out 0).trans rfl, (blk_cell BK24_clue.out 1).trans rfl, (blk_cell BC24_clue.out 0).trans rfl, (blk_cell BC24_clue.out 1).trans rfl, (blk_cell BC24_clue.out 2).trans rfl⟩ (fun hHeld => ?_)
      clear hK K
      refine norm_ (a' := ?_) ?_ ?_
      rotate_left
      · show Act.put _ (some 83) _ = _
        simp only [Act.put, List.setIfInBounds_toArray, List.set_cons_zero, List.set_cons_succ, i64_w, i32_w]
        rfl
      refine one_ (i := 4) (N := some 84) #[true, true, true, true, true, false, false, false, true, false, false] rfl rfl (by kernel_rfl) (by decide) (fun K hK => ?_)
      refine goes_ Try.func30 (by kernel_rfl) rfl #[.agg #[.int .i64 a0_0, .slice AT L.length cT], .agg #[.int .i64 a1_0, .int .i64 a1_1, .int .i64 a1_2]] (by rfl) rfl rfl (by simp only [List.map_toArray, List.map_cons, List.map_nil]; rfl) ?_
      with_reducible refine (impl_AddClue.calls a0_0 _ _ L a1_0 a1_1 a1_2 r1 G r2 _ HCT.out HCT'.out H2.out).mono ?_
      rintro e w24_impl ⟨vR, rfl, ho, hb⟩
      obtain ⟨A14, c14, rfl⟩ := Kd.R_slice ho
      refine ⟨_, rfl, ?_⟩
      have RW24_impl := Aside0.mk (Kd.R_lower (Kd.R_bound ho) (below_size HB24_clue.out))
      have HB24_impl : Aside0 (Below w.heap.size w w24_impl) := ⟨below_step HB24_clue.out hb⟩
      have BK24_impl : Aside0 (w24_impl.heap[w.heap.size]? = some (.cells #[.int .i64 a0_0, .slice A0_1 l0_1.length c0_1] 30 (0, 0))) := ⟨blk_below BK24_clue.out hb⟩
      have BC24_impl : Aside0 (w24_impl.heap[w.heap.size + 1]? = some (.cells #[.int .i64 a1_0, .int .i64 a1_1, .int .i64 a1_2] 23 (0, 0))) := ⟨blk_below BC24_clue.out hb⟩
      have BW24_impl : Aside0 (w24_impl.heap[gw]? = some (.cells #[.int .i64 r1, .slice A3 G.length c3] 35 (0, 0))) := ⟨blk_below BW24_clue.out hb⟩
      have BG24_impl : Aside0 (w24_impl.heap[gg]? = some (.cells #[.int .i64 r1, .slice A5 G.length c5] 35 (0, 0))) := ⟨blk_below BG24_clue.out hb⟩
      have HW24_impl : Aside0 (Kd.R k25 25 w24_impl w.heap.size (fun k_ => k_ < w3.heap.size ∧ k_ ≠ gw) (.slice A3 G.length c3) G) := ⟨Kd.R_below HW24_clue.out hb⟩
      have HN24_impl : Aside0 (Kd.R k25 25 w24_impl w.heap.size (fun k_ => k_ < w12.heap.size) (.slice A5 G.length c5) Gm) := ⟨Kd.R_below HN24_clue.out hb⟩
      have BZ24_impl := Aside0.mk (blk_below BZ24_clue.out hb)
      have SZ24_impl : Aside0 (w12.heap.size ≤ w24_impl.heap.size) := ⟨Nat.le_trans SZ24_clue.out hb.size⟩
      clear hb ho
      refine hK.out _ _ ⟨(blk_cell BK24_impl.out 0).trans rfl, (blk_cell BK24_impl.out 1).trans rfl, (blk_cell BC24_impl.out 0).trans rfl, (blk_cell BC24_impl.out 1).trans rfl, (blk_cell BC24_impl.out 2).trans rfl⟩ (fun hHeld => ?_)
      clear hK K
      refine norm_ (a' := ?_) ?_ ?_
      rotate_left
      · show Act.put _ (some 84) _ = _
        simp only [Act.put, List.setIfInBounds_toArray, List.set_cons_zero, List.set_cons_succ, i64_w, i32_w]
        rfl
      refine pure_ (i := 5) (N := some 79) (v := ?_) (a' := ?_) #[true, true, true, true, true, true, false, false, true, false, false] rfl rfl (by kernel_rfl) (fun _ _ _ h => h) (Or.inl ⟨by rfl, ?_⟩) ?_ ?_
      rotate_left
      · intro w'
        go_simp
        with_reducible rfl
      rotate_left
      · simp only [Act.put, List.setIfInBounds_toArray, List.set_cons_zero, List.set_cons_succ, i64_w, i32_w]
        rfl
      refine pure_ (i := 6) (N := some 85) (v := ?_) (a' := ?_) #[true, true, true, true, true, true, true, false, true, false, false] rfl rfl (by kernel_rfl) (fun _ _ _ h => h) (Or.inl ⟨by rfl, ?_⟩) ?_ ?_
      rotate_left
      · intro w'
        go_simp
        with_reducible rfl
      rotate_left
      · simp only [Act.put, List.setIfInBounds_toArray, List.set_cons_zero, List.set_cons_succ, i64_w, i32_w]
        rfl
      refine pure_ (i := 7) (N := some 86) (v := ?_) (a' := ?_) #[true, true, true, true, true, true, true, true, true, false, false] rfl rfl (by kernel_rfl) (fun _ _ _ h => h) (Or.inl ⟨by rfl, ?_⟩) ?_ ?_
      rotate_left
      · intro w'
        go_simp
        with_reducible rfl
      rotate_left
      · simp only [Act.put, List.setIfInBounds_toArray, List.set_cons_zero, List.set_cons_succ, i64_w, i32_w]
        rfl
      exact norm_ (by simp only [putAll, Act.put, List.setIfInBounds_toArray, List.set_cons_zero, List.set_cons_succ]) (hCont (AT, cT, A14, c14, w12.heap.size) _ ⟨⟨HB24_impl.out⟩, ⟨BK24_impl.out⟩, ⟨BC24_impl.out⟩, ⟨BW24_impl.out⟩, ⟨BG24_impl.out⟩, ⟨HW24_impl.out⟩, ⟨HN24_impl.out⟩, ⟨(Kd.R_mono (Kd.R_bound (Kd.R_types RW24_impl.out BZ24_impl.out (by decide))) (fun k_ hk => hk.1.2))⟩, ⟨BZ24_impl.out⟩, ⟨(Nat.le_refl _)⟩⟩)
  rintro ⟨A13, c13, A14, c14, gh⟩ w24_e ⟨HB24_, BK24_, BC24_, BW24_, BG24_, HW24_, HN24_, RW24_, BZ24_, LB24_⟩
  have hHeld : w24_e.cell? ⟨w.heap.size, 0, none⟩ = some (.int .i64 a0_0) ∧ w24_e.cell? ⟨w.heap.size, 1, none⟩ = some (.slice A0_1 l0_1.length c0_1) ∧ w24_e.cell? ⟨w.heap.size + 1, 0, none⟩ = some (.int .i64 a1_0) ∧ w24_e.cell? ⟨w.heap.size + 1, 1, none⟩ = some (.int .i64 a1_1) ∧ w24_e.cell? ⟨w.heap.size + 1, 2, none⟩ = some (.int .i64 a1_2) := ⟨(blk_cell BK24_.out 0).trans rfl, (blk_cell BK24_.out 1).trans rfl, (blk_cell BC24_.out 0).trans rfl, (blk_cell BC24_.out 1).trans rfl, (blk_cell BC24_.out 2).trans rfl⟩
  refine norm_ (a' := ?_) ?_ ?_
  rotate_left
  · simp only [putAll, Act.put, List.setIfInBounds_toArray, List.set_cons_zero, List.set_cons_succ]
    rfl
  refine one_ (i := 9) (N := none) #[true, true, true, true, true, true, true, true, true, true, false] rfl rfl (by kernel_rfl) (by decide) (fun K hK => ?_)
  have hz0 : w24_e.cell? ⟨gh, 0, none⟩ = some (.int .i64 0) := (blk_cell BZ24_.out 0).trans rfl
  have hz1 : w24_e.cell? ⟨gh, 1, none⟩ = some (.slice none 0 0) := (blk_cell BZ24_.out 1).trans rfl
  have fz0 := blk_frozen BZ24_.out 0
  have fz1 := blk_frozen BZ24_.out 1
  refine skip_ (w1 := ?_) (by rfl) rfl ?_ ?_
  rotate_left
  · go_simp
    rfl
  refine hK.out _ _ ⟨(blk_cell (blk_far (blk_far BK24_.out (by show w.heap.size ≠ gh; have h1_ : w12.heap.size ≤ gh := LB24_.out; have h3_ := blk_lt BK12.out; omega) _) (by show w.heap.size ≠ gh; have h1_ : w12.heap.size ≤ gh := LB24_.out; have h3_ := blk_lt BK12.out; omega) _) 0).trans rfl, (blk_cell (blk_far (blk_far BK24_.out (by show w.heap.size ≠ gh; have h1_ : w12.heap.size ≤ gh := LB24_.out; have h3_ := blk_lt BK12.out; omega) _) (by show w.heap.size ≠ gh; have h1_ : w12.heap.size ≤ gh := LB24_.out; have h3_ := blk_lt BK12.out; omega) _) 1).trans rfl, (blk_cell (blk_far (blk_far BC24_.out (by show w.heap.size + 1 ≠ gh; have h1_ : w12.heap.size ≤ gh := LB24_.out; have h3_ := blk_lt BC12.out; omega) _) (by show w.heap.size + 1 ≠ gh; have h1_ : w12.heap.size ≤ gh := LB24_.out; have h3_ := blk_lt BC12.out; omega) _) 0).trans rfl, (blk_cell (blk_far (blk_far BC24_.out (by show w.heap.size + 1 ≠ gh; have h1_ : w12.heap.size ≤ gh := LB24_.out; have h3_ := blk_lt BC12.out; omega) _) (by show w.heap.size + 1 ≠ gh; have h1_ : w12.heap.size ≤ gh := LB24_.out; have h3_ := blk_lt BC12.out; omega) _) 1).trans rfl, (blk_cell (blk_far (blk_far BC24_.out (by show w.heap.size + 1 ≠ gh; have h1_ : w12.heap.size ≤ gh := LB24_.out; have h3_ := blk_lt BC12.out; omega) _) (by show w.heap.size + 1 ≠ gh; have h1_ : w12.heap.size ≤ gh := LB24_.out; have h3_ := blk_lt BC12.out; omega) _) 2).trans rfl⟩ (fun hHeld => ?_)
  clear hK K
  refine pure_ (i := 10) (N := some 15) (v := ?_) (a' := ?_) #[true, true, true, true, true, true, true, true, true, true, true] rfl rfl (by kernel_rfl) (fun _ _ _ h => h) (Or.inl ⟨by rfl, ?_⟩) ?_ ?_
  rotate_left
  · intro w'
    go_simp
    with_reducible rfl
  rotate_left
  · simp only [Act.put, List.setIfInBounds_toArray, List.set_cons_zero, List.set_cons_succ, i64_w, i32_w]
    rfl
  refine done_ (by kernel_rfl) ?_
  obtain ⟨w14, hw_⟩ : ∃ W_, W_ = ((w24_e.setCell ⟨gh, 0, none⟩ (.int .i64 r1)).setCell ⟨gh, 1, none⟩ (.slice A14 G.length c14)) := ⟨_, rfl⟩
  rw [← hw_]
  have hsz_ : w14.heap.size = w24_e.heap.size := by rw [hw_]; simp
  have HSZw14 := Aside0.mk hsz_
  have HB14 : Aside0 (Below w.heap.size w w14) := ⟨by rw [hw_]; exact below_set (below_set HB24_.out (by have h1_ : w12.heap.size ≤ gh := LB24_.out; have h2_ := blk_lt BW12.out; have h3_ := blk_lt BG12.out; have h4_ := blk_lt BC12.out; have h5_ := hn3; omega)) (by have h1_ : w12.heap.size ≤ gh := LB24_.out; have h2_ := blk_lt BW12.out; have h3_ := blk_lt BG12.out; have h4_ := blk_lt BC12.out; have h5_ := hn3; omega)⟩
  have BW14 : Aside0 (w14.heap[gw]? = some (.cells #[.int .i64 r1, .slice A3 G.length c3] 35 (0, 0))) := ⟨by rw [hw_]; exact blk_far (blk_far BW24_.out (by show _ ≠ gh; have h1_ : w12.heap.size ≤ gh := LB24_.out; have h2_ := blk_lt BW12.out; have h3_ := blk_lt BG12.out; have h4_ := blk_lt BC12.out; have h5_ := hn3; omega) _) (by show _ ≠ gh; have h1_ : w12.heap.size ≤ gh := LB24_.out; have h2_ := blk_lt BW12.out; have h3_ := blk_lt BG12.out; have h4_ := blk_lt BC12.out; have h5_ := hn3; omega) _⟩
  have BG14 : Aside0 (w14.heap[gg]? = some (.cells #[.int .i64 r1, .slice A5 G.length c5] 35 (0, 0))) := ⟨by rw [hw_]; exact blk_far (blk_far BG24_.out (by show _ ≠ gh; have h1_ : w12.heap.size ≤ gh := LB24_.out; have h2_ := blk_lt BW12.out; have h3_ := blk_lt BG12.out; have h4_ := blk_lt BC12.out; have h5_ := hn3; omega) _) (by show _ ≠ gh; have h1_ : w12.heap.size ≤ gh := LB24_.out; have h2_ := blk_lt BW12.out; have h3_ := blk_lt BG12.out; have h4_ := blk_lt BC12.out; have h5_ := hn3; omega) _⟩
  have HN14 : Aside0 (Kd.R k25 25 w14 w.heap.size (fun k_ => k_ < w12.heap.size) (.slice A5 G.length c5) Gm) := ⟨by rw [hw_]; exact Kd.R_far (Kd.R_far HN24_.out (fun k_ hk => by show k_ ≠ gh; have h1_ : w12.heap.size ≤ gh := LB24_.out; have h2_ := blk_lt BW12.out; have h3_ := blk_lt BG12.out; have h4_ := blk_lt BC12.out; have h5_ := hn3; omega) _) (fun k_ hk => by show k_ ≠ gh; have h1_ : w12.heap.size ≤ gh := LB24_.out; have h2_ := blk_lt BW12.out; have h3_ := blk_lt BG12.out; have h4_ := blk_lt BC12.out; have h5_ := hn3; omega) _⟩
  have hw3_ : w3.heap.size ≤ w12.heap.size := HS312.out
  have HW14 : Aside0 (Kd.R k25 25 w14 w.heap.size (fun k_ => k_ < w3.heap.size ∧ k_ ≠ gw) (.slice A3 G.length c3) G) := ⟨by rw [hw_]; exact Kd.R_far (Kd.R_far HW24_.out (fun k_ hk => by show k_ ≠ gh; have h1_ : w12.heap.size ≤ gh := LB24_.out; have h2_ := blk_lt BW12.out; have h3_ := blk_lt BG12.out; have h4_ := blk_lt BC12.out; have h5_ := hn3; omega) _) (fun k_ hk => by show k_ ≠ gh; have h1_ : w12.heap.size ≤ gh := LB24_.out; have h2_ := blk_lt BW12.out; have h3_ := blk_lt BG12.out; have h4_ := blk_lt BC12.out; have h5_ := hn3; omega) _⟩
  have BH14 : Aside0 (w14.heap[gh]? = some (.cells #[.int .i64 r1, .slice A14 G.length c14] 35 (0, 0))) := ⟨by rw [hw_]; exact blk_put (blk_put BZ24_.out 0 _ rfl) 1 _ rfl⟩
  have HH14 : Aside0 (Kd.R k25 25 w14 w.heap.size (fun k_ => k_ ≠ gh) (.slice A14 G.length c14) G) := ⟨by rw [hw_]; exact Kd.R_far (Kd.R_far RW24_.out (fun k_ hk => hk) _) (fun k_ hk => hk) _⟩
  clear hw3_
  clear hw_ hsz_ hHeld
  clear HB24_ BK24_ BC24_ BW24_ BG24_ HW24_ HN24_ RW24_ BZ24_ LB24_ ck120 ck121 cc120 cc121 cc122
  clear HB12 BK12 BC12 BW12 BG12 HW12 HN12
  have cw140 := (blk_cell BW14.out 0).trans rfl
  have cw141 := (blk_cell BW14.out 1).trans rfl
  have ch140 := (blk_cell BH14.out 0).trans rfl
  have ch141 := (blk_cell BH14.out 1).trans rfl
  go_wp2_with fail
  refine (laws_eqPuzzle.calls k r1 _ _ G r1 _ _ G true _ (Kd.R_reads' HH14.out).2.2 (Kd.R_reads' HH14.out).2.1 (Kd.R_reads' HW14.out).2.2 (Kd.R_reads' HW14.out).2.1 HQ.out).mono ?_
  rintro e w15 ⟨rfl, hb⟩
  have HB15 : Aside0 (Below w.heap.size w w15) := ⟨below_step HB14.out hb⟩
  have BW15 : Aside0 (w15.heap[gw]? = some (.cells #[.int .i64 r1, .slice A3 G.length c3] 35 (0, 0))) := ⟨blk_below BW14.out hb⟩
  have BG15 : Aside0 (w15.heap[gg]? = some (.cells #[.int .i64 r1, .slice A5 G.length c5] 35 (0, 0))) := ⟨blk_below BG14.out hb⟩
  have HN15 : Aside0 (Kd.R k25 25 w15 w.heap.size (fun k_ => k_ < w12.heap.size) (.slice A5 G.length c5) Gm) := ⟨Kd.R_below HN14.out hb⟩
  have HW15 : Aside0 (Kd.R k25 25 w15 w.heap.size (fun k_ => k_ < w3.heap.size ∧ k_ ≠ gw) (.slice A3 G.length c3) G) := ⟨Kd.R_below HW14.out hb⟩
  clear HB14 BW14 BG14 HN14 HW14 HH14 BH14 hb cw140 cw141 ch140 ch141
  have cg150 := (blk_cell BG15.out 0).trans rfl
  have cg151 := (blk_cell BG15.out 1).trans rfl
  go_wp2_with fail
  have hcall := laws_heldPuzzle.calls k r1 A5 c5 Gm 101 m w15 (Kd.R_reads' (by have h_ := HN15.out; rw [← HGm.out] at h_; exact h_)).2.2 (Kd.R_reads' (by have h_ := HN15.out; rw [← HGm.out] at h_; exact h_)).2.1 HHG.out
  rw [HGm.out] at hcall
  refine hcall.mono ?_
  clear hcall
  rintro e w16 ⟨rfl, hb⟩
  have HB16 : Aside0 (Below w.heap.size w w16) := ⟨below_step HB15.out hb⟩
  clear hb
  go_wp2
  go_ret
  exact ⟨rfl, HB16.out⟩
set_option maxHeartbeats 8000000 in
set_option maxRecDepth 100000 in
theorem big_FnExactAddClue (a0_0 : Int) (A0_1 : Option Addr) (c0_1 : Nat) (l0_1 : List S23) (a1_0 a1_1 a1_2 : Int) (w : World) (hr0_1 : Kd.C k23 w A0_1 l0_1.length l0_1) (hc0_1 : l0_1.length ≤ c0_1)
    (s : Int) (hs : laws_szPuzzle.f a0_0 l0_1 1000000 = some s) (hs0 : s < 0) :
    Calls Try.prog 6 #[.agg #[.int .i64 a0_0, .slice A0_1 l0_1.length c0_1], .agg #[.int .i64 a1_0, .int .i64 a1_1, .int .i64 a1_2]] w fun e w' => e = .returned (.bool true) ∧ Below w.heap.size w w' := by
  have HR := Aside0.mk hr0_1
  have HC := Aside0.mk hc0_1
  have H0 := Aside0.mk hs
  have hs1 : decide (s < 0) = true := decide_eq_true hs0
  clear hr0_1 hc0_1 hs hs0
  go_enter Try.func6, Try.ntmps6
  go_wp2_with fail
  have HB : Aside0 (Below w.heap.size w ((w.alloc (.cells #[.int .i64 a0_0, .slice A0_1 l0_1.length c0_1] 30 (0, 0))).alloc (.cells #[.int .i64 a1_0, .int .i64 a1_1, .int .i64 a1_2] 23 (0, 0)))) := ⟨below_alloc (below_alloc (Below.refl _ _) _) _⟩
  refine (laws_szPuzzle.calls a0_0 _ _ l0_1 _ _ _ (Kd.C_below HR.out HB.out) HC.out H0.out).mono ?_
  rintro e w1 ⟨rfl, hb⟩
  have HB1 : Aside0 (Below w.heap.size w w1) := ⟨below_step HB.out hb⟩
  clear HB hb
  go_wp2
  go_ret
  exact ⟨rfl, HB1.out⟩


end Go.Proofs.Ytbkplokoomodcaa.A2
