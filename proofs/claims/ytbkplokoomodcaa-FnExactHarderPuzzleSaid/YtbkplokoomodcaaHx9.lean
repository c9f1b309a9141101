/- Plain Lean functions with the answers of Go functions, and proofs of it: printed by a program of this session (pr.py) over the kit's print, with hand-written parts. -/
import Derived.Test.YtbkplokoomodcaaHx0
import Derived.Test.YtbkplokoomodcaaHx1
import Derived.Test.YtbkplokoomodcaaHx2
import Derived.Test.YtbkplokoomodcaaHx3
import Derived.Test.YtbkplokoomodcaaHx6
import Derived.Test.YtbkplokoomodcaaHx8
namespace Go.Proofs.Ytbkplokoomodcaa.H
open Go.RowKit Go.Proofs.YtbkplokoomodcaaW.PrintWords Go.Proofs.YtbkplokoomodcaaW.PrintLast Go.Proofs.YtbkplokoomodcaaW.PrintMore
attribute [local go_sem] max2_int min2_int max_two min_two max_three min_three max_four min_four   -- for this text's walks alone
set_option linter.unusedVariables false
set_option linter.unusedSimpArgs false

-- FOR laws.FnExactHarderPuzzle
set_option maxHeartbeats 8000000 in
set_option maxRecDepth 100000 in
theorem hand_FnExactHarderPuzzle (k : Nat) (a0_0 : Int) (A0_1 : Option Addr) (c0_1 : Nat) (l0_1 : List S23) (w : World) (hr0_1 : Kd.C k23 w A0_1 l0_1.length l0_1) (hc0_1 : l0_1.length ≤ c0_1)
    (F F' L Lx : List S25) (t : Int) (r1 : Int) (G Gm : List S25) (r2 : Bool) (kx m : Int) (s : Int) (hs : laws_szPuzzle.f a0_0 l0_1 1000000 = some s) (hs0 : 0 ≤ s)
    (hF : full_toClueS.f k l0_1 false = some F) (hL : F.take l0_1.length = L) (hLl : L.length = l0_1.length) (hF' : full_toClueS.f k l0_1 true = some F') (hF2 : l0_1.length ≠ 0 → F' = F) (hF0 : l0_1.length = 0 → F' = [])
    (ht : laws_roomBehind.f (l0_1.length : Int) = some t) (hn : wrap64 ((l0_1.length : Int) + t) = (F.length : Int)) (he : laws_eqClueS.f k F F = some true)
    (h1 : spec_HarderPuzzle.f k a0_0 L = some (r1, G, r2)) (h2 : impl_HarderPuzzle.f a0_0 L = some (r1, G, r2))
    (hq : laws_eqPuzzle.f k r1 G r1 G = some true) (hmx : laws_markPuzzle.f k a0_0 L 101 = some (kx, Lx)) (hkx : 0 ≤ kx) (hmg : laws_markPuzzle.f k r1 G 101 = some (m, Gm)) (hhg : laws_heldPuzzle.f k r1 Gm 101 = some m) (hm0 : 0 ≤ m) (hGm : Gm.length = G.length) :
    Calls Try.prog 17 #[.agg #[.int .i64 a0_0, .slice A0_1 l0_1.length c0_1]] w fun e w' => e = .returned (.bool true) ∧ Below w.heap.size w w' := by
  have HR := Aside0.mk hr0_1
  have HC := Aside0.mk hc0_1
  have H0 := Aside0.mk hs
  have HF := Aside0.mk hF
  have HF' := Aside0.mk hF'
  have HT := Aside0.mk ht
  have HN := Aside0.mk hn
  have HE := Aside0.mk he
  have H1 := Aside0.mk h1
  have H2 := Aside0.mk h2
  have HF2 := Aside0.mk hF2
  have HF0 := Aside0.mk hF0
  have HL := Aside0.mk hL
  have HLl := Aside0.mk hLl
  have HQ := Aside0.mk hq
  have HMX := Aside0.mk hmx
  have HMG := Aside0.mk hmg
  have HHG := Aside0.mk hhg
  have HGm := Aside0.mk hGm
  have hs1 : decide (s < 0) = false := decide_eq_false (by omega)
  have dk : decide (kx < 0) = false := decide_eq_false (by omega)
  have dm : decide (m < 0) = false := decide_eq_false (by omega)
  clear hq hmx hkx hmg hhg hm0 hGm hr0_1 hc0_1 hs hF hF' ht hn he h1 h2 hF2 hF0 hL hLl hs0
  go_enter Try.func17, Try.ntmps17
  go_wp2_with fail
  have HB0 : Aside0 (Below w.heap.size w (w.alloc (.cells #[.int .i64 a0_0, .slice A0_1 l0_1.length c0_1] 30 (0, 0)))) := ⟨below_alloc (Below.refl _ _) _⟩
  have BK0 : Aside0 ((w.alloc (.cells #[.int .i64 a0_0, .slice A0_1 l0_1.length c0_1] 30 (0, 0))).heap[w.heap.size]? = some (.cells #[.int .i64 a0_0, .slice A0_1 l0_1.length c0_1] 30 (0, 0))) := ⟨blk_new _ _⟩
  refine (laws_szPuzzle.calls a0_0 _ _ l0_1 _ _ _ (Kd.C_below HR.out HB0.out) HC.out H0.out).mono ?_
  rintro e w1 ⟨rfl, hb⟩
  have HB1 : Aside0 (Below w.heap.size w w1) := ⟨below_step HB0.out hb⟩
  have BK1 : Aside0 (w1.heap[w.heap.size]? = some (.cells #[.int .i64 a0_0, .slice A0_1 l0_1.length c0_1] 30 (0, 0))) := ⟨blk_below BK0.out hb⟩
  clear HB0 BK0 hb
  have ck10 := (blk_cell BK1.out 0).trans rfl
  have ck11 := (blk_cell BK1.out 1).trans rfl
  go_wp2_with fail
  refine (full_toPuzzle k a0_0 _ _ l0_1 false F _ (Kd.C_below HR.out HB1.out) HC.out HF.out).mono ?_
  rintro e w2 hp
  obtain ⟨A2, n2, c2, rfl, hR2, hn2, hb⟩ := hp
  obtain rfl : n2 = L.length := by rcases hn2 with h_ | ⟨h_, h2_⟩; exact h_.trans HLl.out.symm; exact h2_.trans (by rw [← HL.out, h_]; simp)
  have HB2 : Aside0 (Below w.heap.size w w2) := ⟨below_step HB1.out hb⟩
  have BK2 : Aside0 (w2.heap[w.heap.size]? = some (.cells #[.int .i64 a0_0, .slice A0_1 l0_1.length c0_1] 30 (0, 0))) := ⟨blk_below BK1.out hb⟩
  have HL2 : Aside0 (L.length ≤ F.length) := ⟨by rw [← HL.out, List.length_take]; omega⟩
  have hq := Kd.R_reads' hR2
  have HC2 : Aside0 (Kd.C k25 w2 A2 L.length L) := ⟨by have h_ := Hw.C_take hq.2.2 L.length HL2.out; rw [HLl.out, HL.out, ← HLl.out] at h_; exact h_⟩
  have HC2' : Aside0 (L.length ≤ c2) := ⟨Nat.le_trans HL2.out hq.2.1⟩
  clear HB1 BK1 hb ck10 ck11 hR2 hn2 hq
  go_wp2_with fail
  refine (spec_HarderPuzzle.calls k a0_0 _ _ L r1 G r2 w2 HC2.out HC2'.out H1.out).mono ?_
  rintro e w3 ⟨v3, rfl, ho, hb⟩
  obtain ⟨A3, c3, rfl⟩ := Kd.R_slice ho
  have HB3_ : Aside0 (Below w.heap.size w w3) := ⟨below_step HB2.out hb⟩
  have BK3_ : Aside0 (w3.heap[w.heap.size]? = some (.cells #[.int .i64 a0_0, .slice A0_1 l0_1.length c0_1] 30 (0, 0))) := ⟨blk_below BK2.out hb⟩
  have HW3_ : Aside0 (Kd.R k25 25 w3 w.heap.size (fun k_ => k_ < w3.heap.size) (.slice A3 G.length c3) G) := ⟨Kd.R_mono (Kd.R_bound (Kd.R_lower ho (below_size HB2.out))) (fun k_ hk => hk.2.2.1)⟩
  have HB3 : Aside0 (Below w.heap.size w (w3.alloc (.cells #[.int .i64 r1, .slice A3 G.length c3] 35 (0, 0)))) := ⟨below_alloc HB3_.out _⟩
  have BK3 : Aside0 ((w3.alloc (.cells #[.int .i64 r1, .slice A3 G.length c3] 35 (0, 0))).heap[w.heap.size]? = some (.cells #[.int .i64 a0_0, .slice A0_1 l0_1.length c0_1] 30 (0, 0))) := ⟨blk_alloc BK3_.out _⟩
  have HW3 : Aside0 (Kd.R k25 25 (w3.alloc (.cells #[.int .i64 r1, .slice A3 G.length c3] 35 (0, 0))) w.heap.size (fun k_ => k_ < w3.heap.size) (.slice A3 G.length c3) G) := ⟨Kd.R_alloc HW3_.out _⟩
  have BW3 : Aside0 ((w3.alloc (.cells #[.int .i64 r1, .slice A3 G.length c3] 35 (0, 0))).heap[w3.heap.size]? = some (.cells #[.int .i64 r1, .slice A3 G.length c3] 35 (0, 0))) := ⟨blk_new _ _⟩
  have HN3 : Aside0 (w.heap.size < w3.heap.size) := ⟨blk_lt BK3_.out⟩
  clear HB2 BK2 hb HC2 HC2' ho HB3_ BK3_ HW3_
  have ck30 := (blk_cell BK3.out 0).trans rfl
  have ck31 := (blk_cell BK3.out 1).trans rfl
  go_wp2_with fail
  refine (full_toPuzzle k a0_0 _ _ l0_1 false F _ (Kd.C_below HR.out HB3.out) HC.out HF.out).mono ?_
  rintro e w4 hp
  obtain ⟨A4, n4, c4, rfl, hR4, hn4, hb⟩ := hp
  obtain rfl : n4 = L.length := by rcases hn4 with h_ | ⟨h_, h2_⟩; exact h_.trans HLl.out.symm; exact h2_.trans (by rw [← HL.out, h_]; simp)
  have HB4_ : Aside0 (Below w.heap.size w w4) := ⟨below_step HB3.out hb⟩
  have BK4_ : Aside0 (w4.heap[w.heap.size]? = some (.cells #[.int .i64 a0_0, .slice A0_1 l0_1.length c0_1] 30 (0, 0))) := ⟨blk_below BK3.out hb⟩
  have HW4_ : Aside0 (Kd.R k25 25 w4 w.heap.size (fun k_ => k_ < w3.heap.size) (.slice A3 G.length c3) G) := ⟨Kd.R_below HW3.out hb⟩
  have BW4_ : Aside0 (w4.heap[w3.heap.size]? = some (.cells #[.int .i64 r1, .slice A3 G.length c3] 35 (0, 0))) := ⟨blk_below BW3.out hb⟩
  have hq := Kd.R_reads' hR4
  have HC4_ : Aside0 (Kd.C k25 w4 A4 F.length F) := ⟨hq.2.2⟩
  have HC4' : Aside0 (F.length ≤ c4) := ⟨hq.2.1⟩
  have HX4_ : Aside0 (Kd.R k25 25 w4 w.heap.size (fun k_ => w3.heap.size + 1 ≤ k_ ∧ k_ < w4.heap.size) (.slice A4 L.length c4) L) := ⟨by
    have h_ := Hw.R_take hR4 L.length HL2.out
    rw [HLl.out, HL.out, ← HLl.out] at h_
    exact Kd.R_mono (Kd.R_lower (Kd.R_bound h_) (below_size HB3.out)) (fun k_ hk => ⟨by have := hk.2.1; simpa using this, hk.2.2.1⟩)⟩
  have hs34 : w3.heap.size + 1 ≤ w4.heap.size := by have := hb.size; simpa using this
  have HS34 := Aside0.mk hs34
  have HB4 : Aside0 (Below w.heap.size w (w4.alloc (.cells #[.int .i64 a0_0, .slice A4 L.length c4] 35 (0, 0)))) := ⟨below_alloc HB4_.out _⟩
  have BK4 : Aside0 ((w4.alloc (.cells #[.int .i64 a0_0, .slice A4 L.length c4] 35 (0, 0))).heap[w.heap.size]? = some (.cells #[.int .i64 a0_0, .slice A0_1 l0_1.length c0_1] 30 (0, 0))) := ⟨blk_alloc BK4_.out _⟩
  have HW4 : Aside0 (Kd.R k25 25 (w4.alloc (.cells #[.int .i64 a0_0, .slice A4 L.length c4] 35 (0, 0))) w.heap.size (fun k_ => k_ < w3.heap.size) (.slice A3 G.length c3) G) := ⟨Kd.R_alloc HW4_.out _⟩
  have BW4 : Aside0 ((w4.alloc (.cells #[.int .i64 a0_0, .slice A4 L.length c4] 35 (0, 0))).heap[w3.heap.size]? = some (.cells #[.int .i64 r1, .slice A3 G.length c3] 35 (0, 0))) := ⟨blk_alloc BW4_.out _⟩
  have HC4 : Aside0 (Kd.C k25 (w4.alloc (.cells #[.int .i64 a0_0, .slice A4 L.length c4] 35 (0, 0))) A4 F.length F) := ⟨Kd.C_alloc HC4_.out _⟩
  have HX4 : Aside0 (Kd.R k25 25 (w4.alloc (.cells #[.int .i64 a0_0, .slice A4 L.length c4] 35 (0, 0))) w.heap.size (fun k_ => w3.heap.size + 1 ≤ k_ ∧ k_ < w4.heap.size) (.slice A4 L.length c4) L) := ⟨Kd.R_alloc HX4_.out _⟩
  have BX4 : Aside0 ((w4.alloc (.cells #[.int .i64 a0_0, .slice A4 L.length c4] 35 (0, 0))).heap[w4.heap.size]? = some (.cells #[.int .i64 a0_0, .slice A4 L.length c4] 35 (0, 0))) := ⟨blk_new _ _⟩
  have HC4L : Aside0 (Kd.C k25 (w4.alloc (.cells #[.int .i64 a0_0, .slice A4 L.length c4] 35 (0, 0))) A4 L.length L) := ⟨by have h_ := Hw.C_take HC4.out L.length HL2.out; rw [HLl.out, HL.out, ← HLl.out] at h_; exact h_⟩
  clear HB3 BK3 HW3 BW3 hb ck30 ck31 hR4 hn4 hq HB4_ BK4_ HW4_ BW4_ HC4_ HX4_ hs34
  have cx40 := (blk_cell BX4.out 0).trans rfl
  have cx41 := (blk_cell BX4.out 1).trans rfl
  go_wp2_with fail
  refine (impl_HarderPuzzle.calls a0_0 _ _ L r1 G r2 _ HC4L.out (Nat.le_trans HL2.out HC4'.out) H2.out).mono ?_
  rintro e w5 ⟨v5, rfl, ho, hb⟩
  obtain ⟨A5, c5, rfl⟩ := Kd.R_slice ho
  have HB5_ : Aside0 (Below w.heap.size w w5) := ⟨below_step HB4.out hb⟩
  have BK5_ : Aside0 (w5.heap[w.heap.size]? = some (.cells #[.int .i64 a0_0, .slice A0_1 l0_1.length c0_1] 30 (0, 0))) := ⟨blk_below BK4.out hb⟩
  have BW5_ : Aside0 (w5.heap[w3.heap.size]? = some (.cells #[.int .i64 r1, .slice A3 G.length c3] 35 (0, 0))) := ⟨blk_below BW4.out hb⟩
  have BX5_ : Aside0 (w5.heap[w4.heap.size]? = some (.cells #[.int .i64 a0_0, .slice A4 L.length c4] 35 (0, 0))) := ⟨blk_below BX4.out hb⟩
  have HC5_ : Aside0 (Kd.C k25 w5 A4 F.length F) := ⟨Kd.C_below HC4.out hb⟩
  have HX5_ : Aside0 (Kd.R k25 25 w5 w.heap.size (fun k_ => w3.heap.size + 1 ≤ k_ ∧ k_ < w4.heap.size) (.slice A4 L.length c4) L) := ⟨Kd.R_below HX4.out hb⟩
  have HW5_ : Aside0 (Kd.R k25 25 w5 w.heap.size (fun k_ => k_ < w3.heap.size) (.slice A3 G.length c3) G) := ⟨Kd.R_below HW4.out hb⟩
  have HG5_ : Aside0 (Kd.R k25 25 w5 w.heap.size (fun k_ => w4.heap.size + 1 ≤ k_ ∧ k_ < w5.heap.size) (.slice A5 G.length c5) G) := ⟨Kd.R_mono (Kd.R_lower (Kd.R_bound ho) (below_size HB4.out)) (fun k_ hk => ⟨by have := hk.2.1; simpa using this, hk.2.2.1⟩)⟩
  have HS45 : Aside0 (w4.heap.size + 1 ≤ w5.heap.size) := ⟨by have := hb.size; simpa using this⟩
  have HB5 : Aside0 (Below w.heap.size w (w5.alloc (.cells #[.int .i64 r1, .slice A5 G.length c5] 35 (0, 0)))) := ⟨below_alloc HB5_.out _⟩
  have BK5 : Aside0 ((w5.alloc (.cells #[.int .i64 r1, .slice A5 G.length c5] 35 (0, 0))).heap[w.heap.size]? = some (.cells #[.int .i64 a0_0, .slice A0_1 l0_1.length c0_1] 30 (0, 0))) := ⟨blk_alloc BK5_.out _⟩
  have BW5 : Aside0 ((w5.alloc (.cells #[.int .i64 r1, .slice A5 G.length c5] 35 (0, 0))).heap[w3.heap.size]? = some (.cells #[.int .i64 r1, .slice A3 G.length c3] 35 (0, 0))) := ⟨blk_alloc BW5_.out _⟩
  have BX5 : Aside0 ((w5.alloc (.cells #[.int .i64 r1, .slice A5 G.length c5] 35 (0, 0))).heap[w4.heap.size]? = some (.cells #[.int .i64 a0_0, .slice A4 L.length c4] 35 (0, 0))) := ⟨blk_alloc BX5_.out _⟩
  have HC5 : Aside0 (Kd.C k25 (w5.alloc (.cells #[.int .i64 r1, .slice A5 G.length c5] 35 (0, 0))) A4 F.length F) := ⟨Kd.C_alloc HC5_.out _⟩
  have HX5 : Aside0 (Kd.R k25 25 (w5.alloc (.cells #[.int .i64 r1, .slice A5 G.length c5] 35 (0, 0))) w.heap.size (fun k_ => w3.heap.size + 1 ≤ k_ ∧ k_ < w4.heap.size) (.slice A4 L.length c4) L) := ⟨Kd.R_alloc HX5_.out _⟩
  have HW5 : Aside0 (Kd.R k25 25 (w5.alloc (.cells #[.int .i64 r1, .slice A5 G.length c5] 35 (0, 0))) w.heap.size (fun k_ => k_ < w3.heap.size) (.slice A3 G.length c3) G) := ⟨Kd.R_alloc HW5_.out _⟩
  have HG5 : Aside0 (Kd.R k25 25 (w5.alloc (.cells #[.int .i64 r1, .slice A5 G.length c5] 35 (0, 0))) w.heap.size (fun k_ => w4.heap.size + 1 ≤ k_ ∧ k_ < w5.heap.size) (.slice A5 G.length c5) G) := ⟨Kd.R_alloc HG5_.out _⟩
  have BG5 : Aside0 ((w5.alloc (.cells #[.int .i64 r1, .slice A5 G.length c5] 35 (0, 0))).heap[w5.heap.size]? = some (.cells #[.int .i64 r1, .slice A5 G.length c5] 35 (0, 0))) := ⟨blk_new _ _⟩
  clear HC4L hb ho cx40 cx41
  clear HB4 BK4 BW4 BX4 HC4 HX4 HW4
  clear HB5_ BK5_ BW5_ BX5_ HC5_ HX5_ HW5_ HG5_
  have cw50 := (blk_cell BW5.out 0).trans rfl
  have cw51 := (blk_cell BW5.out 1).trans rfl
  have cg50 := (blk_cell BG5.out 0).trans rfl
  have cg51 := (blk_cell BG5.out 1).trans rfl
  go_wp2_with fail
  refine (laws_eqPuzzle.calls k r1 _ _ G r1 _ _ G true _ (Kd.R_reads' HG5.out).2.2 (Kd.R_reads' HG5.out).2.1 (Kd.R_reads' HW5.out).2.2 (Kd.R_reads' HW5.out).2.1 HQ.out).mono ?_
  rintro e w6 ⟨rfl, hb⟩
  have HB6 : Aside0 (Below w.heap.size w w6) := ⟨below_step HB5.out hb⟩
  have BK6 : Aside0 (w6.heap[w.heap.size]? = some (.cells #[.int .i64 a0_0, .slice A0_1 l0_1.length c0_1] 30 (0, 0))) := ⟨blk_below BK5.out hb⟩
  have BW6 : Aside0 (w6.heap[w3.heap.size]? = some (.cells #[.int .i64 r1, .slice A3 G.length c3] 35 (0, 0))) := ⟨blk_below BW5.out hb⟩
  have BX6 : Aside0 (w6.heap[w4.heap.size]? = some (.cells #[.int .i64 a0_0, .slice A4 L.length c4] 35 (0, 0))) := ⟨blk_below BX5.out hb⟩
  have HC6 : Aside0 (Kd.C k25 w6 A4 F.length F) := ⟨Kd.C_below HC5.out hb⟩
  have HX6 : Aside0 (Kd.R k25 25 w6 w.heap.size (fun k_ => w3.heap.size + 1 ≤ k_ ∧ k_ < w4.heap.size) (.slice A4 L.length c4) L) := ⟨Kd.R_below HX5.out hb⟩
  have HW6 : Aside0 (Kd.R k25 25 w6 w.heap.size (fun k_ => k_ < w3.heap.size) (.slice A3 G.length c3) G) := ⟨Kd.R_below HW5.out hb⟩
  have HG6 : Aside0 (Kd.R k25 25 w6 w.heap.size (fun k_ => w4.heap.size + 1 ≤ k_ ∧ k_ < w5.heap.size) (.slice A5 G.length c5) G) := ⟨Kd.R_below HG5.out hb⟩
  have BG6 : Aside0 (w6.heap[w5.heap.size]? = some (.cells #[.int .i64 r1, .slice A5 G.length c5] 35 (0, 0))) := ⟨blk_below BG5.out hb⟩
  clear HB5 BK5 BW5 BX5 HC5 HX5 HW5 HG5 BG5 hb cw50 cw51 cg50 cg51
  have hr2 : (r2 != r2) = false := by simp
  have ck60 := (blk_cell BK6.out 0).trans rfl
  have ck61 := (blk_cell BK6.out 1).trans rfl
  have cx60 := (blk_cell BX6.out 0).trans rfl
  have cx61 := (blk_cell BX6.out 1).trans rfl
  go_wp2_with fail
  have HB6' : Aside0 (∀ W, Below w6.heap.size w6 W → Below w.heap.size w W) := ⟨fun W h_ => below_step HB6.out h_⟩
  go_region_held3 (fun w' => w'.cell? ⟨w.heap.size, 0, none⟩ = some (.int .i64 a0_0) ∧ w'.cell? ⟨w.heap.size, 1, none⟩ = some (.slice A0_1 l0_1.length c0_1) ∧ w'.cell? ⟨w4.heap.size, 0, none⟩ = some (.int .i64 a0_0) ∧ w'.cell? ⟨w4.heap.size, 1, none⟩ = some (.slice A4 L.length c4)) (first | exact ⟨ck60, ck61, cx60, cx61⟩ | exact ⟨ck70, ck71, cx70, cx71⟩ | exact ⟨ck80, ck81, cx80, cx81⟩) (first
    | (go_at_call 24; refine (full_toPuzzle k a0_0 _ _ l0_1 false F _ (Kd.C_below HR.out (below_drew1 HB6.out)) HC.out HF.out).mono ?_; rintro e w7 hp; obtain ⟨A7, n7, c7, rfl, hR7, hn7, hb⟩ := hp; obtain rfl : n7 = L.length := (by rcases hn7 with h_ | ⟨h_, h2_⟩; exact h_.trans HLl.out.symm; exact h2_.trans (by rw [← HL.out, h_]; simp)); have hq7 := Kd.R_reads' hR7; have hb7 : Below w6.heap.size w6 w7 := below_step (below_drew1 (Below.refl _ _)) hb; have HB7 : Aside0 (Below w.heap.size w w7) := ⟨HB6'.out _ hb7⟩; have BK7 : Aside0 (w7.heap[w.heap.size]? = some (.cells #[.int .i64 a0_0, .slice A0_1 l0_1.length c0_1] 30 (0, 0))) := ⟨blk_below BK6.out hb7⟩; have BW7 : Aside0 (w7.heap[w3.heap.size]? = some (.cells #[.int .i64 r1, .slice A3 G.length c3] 35 (0, 0))) := ⟨blk_below BW6.out hb7⟩; have BX7 : Aside0 (w7.heap[w4.heap.size]? = some (.cells #[.int .i64 a0_0, .slice A4 L.length c4] 35 (0, 0))) := ⟨blk_below BX6.out hb7⟩; have HC7 : Aside0 (Kd.C k25 w7 A4 F.length F) := ⟨Kd.C_below HC6.out hb7⟩; have HX7 : Aside0 (Kd.R k25 25 w7 w.heap.size (fun k_ => w3.heap.size + 1 ≤ k_ ∧ k_ < w4.heap.size) (.slice A4 L.length c4) L) := ⟨Kd.R_below HX6.out hb7⟩; have HW7 : Aside0 (Kd.R k25 25 w7 w.heap.size (fun k_ => k_ < w3.heap.size) (.slice A3 G.length c3) G) := ⟨Kd.R_below HW6.out hb7⟩; have HG7 : Aside0 (Kd.R k25 25 w7 w.heap.size (fun k_ => w4.heap.size + 1 ≤ k_ ∧ k_ < w5.heap.size) (.slice A5 G.length c5) G) := ⟨Kd.R_below HG6.out hb7⟩; have BG7 : Aside0 (w7.heap[w5.heap.size]? = some (.cells #[.int .i64 r1, .slice A5 G.length c5] 35 (0, 0))) := ⟨blk_below BG6.out hb7⟩; have HD7 : Aside0 (Kd.C k25 w7 A7 F.length F) := ⟨hq7.2.2⟩; have HD7c : Aside0 (F.length ≤ c7) := ⟨hq7.2.1⟩; have ck70 := (blk_cell BK7.out 0).trans rfl; have ck71 := (blk_cell BK7.out 1).trans rfl; have cx70 := (blk_cell BX7.out 0).trans rfl; have cx71 := (blk_cell BX7.out 1).trans rfl; clear hb hb7 hq7 hR7 hn7)
    | (go_at_call 26; refine (intact_Puzzle k a0_0 F A4 A7 L.length c4 c7 t w7 (by rw [HLl.out]; exact HT.out) (by rw [HLl.out]; exact HN.out) HC4'.out HD7c.out HC7.out HD7.out HE.out).mono ?_; rintro e w8 ⟨rfl, hb⟩; have HB8 : Aside0 (Below w.heap.size w w8) := ⟨below_step HB7.out hb⟩; have BK8 : Aside0 (w8.heap[w.heap.size]? = some (.cells #[.int .i64 a0_0, .slice A0_1 l0_1.length c0_1] 30 (0, 0))) := ⟨blk_below BK7.out hb⟩; have BW8 : Aside0 (w8.heap[w3.heap.size]? = some (.cells #[.int .i64 r1, .slice A3 G.length c3] 35 (0, 0))) := ⟨blk_below BW7.out hb⟩; have BX8 : Aside0 (w8.heap[w4.heap.size]? = some (.cells #[.int .i64 a0_0, .slice A4 L.length c4] 35 (0, 0))) := ⟨blk_below BX7.out hb⟩; have HC8 : Aside0 (Kd.C k25 w8 A4 F.length F) := ⟨Kd.C_below HC7.out hb⟩; have HX8 : Aside0 (Kd.R k25 25 w8 w.heap.size (fun k_ => w3.heap.size + 1 ≤ k_ ∧ k_ < w4.heap.size) (.slice A4 L.length c4) L) := ⟨Kd.R_below HX7.out hb⟩; have HW8 : Aside0 (Kd.R k25 25 w8 w.heap.size (fun k_ => k_ < w3.heap.size) (.slice A3 G.length c3) G) := ⟨Kd.R_below HW7.out hb⟩; have HG8 : Aside0 (Kd.R k25 25 w8 w.heap.size (fun k_ => w4.heap.size + 1 ≤ k_ ∧ k_ < w5.heap.size) (.slice A5 G.length c5) G) := ⟨Kd.R_below HG7.out hb⟩; have BG8 : Aside0 (w8.heap[w5.heap.size]? = some (.cells #[.int .i64 r1, .slice A5 G.length c5] 35 (0, 0))) := ⟨blk_below BG7.out hb⟩; have ck80 := (blk_cell BK8.out 0).trans rfl; have ck81 := (blk_cell BK8.out 1).trans rfl; have cx80 := (blk_cell BX8.out 0).trans rfl; have cx81 := (blk_cell BX8.out 1).trans rfl; clear hb))
  clear ck60 ck61 cx60 cx61 HB6'
  clear HB6 BK6 BW6 BX6 HC6 HX6 HW6 HG6 BG6
  clear ck70 ck71 cx70 cx71 HD7 HD7c
  clear HB7 BK7 BW7 BX7 HC7 HX7 HW7 HG7 BG7
  go_wp2_with fail
  have hn3 := HN3.out
  have hs34 := HS34.out
  have hs45 := HS45.out
  refine (laws_markPuzzle.calls k a0_0 _ _ L 101 kx Lx w w8 HB8.out HX8.out HMX.out).mono ?_
  rintro e w9 ⟨rfl, hx9, hb9, hk⟩
  have HB9 : Aside0 (Below w.heap.size w w9) := ⟨hb9⟩
  have BK9 : Aside0 (w9.heap[w.heap.size]? = some (.cells #[.int .i64 a0_0, .slice A0_1 l0_1.length c0_1] 30 (0, 0))) := ⟨blk_kept BK8.out hk (fun h_ => by omega)⟩
  have BW9 : Aside0 (w9.heap[w3.heap.size]? = some (.cells #[.int .i64 r1, .slice A3 G.length c3] 35 (0, 0))) := ⟨blk_kept BW8.out hk (fun h_ => by omega)⟩
  have BG9 : Aside0 (w9.heap[w5.heap.size]? = some (.cells #[.int .i64 r1, .slice A5 G.length c5] 35 (0, 0))) := ⟨blk_kept BG8.out hk (fun h_ => by omega)⟩
  have HW9 : Aside0 (Kd.R k25 25 w9 w.heap.size (fun k_ => k_ < w3.heap.size) (.slice A3 G.length c3) G) := ⟨Kd.R_kept HW8.out hk (fun k_ h1_ h2_ => by omega)⟩
  have HG9 : Aside0 (Kd.R k25 25 w9 w.heap.size (fun k_ => w4.heap.size + 1 ≤ k_ ∧ k_ < w5.heap.size) (.slice A5 G.length c5) G) := ⟨Kd.R_kept HG8.out hk (fun k_ h1_ h2_ => by omega)⟩
  clear HB8 BK8 BW8 BX8 HC8 HX8 HW8 HG8 BG8 hx9 hb9 hk ck80 ck81 cx80 cx81
  have cw90 := (blk_cell BW9.out 0).trans rfl
  have cw91 := (blk_cell BW9.out 1).trans rfl
  have cg90 := (blk_cell BG9.out 0).trans rfl
  have cg91 := (blk_cell BG9.out 1).trans rfl
  go_wp2_with fail
  refine (laws_eqPuzzle.calls k r1 _ _ G r1 _ _ G true _ (Kd.R_reads' HG9.out).2.2 (Kd.R_reads' HG9.out).2.1 (Kd.R_reads' HW9.out).2.2 (Kd.R_reads' HW9.out).2.1 HQ.out).mono ?_
  rintro e w10 ⟨rfl, hb⟩
  have HB10 : Aside0 (Below w.heap.size w w10) := ⟨below_step HB9.out hb⟩
  have BK10 : Aside0 (w10.heap[w.heap.size]? = some (.cells #[.int .i64 a0_0, .slice A0_1 l0_1.length c0_1] 30 (0, 0))) := ⟨blk_below BK9.out hb⟩
  have BW10 : Aside0 (w10.heap[w3.heap.size]? = some (.cells #[.int .i64 r1, .slice A3 G.length c3] 35 (0, 0))) := ⟨blk_below BW9.out hb⟩
  have BG10 : Aside0 (w10.heap[w5.heap.size]? = some (.cells #[.int .i64 r1, .slice A5 G.length c5] 35 (0, 0))) := ⟨blk_below BG9.out hb⟩
  have HW10 : Aside0 (Kd.R k25 25 w10 w.heap.size (fun k_ => k_ < w3.heap.size) (.slice A3 G.length c3) G) := ⟨Kd.R_below HW9.out hb⟩
  have HG10 : Aside0 (Kd.R k25 25 w10 w.heap.size (fun k_ => w4.heap.size + 1 ≤ k_ ∧ k_ < w5.heap.size) (.slice A5 G.length c5) G) := ⟨Kd.R_below HG9.out hb⟩
  clear HB9 BK9 BW9 BG9 HW9 HG9 hb cw90 cw91 cg90 cg91
  have cg100 := (blk_cell BG10.out 0).trans rfl
  have cg101 := (blk_cell BG10.out 1).trans rfl
  go_wp2_with fail
  refine (laws_markPuzzle.calls k r1 _ _ G 101 m Gm w w10 HB10.out HG10.out HMG.out).mono ?_
  rintro e w11 ⟨rfl, hx11, hb11, hk⟩
  have HB11 : Aside0 (Below w.heap.size w w11) := ⟨hb11⟩
  have BK11 : Aside0 (w11.heap[w.heap.size]? = some (.cells #[.int .i64 a0_0, .slice A0_1 l0_1.length c0_1] 30 (0, 0))) := ⟨blk_kept BK10.out hk (fun h_ => by omega)⟩
  have BW11 : Aside0 (w11.heap[w3.heap.size]? = some (.cells #[.int .i64 r1, .slice A3 G.length c3] 35 (0, 0))) := ⟨blk_kept BW10.out hk (fun h_ => by omega)⟩
  have BG11 : Aside0 (w11.heap[w5.heap.size]? = some (.cells #[.int .i64 r1, .slice A5 G.length c5] 35 (0, 0))) := ⟨blk_kept BG10.out hk (fun h_ => by omega)⟩
  have HW11 : Aside0 (Kd.R k25 25 w11 w.heap.size (fun k_ => k_ < w3.heap.size) (.slice A3 G.length c3) G) := ⟨Kd.R_kept HW10.out hk (fun k_ h1_ h2_ => by omega)⟩
  have HM11 : Aside0 (Kd.R k25 25 w11 w.heap.size (fun k_ => (w4.heap.size + 1 ≤ k_ ∧ k_ < w5.heap.size) ∨ w10.heap.size ≤ k_) (.slice A5 G.length c5) Gm) := ⟨hx11⟩
  clear HB10 BK10 BW10 BG10 HW10 HG10 hx11 hb11 hk cg100 cg101
  have cg110 := (blk_cell BG11.out 0).trans rfl
  have cg111 := (blk_cell BG11.out 1).trans rfl
  go_wp2_with fail
  have hcall := laws_heldPuzzle.calls k r1 A5 c5 Gm 101 m w11 (Kd.R_reads' (by have h_ := HM11.out; rw [← HGm.out] at h_; exact h_)).2.2 (Kd.R_reads' (by have h_ := HM11.out; rw [← HGm.out] at h_; exact h_)).2.1 HHG.out
  rw [HGm.out] at hcall
  refine hcall.mono ?_
  clear hcall
  rintro e w12 ⟨rfl, hb⟩
  have HB12 : Aside0 (Below w.heap.size w w12) := ⟨below_step HB11.out hb⟩
  have BK12 : Aside0 (w12.heap[w.heap.size]? = some (.cells #[.int .i64 a0_0, .slice A0_1 l0_1.length c0_1] 30 (0, 0))) := ⟨blk_below BK11.out hb⟩
  have BW12 : Aside0 (w12.heap[w3.heap.size]? = some (.cells #[.int .i64 r1, .slice A3 G.length c3] 35 (0, 0))) := ⟨blk_below BW11.out hb⟩
  have BG12 : Aside0 (w12.heap[w5.heap.size]? = some (.cells #[.int .i64 r1, .slice A5 G.length c5] 35 (0, 0))) := ⟨blk_below BG11.out hb⟩
  have HW12 : Aside0 (Kd.R k25 25 w12 w.heap.size (fun k_ => k_ < w3.heap.size) (.slice A3 G.length c3) G) := ⟨Kd.R_below HW11.out hb⟩
  have HM12 : Aside0 (Kd.R k25 25 w12 w.heap.size (fun k_ => (w4.heap.size + 1 ≤ k_ ∧ k_ < w5.heap.size) ∨ w10.heap.size ≤ k_) (.slice A5 G.length c5) Gm) := ⟨Kd.R_below HM11.out hb⟩
  clear HB11 BK11 BW11 BG11 HW11 HM11 hb cg110 cg111
  have ck120 := (blk_cell BK12.out 0).trans rfl
  have ck121 := (blk_cell BK12.out 1).trans rfl
  go_wp2_with fail
  refine (full_toPuzzle k a0_0 _ _ l0_1 true F' _ (Kd.C_below HR.out HB12.out) HC.out HF'.out).mono ?_
  rintro e w13 hp
  obtain ⟨A13, n13, c13, rfl, hR13, hn13, hb⟩ := hp
  have hq13 := Kd.R_reads' hR13
  have H13a : n13 = L.length ∧ Kd.C k25 w13 A13 L.length L ∧ L.length ≤ c13 := by
    by_cases h0 : l0_1.length = 0
    · have h_ := HF0.out h0
      subst h_
      have hLn : L = [] := List.eq_nil_of_length_eq_zero (HLl.out.trans h0)
      subst hLn
      refine ⟨?_, hq13.2.2, Nat.zero_le _⟩
      rcases hn13 with h_ | ⟨_, h2_⟩
      · rw [h_, h0]; rfl
      · exact h2_
    · have h_ := HF2.out h0
      subst h_
      refine ⟨?_, ?_, Nat.le_trans HL2.out hq13.2.1⟩
      · rcases hn13 with h_ | ⟨h_, h2_⟩
        · exact h_.trans HLl.out.symm
        · exact h2_.trans (by rw [← HL.out, h_]; simp)
      · have h_ := Hw.C_take hq13.2.2 L.length HL2.out
        rw [HLl.out, HL.out, ← HLl.out] at h_
        exact h_
  obtain ⟨rfl, h131, h132⟩ := H13a
  have HB13 : Aside0 (Below w.heap.size w w13) := ⟨below_step HB12.out hb⟩
  have BK13 : Aside0 (w13.heap[w.heap.size]? = some (.cells #[.int .i64 a0_0, .slice A0_1 l0_1.length c0_1] 30 (0, 0))) := ⟨blk_below BK12.out hb⟩
  have BW13 : Aside0 (w13.heap[w3.heap.size]? = some (.cells #[.int .i64 r1, .slice A3 G.length c3] 35 (0, 0))) := ⟨blk_below BW12.out hb⟩
  have BG13 : Aside0 (w13.heap[w5.heap.size]? = some (.cells #[.int .i64 r1, .slice A5 G.length c5] 35 (0, 0))) := ⟨blk_below BG12.out hb⟩
  have HW13 : Aside0 (Kd.R k25 25 w13 w.heap.size (fun k_ => k_ < w3.heap.size) (.slice A3 G.length c3) G) := ⟨Kd.R_below HW12.out hb⟩
  have HM13 : Aside0 (Kd.R k25 25 w13 w.heap.size (fun k_ => (w4.heap.size + 1 ≤ k_ ∧ k_ < w5.heap.size) ∨ w10.heap.size ≤ k_) (.slice A5 G.length c5) Gm) := ⟨Kd.R_below HM12.out hb⟩
  have H13a1 := Aside0.mk h131
  have H13a2 := Aside0.mk h132
  clear HB12 BK12 BW12 BG12 HW12 HM12 hb hR13 hn13 hq13 h131 h132 ck120 ck121
  go_wp2_with fail
  refine (impl_HarderPuzzle.calls a0_0 _ _ L r1 G r2 w13 H13a1.out H13a2.out H2.out).mono ?_
  rintro e w14 ⟨v14, rfl, ho, hb⟩
  obtain ⟨A14, c14, rfl⟩ := Kd.R_slice ho
  have HB14_ : Aside0 (Below w.heap.size w w14) := ⟨below_step HB13.out hb⟩
  have BK14_ : Aside0 (w14.heap[w.heap.size]? = some (.cells #[.int .i64 a0_0, .slice A0_1 l0_1.length c0_1] 30 (0, 0))) := ⟨blk_below BK13.out hb⟩
  have BW14_ : Aside0 (w14.heap[w3.heap.size]? = some (.cells #[.int .i64 r1, .slice A3 G.length c3] 35 (0, 0))) := ⟨blk_below BW13.out hb⟩
  have BG14_ : Aside0 (w14.heap[w5.heap.size]? = some (.cells #[.int .i64 r1, .slice A5 G.length c5] 35 (0, 0))) := ⟨blk_below BG13.out hb⟩
  have HW14_ : Aside0 (Kd.R k25 25 w14 w.heap.size (fun k_ => k_ < w3.heap.size) (.slice A3 G.length c3) G) := ⟨Kd.R_below HW13.out hb⟩
  have HM14_ : Aside0 (Kd.R k25 25 w14 w.heap.size (fun k_ => (w4.heap.size + 1 ≤ k_ ∧ k_ < w5.heap.size) ∨ w10.heap.size ≤ k_) (.slice A5 G.length c5) Gm) := ⟨Kd.R_below HM13.out hb⟩
  have HB14 : Aside0 (Below w.heap.size w (w14.alloc (.cells #[.int .i64 r1, .slice A14 G.length c14] 35 (0, 0)))) := ⟨below_alloc HB14_.out _⟩
  have BK14 : Aside0 ((w14.alloc (.cells #[.int .i64 r1, .slice A14 G.length c14] 35 (0, 0))).heap[w.heap.size]? = some (.cells #[.int .i64 a0_0, .slice A0_1 l0_1.length c0_1] 30 (0, 0))) := ⟨blk_alloc BK14_.out _⟩
  have BW14 : Aside0 ((w14.alloc (.cells #[.int .i64 r1, .slice A14 G.length c14] 35 (0, 0))).heap[w3.heap.size]? = some (.cells #[.int .i64 r1, .slice A3 G.length c3] 35 (0, 0))) := ⟨blk_alloc BW14_.out _⟩
  have BG14 : Aside0 ((w14.alloc (.cells #[.int .i64 r1, .slice A14 G.length c14] 35 (0, 0))).heap[w5.heap.size]? = some (.cells #[.int .i64 r1, .slice A5 G.length c5] 35 (0, 0))) := ⟨blk_alloc BG14_.out _⟩
  have HW14 : Aside0 (Kd.R k25 25 (w14.alloc (.cells #[.int .i64 r1, .slice A14 G.length c14] 35 (0, 0))) w.heap.size (fun k_ => k_ < w3.heap.size) (.slice A3 G.length c3) G) := ⟨Kd.R_alloc HW14_.out _⟩
  have HM14 : Aside0 (Kd.R k25 25 (w14.alloc (.cells #[.int .i64 r1, .slice A14 G.length c14] 35 (0, 0))) w.heap.size (fun k_ => (w4.heap.size + 1 ≤ k_ ∧ k_ < w5.heap.size) ∨ w10.heap.size ≤ k_) (.slice A5 G.length c5) Gm) := ⟨Kd.R_alloc HM14_.out _⟩
  have HH14 := Aside0.mk (Kd.R_alloc ho (.cells #[.int .i64 r1, .slice A14 G.length c14] 35 (0, 0)))
  have BH14 : Aside0 ((w14.alloc (.cells #[.int .i64 r1, .slice A14 G.length c14] 35 (0, 0))).heap[w14.heap.size]? = some (.cells #[.int .i64 r1, .slice A14 G.length c14] 35 (0, 0))) := ⟨blk_new _ _⟩
  clear HB13 BK13 BW13 BG13 HW13 HM13 hb ho
  clear HB14_ BK14_ BW14_ BG14_ HW14_ HM14_
  have cw140 := (blk_cell BW14.out 0).trans rfl
  have cw141 := (blk_cell BW14.out 1).trans rfl
  have ch140 := (blk_cell BH14.out 0).trans rfl
  have ch141 := (blk_cell BH14.out 1).trans rfl
  go_wp2_with fail
  refine (laws_eqPuzzle.calls k r1 _ _ G r1 _ _ G true _ (Kd.R_reads' HH14.out).2.2 (Kd.R_reads' HH14.out).2.1 (Kd.R_reads' HW14.out).2.2 (Kd.R_reads' HW14.out).2.1 HQ.out).mono ?_
  rintro e w15 ⟨rfl, hb⟩
  have HB15 : Aside0 (Below w.heap.size w w15) := ⟨below_step HB14.out hb⟩
  have BK15 : Aside0 (w15.heap[w.heap.size]? = some (.cells #[.int .i64 a0_0, .slice A0_1 l0_1.length c0_1] 30 (0, 0))) := ⟨blk_below BK14.out hb⟩
  have BW15 : Aside0 (w15.heap[w3.heap.size]? = some (.cells #[.int .i64 r1, .slice A3 G.length c3] 35 (0, 0))) := ⟨blk_below BW14.out hb⟩
  have BG15 : Aside0 (w15.heap[w5.heap.size]? = some (.cells #[.int .i64 r1, .slice A5 G.length c5] 35 (0, 0))) := ⟨blk_below BG14.out hb⟩
  have HW15 : Aside0 (Kd.R k25 25 w15 w.heap.size (fun k_ => k_ < w3.heap.size) (.slice A3 G.length c3) G) := ⟨Kd.R_below HW14.out hb⟩
  have HM15 : Aside0 (Kd.R k25 25 w15 w.heap.size (fun k_ => (w4.heap.size + 1 ≤ k_ ∧ k_ < w5.heap.size) ∨ w10.heap.size ≤ k_) (.slice A5 G.length c5) Gm) := ⟨Kd.R_below HM14.out hb⟩
  clear HB14 BK14 BW14 BG14 HW14 HM14 HH14 BH14 hb cw140 cw141 ch140 ch141
  have cg150 := (blk_cell BG15.out 0).trans rfl
  have cg151 := (blk_cell BG15.out 1).trans rfl
  go_wp2_with fail
  have hcall := laws_heldPuzzle.calls k r1 A5 c5 Gm 101 m w15 (Kd.R_reads' (by have h_ := HM15.out; rw [← HGm.out] at h_; exact h_)).2.2 (Kd.R_reads' (by have h_ := HM15.out; rw [← HGm.out] at h_; exact h_)).2.1 HHG.out
  rw [HGm.out] at hcall
  refine hcall.mono ?_
  clear hcall
  rintro e w16 ⟨rfl, hb⟩
  have HB16 : Aside0 (Below w.heap.size w w16) := ⟨below_step HB15.out hb⟩
  clear hb
  go_wp2
  go_ret
  exact ⟨rfl, HB16.out⟩
set_option maxHeartbeats 8000000 in
set_option maxRecDepth 100000 in
theorem big_FnExactHarderPuzzle (a0_0 : Int) (A0_1 : Option Addr) (c0_1 : Nat) (l0_1 : List S23) (w : World) (hr0_1 : Kd.C k23 w A0_1 l0_1.length l0_1) (hc0_1 : l0_1.length ≤ c0_1)
    (s : Int) (hs : laws_szPuzzle.f a0_0 l0_1 1000000 = some s) (hs0 : s < 0) :
    Calls Try.prog 17 #[.agg #[.int .i64 a0_0, .slice A0_1 l0_1.length c0_1]] w fun e w' => e = .returned (.bool true) ∧ Below w.heap.size w w' := by
  have HR := Aside0.mk hr0_1
  have HC := Aside0.mk hc0_1
  have H0 := Aside0.mk hs
  have hs1 : decide (s < 0) = true := decide_eq_true hs0
  clear hr0_1 hc0_1 hs hs0
  go_enter Try.func17, Try.ntmps17
  go_wp2_with fail
  have HB : Aside0 (Below w.heap.size w (w.alloc (.cells #[.int .i64 a0_0, .slice A0_1 l0_1.length c0_1] 30 (0, 0)))) := ⟨below_alloc (Below.refl _ _) _⟩
  refine (laws_szPuzzle.calls a0_0 _ _ l0_1 _ _ _ (Kd.C_below HR.out HB.out) HC.out H0.out).mono ?_
  rintro e w1 ⟨rfl, hb⟩
  have HB1 : Aside0 (Below w.heap.size w w1) := ⟨below_step HB.out hb⟩
  clear HB hb
  go_wp2
  go_ret
  exact ⟨rfl, HB1.out⟩


end Go.Proofs.Ytbkplokoomodcaa.H
