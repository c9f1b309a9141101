/- Plain Lean functions with the answers of Go functions, and proofs of it: printed by a program of this session (pr.py) over the kit's print, with hand-written parts. -/
import Derived.Test.YtoomacelbhojhaaGx0
import Derived.Test.YtoomacelbhojhaaGx1
import Derived.Test.YtoomacelbhojhaaGx2
import Derived.Test.YtoomacelbhojhaaGx7
namespace Go.Proofs.Ytoomacelbhojhaa.G
open Go.RowKit Go.Proofs.YtoomacelbhojhaaW.PrintWords Go.Proofs.YtoomacelbhojhaaW.PrintLast Go.Proofs.YtoomacelbhojhaaW.PrintMore
attribute [local go_sem] max2_int min2_int max_two min_two max_three min_three max_four min_four   -- for this text's walks alone
set_option linter.unusedVariables false
set_option linter.unusedSimpArgs false

-- FOR laws.FnExactGoodHouseDrops
theorem toTrueI (F F' L : List Int) (W : World) (A : Option Addr) (n c : Nat) (h0 : L.length = 0 → F' = []) (h2 : L.length ≠ 0 → F' = F) (hL : F.take L.length = L) (q1 : F'.length ≤ c) (q2 : Kd.C (Kd.int .i64) W A F'.length F') (hn : n = L.length ∨ F' = [] ∧ n = 0) :
    n = L.length ∧ Kd.C (Kd.int .i64) W A L.length L ∧ L.length ≤ c := by
  have hLF : L.length ≤ F.length := by have h_ := congrArg List.length hL; rw [List.length_take] at h_; omega
  by_cases hz : L.length = 0
  · have h_ := h0 hz
    subst h_
    obtain rfl := List.eq_nil_of_length_eq_zero hz
    refine ⟨?_, q2, Nat.zero_le _⟩
    rcases hn with h_ | ⟨_, h_⟩
    · exact h_
    · exact h_
  · have h_ := h2 hz
    subst h_
    refine ⟨?_, by have h_ := Hw.C_take q2 L.length hLF; rw [hL] at h_; exact h_, Nat.le_trans hLF q1⟩
    rcases hn with h_ | ⟨h_, h3_⟩
    · exact h_
    · rw [h3_, ← hL, h_]; simp
set_option maxHeartbeats 8000000 in
set_option maxRecDepth 100000 in
theorem hand_FnExactGoodHouseDrops (k : Nat) (a0 : Int) (A1 : Option Addr) (c1 : Nat) (l1 : List Int) (w : World) (hr1 : Kd.C (Kd.int .i64) w A1 l1.length l1) (hc1 : l1.length ≤ c1) (F1 F1' Lx1 : List Int) (t1 m1 : Int) (G : List (List Int)) (r2 : Bool) (Gm : List (List Int)) (m : Int) (hF1 : full_toIntS.f k l1 false = some F1) (hFt1 : full_toIntS.f k l1 true = some F1') (hF21 : l1.length ≠ 0 → F1' = F1) (hF01 : l1.length = 0 → F1' = []) (hL1 : F1.take l1.length = l1) (hqt1 : laws_roomBehind.f (l1.length : Int) = some t1) (hn1 : wrap64 ((l1.length : Int) + t1) = (F1.length : Int)) (he1 : laws_eqIntS.f k F1 F1 = some true) (hmx1 : laws_markIntS.f k l1 101 = some (m1, Lx1)) (h1 : spec_GoodHouseDrops.f a0 l1 = some (G, r2)) (h2 : impl_GoodHouseDrops.f a0 l1 = some (G, r2)) (hq : laws_eqIntSS.f k G G = some true) (hmg : laws_markIntSS.f k G 101 = some (m, Gm)) (hhg : laws_heldIntSS.f k Gm 101 = some m) (hGm : Gm.length = G.length) (hm0 : 0 ≤ m) (hkx : 0 ≤ m1) (hbig : (l1.length : Int) ≤ 1000000) :
    Calls Try.prog 9 #[.int .i64 a0, .slice A1 l1.length c1] w fun e w' => e = .returned (.bool true) ∧ Below w.heap.size w w' := by
  have HR1 := Aside0.mk hr1
  have HC1 := Aside0.mk hc1
  have HF1 := Aside0.mk hF1
  have HF1t := Aside0.mk hFt1
  have HF21 := Aside0.mk hF21
  have HF01 := Aside0.mk hF01
  have HL1 := Aside0.mk hL1
  have HQT1 := Aside0.mk hqt1
  have HN1 := Aside0.mk hn1
  have HE1 := Aside0.mk he1
  have HMX1 := Aside0.mk hmx1
  have H1 := Aside0.mk h1
  have H2 := Aside0.mk h2
  have HQ := Aside0.mk hq
  have HMG := Aside0.mk hmg
  have HHG := Aside0.mk hhg
  have HGm := Aside0.mk hGm
  have HB := Aside0.mk (Below.refl w.heap.size w)
  have dm : decide (m < 0) = false := decide_eq_false (by omega)
  have dk : decide (m1 < 0) = false := decide_eq_false (by omega)
  have hr2_ : (r2 != r2) = false := by simp
  have hz1_ : (0 : Int) ≤ (l1.length : Int) := Int.natCast_nonneg _
  have dbig : decide ((l1.length : Int) > 1000000) = false := decide_eq_false (by omega)
  have dbig2 : decide (1000000 < (l1.length : Int)) = false := decide_eq_false (by omega)
  have dbig3 : decide (l1.length > 1000000) = false := decide_eq_false (by omega)
  clear hz1_ hbig
  clear hm0 hkx hr1 hc1 hF1 hFt1 hF21 hF01 hL1 hqt1 hn1 he1 hmx1 h1 h2 hq hmg hhg hGm
  go_enter Try.func9, Try.ntmps9
  go_wp2_with fail
  refine (full_toIntS.calls k _ _ l1 false F1 w (Kd.C_below HR1.out HB.out) HC1.out HF1.out).mono ?_
  rintro e w1 hp_
  obtain ⟨A1_, n1_, c1_, rfl, hR_, hn_, hb_⟩ := hp_
  have hq_ := Kd.R_reads' hR_
  obtain rfl : n1_ = l1.length := (by rcases hn_ with h_ | ⟨h_, h2_⟩; exact h_; exact h2_.trans (by have h3_ := congrArg List.length HL1.out; rw [h_, List.length_take, List.length_nil, Nat.min_zero] at h3_; exact h3_))
  have hl_ : l1.length ≤ F1.length := by have h_ := congrArg List.length HL1.out; rw [List.length_take] at h_; omega
  have HU1 : Aside0 (l1.length ≤ c1_) := ⟨Nat.le_trans hl_ hq_.2.1⟩
  have n0_ : Aside0 (Below w.heap.size w w1) := ⟨below_step HB.out hb_⟩
  have m0_ : Aside0 (Kd.C (Kd.int .i64) w1 A1_ l1.length l1) := ⟨by have h_ := Hw.C_take hq_.2.2 l1.length hl_; rw [HL1.out] at h_; exact h_⟩
  (try clear HB)
  have HB := n0_
  have HV1 := m0_
  clear n0_ m0_
  clear hb_ hR_ hn_ hq_ hl_
  go_wp2_with fail
  refine (spec_GoodHouseDrops.calls a0 _ _ l1 G r2 w1 HV1.out HU1.out H1.out).mono ?_
  rintro e w2 ⟨v_, rfl, ho_, hb_⟩
  obtain ⟨A2_, c2_, rfl⟩ := Kd.S_slice ho_
  have LE0 : Aside0 (w1.heap.size ≤ w2.heap.size) := ⟨hb_.size⟩
  have n0_ : Aside0 (Below w.heap.size w w2) := ⟨below_step HB.out hb_⟩
  have n1_ : Aside0 (Kd.C (Kd.int .i64) w2 A1_ l1.length l1) := ⟨Kd.C_below HV1.out hb_⟩
  have m0_ : Aside0 (Kd.S (Kd.slice 3 (Kd.int .i64)) 46 w2 w.heap.size (fun k_ => w1.heap.size ≤ k_ ∧ k_ < w2.heap.size) (.slice A2_ G.length c2_) G) := ⟨Kd.S_mono (Kd.S_lower (Kd.S_bound ho_) (below_size HB.out)) (fun k_ hk => ⟨hk.2.1, hk.2.2.1⟩)⟩
  (try clear HB)
  (try clear HV1)
  have HB := n0_
  have HV1 := n1_
  have HW := m0_
  clear n0_ n1_ m0_
  clear hb_ ho_
  go_wp2_with fail
  refine (full_toIntS.calls k _ _ l1 false F1 w2 (Kd.C_below HR1.out HB.out) HC1.out HF1.out).mono ?_
  rintro e w3 hp_
  obtain ⟨A3_, n3_, c3_, rfl, hR_, hn_, hb_⟩ := hp_
  have hq_ := Kd.R_reads' hR_
  obtain rfl : n3_ = l1.length := (by rcases hn_ with h_ | ⟨h_, h2_⟩; exact h_; exact h2_.trans (by have h3_ := congrArg List.length HL1.out; rw [h_, List.length_take, List.length_nil, Nat.min_zero] at h3_; exact h3_))
  have hl_ : l1.length ≤ F1.length := by have h_ := congrArg List.length HL1.out; rw [List.length_take] at h_; omega
  have hx_ := Hw.R_take hR_ l1.length hl_
  rw [HL1.out] at hx_
  have HZ1 : Aside0 (F1.length ≤ c3_) := ⟨hq_.2.1⟩
  have LE1 : Aside0 (w2.heap.size ≤ w3.heap.size) := ⟨hb_.size⟩
  have n0_ : Aside0 (Below w.heap.size w w3) := ⟨below_step HB.out hb_⟩
  have n1_ : Aside0 (Kd.S (Kd.slice 3 (Kd.int .i64)) 46 w3 w.heap.size (fun k_ => w1.heap.size ≤ k_ ∧ k_ < w2.heap.size) (.slice A2_ G.length c2_) G) := ⟨Kd.S_below HW.out hb_⟩
  have m0_ : Aside0 (Kd.R (Kd.int .i64) 3 w3 w.heap.size (fun k_ => w2.heap.size ≤ k_ ∧ k_ < w3.heap.size) (.slice A3_ F1.length c3_) F1) := ⟨Kd.R_mono (Kd.R_lower (Kd.R_bound hR_) (below_size HB.out)) (fun k_ hk => ⟨hk.2.1, hk.2.2.1⟩)⟩
  have m1_ : Aside0 (Kd.R (Kd.int .i64) 3 w3 w.heap.size (fun k_ => w2.heap.size ≤ k_ ∧ k_ < w3.heap.size) (.slice A3_ l1.length c3_) l1) := ⟨Kd.R_mono (Kd.R_lower (Kd.R_bound hx_) (below_size HB.out)) (fun k_ hk => ⟨hk.2.1, hk.2.2.1⟩)⟩
  (try clear HB)
  (try clear HW)
  have HB := n0_
  have HW := n1_
  have HY1 := m0_
  have HX1 := m1_
  clear n0_ n1_ m0_ m1_
  clear hb_ hR_ hn_ hq_ hl_ hx_
  go_wp2_with fail
  refine (impl_GoodHouseDrops.calls a0 _ _ l1 G r2 w3 (Kd.R_reads' HX1.out).2.2 (Kd.R_reads' HX1.out).2.1 H2.out).mono ?_
  rintro e w4 ⟨v_, rfl, ho_, hb_⟩
  obtain ⟨A4_, c4_, rfl⟩ := Kd.S_slice ho_
  have LE2 : Aside0 (w3.heap.size ≤ w4.heap.size) := ⟨hb_.size⟩
  have n0_ : Aside0 (Below w.heap.size w w4) := ⟨below_step HB.out hb_⟩
  have n1_ : Aside0 (Kd.S (Kd.slice 3 (Kd.int .i64)) 46 w4 w.heap.size (fun k_ => w1.heap.size ≤ k_ ∧ k_ < w2.heap.size) (.slice A2_ G.length c2_) G) := ⟨Kd.S_below HW.out hb_⟩
  have n2_ : Aside0 (Kd.R (Kd.int .i64) 3 w4 w.heap.size (fun k_ => w2.heap.size ≤ k_ ∧ k_ < w3.heap.size) (.slice A3_ F1.length c3_) F1) := ⟨Kd.R_below HY1.out hb_⟩
  have n3_ : Aside0 (Kd.R (Kd.int .i64) 3 w4 w.heap.size (fun k_ => w2.heap.size ≤ k_ ∧ k_ < w3.heap.size) (.slice A3_ l1.length c3_) l1) := ⟨Kd.R_below HX1.out hb_⟩
  have m0_ : Aside0 (Kd.S (Kd.slice 3 (Kd.int .i64)) 46 w4 w.heap.size (fun k_ => w3.heap.size ≤ k_ ∧ k_ < w4.heap.size) (.slice A4_ G.length c4_) G) := ⟨Kd.S_mono (Kd.S_lower (Kd.S_bound ho_) (below_size HB.out)) (fun k_ hk => ⟨hk.2.1, hk.2.2.1⟩)⟩
  (try clear HB)
  (try clear HW)
  (try clear HY1)
  (try clear HX1)
  have HB := n0_
  have HW := n1_
  have HY1 := n2_
  have HX1 := n3_
  have HG := m0_
  clear n0_ n1_ n2_ n3_ m0_
  clear hb_ ho_
  go_wp2_with fail
  refine (laws_eqIntSS.calls k _ _ G _ _ G true w4 (Kd.S_reads' HG.out).2.2 (Kd.S_reads' HG.out).2.1 (Kd.S_reads' HW.out).2.2 (Kd.S_reads' HW.out).2.1 HQ.out).mono ?_
  rintro e w5 ⟨rfl, hd_⟩
  have hb_ : Below w4.heap.size w4 w5 := (by first | exact hd_ | exact hd_.below)
  have n0_ : Aside0 (Below w.heap.size w w5) := ⟨below_step HB.out hb_⟩
  have n1_ : Aside0 (Kd.S (Kd.slice 3 (Kd.int .i64)) 46 w5 w.heap.size (fun k_ => w1.heap.size ≤ k_ ∧ k_ < w2.heap.size) (.slice A2_ G.length c2_) G) := ⟨Kd.S_below HW.out hb_⟩
  have n2_ : Aside0 (Kd.R (Kd.int .i64) 3 w5 w.heap.size (fun k_ => w2.heap.size ≤ k_ ∧ k_ < w3.heap.size) (.slice A3_ F1.length c3_) F1) := ⟨Kd.R_below HY1.out hb_⟩
  have n3_ : Aside0 (Kd.R (Kd.int .i64) 3 w5 w.heap.size (fun k_ => w2.heap.size ≤ k_ ∧ k_ < w3.heap.size) (.slice A3_ l1.length c3_) l1) := ⟨Kd.R_below HX1.out hb_⟩
  have n4_ : Aside0 (Kd.S (Kd.slice 3 (Kd.int .i64)) 46 w5 w.heap.size (fun k_ => w3.heap.size ≤ k_ ∧ k_ < w4.heap.size) (.slice A4_ G.length c4_) G) := ⟨Kd.S_below HG.out hb_⟩
  (try clear HB)
  (try clear HW)
  (try clear HY1)
  (try clear HX1)
  (try clear HG)
  have HB := n0_
  have HW := n1_
  have HY1 := n2_
  have HX1 := n3_
  have HG := n4_
  clear n0_ n1_ n2_ n3_ n4_
  clear hb_ hd_
  go_wp2_with fail
  refine (full_toIntS.calls k _ _ l1 false F1 w5 (Kd.C_below HR1.out HB.out) HC1.out HF1.out).mono ?_
  rintro e w6 hp_
  obtain ⟨A6_, n6_, c6_, rfl, hR_, hn_, hb_⟩ := hp_
  have hq_ := Kd.R_reads' hR_
  obtain rfl : n6_ = l1.length := (by rcases hn_ with h_ | ⟨h_, h2_⟩; exact h_; exact h2_.trans (by have h3_ := congrArg List.length HL1.out; rw [h_, List.length_take, List.length_nil, Nat.min_zero] at h3_; exact h3_))
  have hl_ : l1.length ≤ F1.length := by have h_ := congrArg List.length HL1.out; rw [List.length_take] at h_; omega
  have HE1_ : Aside0 (F1.length ≤ c6_) := ⟨hq_.2.1⟩
  have n0_ : Aside0 (Below w.heap.size w w6) := ⟨below_step HB.out hb_⟩
  have n1_ : Aside0 (Kd.S (Kd.slice 3 (Kd.int .i64)) 46 w6 w.heap.size (fun k_ => w1.heap.size ≤ k_ ∧ k_ < w2.heap.size) (.slice A2_ G.length c2_) G) := ⟨Kd.S_below HW.out hb_⟩
  have n2_ : Aside0 (Kd.R (Kd.int .i64) 3 w6 w.heap.size (fun k_ => w2.heap.size ≤ k_ ∧ k_ < w3.heap.size) (.slice A3_ F1.length c3_) F1) := ⟨Kd.R_below HY1.out hb_⟩
  have n3_ : Aside0 (Kd.R (Kd.int .i64) 3 w6 w.heap.size (fun k_ => w2.heap.size ≤ k_ ∧ k_ < w3.heap.size) (.slice A3_ l1.length c3_) l1) := ⟨Kd.R_below HX1.out hb_⟩
  have n4_ : Aside0 (Kd.S (Kd.slice 3 (Kd.int .i64)) 46 w6 w.heap.size (fun k_ => w3.heap.size ≤ k_ ∧ k_ < w4.heap.size) (.slice A4_ G.length c4_) G) := ⟨Kd.S_below HG.out hb_⟩
  have m0_ : Aside0 (Kd.C (Kd.int .i64) w6 A6_ F1.length F1) := ⟨hq_.2.2⟩
  (try clear HB)
  (try clear HW)
  (try clear HY1)
  (try clear HX1)
  (try clear HG)
  have HB := n0_
  have HW := n1_
  have HY1 := n2_
  have HX1 := n3_
  have HG := n4_
  have HD1 := m0_
  clear n0_ n1_ n2_ n3_ n4_ m0_
  clear hb_ hR_ hn_ hq_ hl_
  go_wp2_with fail
  refine (intact_IntS k F1 A3_ A6_ l1.length c3_ c6_ t1 w6 HQT1.out HN1.out HZ1.out HE1_.out (Kd.R_reads' HY1.out).2.2 HD1.out HE1.out).mono ?_
  rintro e w7 ⟨rfl, hd_⟩
  have hb_ : Below w6.heap.size w6 w7 := (by first | exact hd_ | exact hd_.below)
  have n0_ : Aside0 (Below w.heap.size w w7) := ⟨below_step HB.out hb_⟩
  have n1_ : Aside0 (Kd.S (Kd.slice 3 (Kd.int .i64)) 46 w7 w.heap.size (fun k_ => w1.heap.size ≤ k_ ∧ k_ < w2.heap.size) (.slice A2_ G.length c2_) G) := ⟨Kd.S_below HW.out hb_⟩
  have n2_ : Aside0 (Kd.R (Kd.int .i64) 3 w7 w.heap.size (fun k_ => w2.heap.size ≤ k_ ∧ k_ < w3.heap.size) (.slice A3_ F1.length c3_) F1) := ⟨Kd.R_below HY1.out hb_⟩
  have n3_ : Aside0 (Kd.R (Kd.int .i64) 3 w7 w.heap.size (fun k_ => w2.heap.size ≤ k_ ∧ k_ < w3.heap.size) (.slice A3_ l1.length c3_) l1) := ⟨Kd.R_below HX1.out hb_⟩
  have n4_ : Aside0 (Kd.S (Kd.slice 3 (Kd.int .i64)) 46 w7 w.heap.size (fun k_ => w3.heap.size ≤ k_ ∧ k_ < w4.heap.size) (.slice A4_ G.length c4_) G) := ⟨Kd.S_below HG.out hb_⟩
  (try clear HB)
  (try clear HW)
  (try clear HY1)
  (try clear HX1)
  (try clear HG)
  (try clear HD1)
  have HB := n0_
  have HW := n1_
  have HY1 := n2_
  have HX1 := n3_
  have HG := n4_
  clear n0_ n1_ n2_ n3_ n4_
  clear hb_ hd_
  go_wp2_with fail
  refine (laws_markIntS.calls k _ _ l1 101 m1 Lx1 w w7 HB.out HX1.out HMX1.out).mono ?_
  rintro e w8 ⟨rfl, hx_, hb_, hk_⟩
  clear hx_
  have n0_ : Aside0 (Below w.heap.size w w8) := ⟨hb_⟩
  have n1_ : Aside0 (Kd.S (Kd.slice 3 (Kd.int .i64)) 46 w8 w.heap.size (fun k_ => w1.heap.size ≤ k_ ∧ k_ < w2.heap.size) (.slice A2_ G.length c2_) G) := ⟨Kd.S_step HW.out (fun k_ h1_ hlt_ => hk_.2 k_ hlt_ (fun h2_ => by have := LE0.out; have := LE1.out; have := LE2.out; omega))⟩
  have n2_ : Aside0 (Kd.S (Kd.slice 3 (Kd.int .i64)) 46 w8 w.heap.size (fun k_ => w3.heap.size ≤ k_ ∧ k_ < w4.heap.size) (.slice A4_ G.length c4_) G) := ⟨Kd.S_step HG.out (fun k_ h1_ hlt_ => hk_.2 k_ hlt_ (fun h2_ => by have := LE0.out; have := LE1.out; have := LE2.out; omega))⟩
  (try clear HB)
  (try clear HW)
  (try clear HY1)
  (try clear HX1)
  (try clear HG)
  have HB := n0_
  have HW := n1_
  have HG := n2_
  clear n0_ n1_ n2_
  clear hb_ hk_
  go_wp2_with fail
  refine (laws_eqIntSS.calls k _ _ G _ _ G true w8 (Kd.S_reads' HG.out).2.2 (Kd.S_reads' HG.out).2.1 (Kd.S_reads' HW.out).2.2 (Kd.S_reads' HW.out).2.1 HQ.out).mono ?_
  rintro e w9 ⟨rfl, hd_⟩
  have hb_ : Below w8.heap.size w8 w9 := (by first | exact hd_ | exact hd_.below)
  have n0_ : Aside0 (Below w.heap.size w w9) := ⟨below_step HB.out hb_⟩
  have n1_ : Aside0 (Kd.S (Kd.slice 3 (Kd.int .i64)) 46 w9 w.heap.size (fun k_ => w1.heap.size ≤ k_ ∧ k_ < w2.heap.size) (.slice A2_ G.length c2_) G) := ⟨Kd.S_below HW.out hb_⟩
  have n2_ : Aside0 (Kd.S (Kd.slice 3 (Kd.int .i64)) 46 w9 w.heap.size (fun k_ => w3.heap.size ≤ k_ ∧ k_ < w4.heap.size) (.slice A4_ G.length c4_) G) := ⟨Kd.S_below HG.out hb_⟩
  (try clear HB)
  (try clear HW)
  (try clear HG)
  have HB := n0_
  have HW := n1_
  have HG := n2_
  clear n0_ n1_ n2_
  clear hb_ hd_
  go_wp2_with fail
  refine (laws_markIntSS.calls k _ _ G 101 m Gm w w9 HB.out HG.out HMG.out).mono ?_
  rintro e w10 ⟨rfl, hx_, hb_, hk_⟩
  have n0_ : Aside0 (Below w.heap.size w w10) := ⟨hb_⟩
  have n1_ : Aside0 (Kd.S (Kd.slice 3 (Kd.int .i64)) 46 w10 w.heap.size (fun k_ => w1.heap.size ≤ k_ ∧ k_ < w2.heap.size) (.slice A2_ G.length c2_) G) := ⟨Kd.S_step HW.out (fun k_ h1_ hlt_ => hk_.2 k_ hlt_ (fun h2_ => by have := LE0.out; have := LE1.out; have := LE2.out; omega))⟩
  have m0_ : Aside0 (Kd.S (Kd.slice 3 (Kd.int .i64)) 46 w10 w.heap.size (fun k_ => True) (.slice A4_ G.length c4_) Gm) := ⟨by have h_ := Kd.S_mono hx_ (fun _ _ => trivial); rw [← HGm.out] at h_ ⊢; exact h_⟩
  (try clear HB)
  (try clear HW)
  (try clear HG)
  have HB := n0_
  have HW := n1_
  have HM := m0_
  clear n0_ n1_ m0_
  clear hx_ hb_ hk_
  go_wp2_with fail
  have hcall := laws_heldIntSS.calls k A4_ c4_ Gm 101 m w10 (Kd.S_reads' (by have h_ := HM.out; rw [← HGm.out] at h_; exact h_)).2.2 (Kd.S_reads' (by have h_ := HM.out; rw [← HGm.out] at h_; exact h_)).2.1 HHG.out
  rw [HGm.out] at hcall
  refine hcall.mono ?_
  clear hcall
  rintro e w11 ⟨rfl, hd_⟩
  have hb_ : Below w10.heap.size w10 w11 := (by first | exact hd_ | exact hd_.below)
  have n0_ : Aside0 (Below w.heap.size w w11) := ⟨below_step HB.out hb_⟩
  have n1_ : Aside0 (Kd.S (Kd.slice 3 (Kd.int .i64)) 46 w11 w.heap.size (fun k_ => w1.heap.size ≤ k_ ∧ k_ < w2.heap.size) (.slice A2_ G.length c2_) G) := ⟨Kd.S_below HW.out hb_⟩
  have n2_ : Aside0 (Kd.S (Kd.slice 3 (Kd.int .i64)) 46 w11 w.heap.size (fun k_ => True) (.slice A4_ G.length c4_) Gm) := ⟨Kd.S_below HM.out hb_⟩
  (try clear HB)
  (try clear HW)
  (try clear HM)
  have HB := n0_
  have HW := n1_
  have HM := n2_
  clear n0_ n1_ n2_
  clear hb_ hd_
  go_wp2_with fail
  refine (full_toIntS.calls k _ _ l1 true F1' w11 (Kd.C_below HR1.out HB.out) HC1.out HF1t.out).mono ?_
  rintro e w12 hp_
  obtain ⟨A12_, n12_, c12_, rfl, hR_, hn_, hb_⟩ := hp_
  have hq_ := Kd.R_reads' hR_
  obtain ⟨rfl, h131_, h132_⟩ := toTrueI F1 F1' l1 w12 A12_ n12_ c12_ HF01.out HF21.out HL1.out hq_.2.1 hq_.2.2 hn_
  have HU1 : Aside0 (l1.length ≤ c12_) := ⟨h132_⟩
  clear h132_
  have n0_ : Aside0 (Below w.heap.size w w12) := ⟨below_step HB.out hb_⟩
  have n1_ : Aside0 (Kd.S (Kd.slice 3 (Kd.int .i64)) 46 w12 w.heap.size (fun k_ => w1.heap.size ≤ k_ ∧ k_ < w2.heap.size) (.slice A2_ G.length c2_) G) := ⟨Kd.S_below HW.out hb_⟩
  have n2_ : Aside0 (Kd.S (Kd.slice 3 (Kd.int .i64)) 46 w12 w.heap.size (fun k_ => True) (.slice A4_ G.length c4_) Gm) := ⟨Kd.S_below HM.out hb_⟩
  have m0_ : Aside0 (Kd.C (Kd.int .i64) w12 A12_ l1.length l1) := ⟨h131_⟩
  (try clear HB)
  (try clear HW)
  (try clear HM)
  have HB := n0_
  have HW := n1_
  have HM := n2_
  have HT1 := m0_
  clear n0_ n1_ n2_ m0_
  clear hb_ hR_ hn_ hq_
  go_wp2_with fail
  refine (impl_GoodHouseDrops.calls a0 _ _ l1 G r2 w12 HT1.out HU1.out H2.out).mono ?_
  rintro e w13 ⟨v_, rfl, ho_, hb_⟩
  obtain ⟨A13_, c13_, rfl⟩ := Kd.S_slice ho_
  have LE3 : Aside0 (w12.heap.size ≤ w13.heap.size) := ⟨hb_.size⟩
  have n0_ : Aside0 (Below w.heap.size w w13) := ⟨below_step HB.out hb_⟩
  have n1_ : Aside0 (Kd.S (Kd.slice 3 (Kd.int .i64)) 46 w13 w.heap.size (fun k_ => w1.heap.size ≤ k_ ∧ k_ < w2.heap.size) (.slice A2_ G.length c2_) G) := ⟨Kd.S_below HW.out hb_⟩
  have n2_ : Aside0 (Kd.S (Kd.slice 3 (Kd.int .i64)) 46 w13 w.heap.size (fun k_ => True) (.slice A4_ G.length c4_) Gm) := ⟨Kd.S_below HM.out hb_⟩
  have n3_ : Aside0 (Kd.C (Kd.int .i64) w13 A12_ l1.length l1) := ⟨Kd.C_below HT1.out hb_⟩
  have m0_ : Aside0 (Kd.S (Kd.slice 3 (Kd.int .i64)) 46 w13 w.heap.size (fun k_ => w12.heap.size ≤ k_ ∧ k_ < w13.heap.size) (.slice A13_ G.length c13_) G) := ⟨Kd.S_mono (Kd.S_lower (Kd.S_bound ho_) (below_size HB.out)) (fun k_ hk => ⟨hk.2.1, hk.2.2.1⟩)⟩
  (try clear HB)
  (try clear HW)
  (try clear HM)
  (try clear HT1)
  have HB := n0_
  have HW := n1_
  have HM := n2_
  have HT1 := n3_
  have HH := m0_
  clear n0_ n1_ n2_ n3_ m0_
  clear hb_ ho_
  go_wp2_with fail
  refine (laws_eqIntSS.calls k _ _ G _ _ G true w13 (Kd.S_reads' HH.out).2.2 (Kd.S_reads' HH.out).2.1 (Kd.S_reads' HW.out).2.2 (Kd.S_reads' HW.out).2.1 HQ.out).mono ?_
  rintro e w14 ⟨rfl, hd_⟩
  have hb_ : Below w13.heap.size w13 w14 := (by first | exact hd_ | exact hd_.below)
  have n0_ : Aside0 (Below w.heap.size w w14) := ⟨below_step HB.out hb_⟩
  have n1_ : Aside0 (Kd.S (Kd.slice 3 (Kd.int .i64)) 46 w14 w.heap.size (fun k_ => w1.heap.size ≤ k_ ∧ k_ < w2.heap.size) (.slice A2_ G.length c2_) G) := ⟨Kd.S_below HW.out hb_⟩
  have n2_ : Aside0 (Kd.S (Kd.slice 3 (Kd.int .i64)) 46 w14 w.heap.size (fun k_ => True) (.slice A4_ G.length c4_) Gm) := ⟨Kd.S_below HM.out hb_⟩
  have n3_ : Aside0 (Kd.C (Kd.int .i64) w14 A12_ l1.length l1) := ⟨Kd.C_below HT1.out hb_⟩
  have n4_ : Aside0 (Kd.S (Kd.slice 3 (Kd.int .i64)) 46 w14 w.heap.size (fun k_ => w12.heap.size ≤ k_ ∧ k_ < w13.heap.size) (.slice A13_ G.length c13_) G) := ⟨Kd.S_below HH.out hb_⟩
  (try clear HB)
  (try clear HW)
  (try clear HM)
  (try clear HT1)
  (try clear HH)
  have HB := n0_
  have HW := n1_
  have HM := n2_
  have HT1 := n3_
  have HH := n4_
  clear n0_ n1_ n2_ n3_ n4_
  clear hb_ hd_
  go_wp2_with fail
  have hcall := laws_heldIntSS.calls k A4_ c4_ Gm 101 m w14 (Kd.S_reads' (by have h_ := HM.out; rw [← HGm.out] at h_; exact h_)).2.2 (Kd.S_reads' (by have h_ := HM.out; rw [← HGm.out] at h_; exact h_)).2.1 HHG.out
  rw [HGm.out] at hcall
  refine hcall.mono ?_
  clear hcall
  rintro e w15 ⟨rfl, hd_⟩
  have hb_ : Below w14.heap.size w14 w15 := (by first | exact hd_ | exact hd_.below)
  have n0_ : Aside0 (Below w.heap.size w w15) := ⟨below_step HB.out hb_⟩
  have n1_ : Aside0 (Kd.S (Kd.slice 3 (Kd.int .i64)) 46 w15 w.heap.size (fun k_ => w1.heap.size ≤ k_ ∧ k_ < w2.heap.size) (.slice A2_ G.length c2_) G) := ⟨Kd.S_below HW.out hb_⟩
  have n2_ : Aside0 (Kd.S (Kd.slice 3 (Kd.int .i64)) 46 w15 w.heap.size (fun k_ => True) (.slice A4_ G.length c4_) Gm) := ⟨Kd.S_below HM.out hb_⟩
  have n3_ : Aside0 (Kd.C (Kd.int .i64) w15 A12_ l1.length l1) := ⟨Kd.C_below HT1.out hb_⟩
  have n4_ : Aside0 (Kd.S (Kd.slice 3 (Kd.int .i64)) 46 w15 w.heap.size (fun k_ => w12.heap.size ≤ k_ ∧ k_ < w13.heap.size) (.slice A13_ G.length c13_) G) := ⟨Kd.S_below HH.out hb_⟩
  (try clear HB)
  (try clear HW)
  (try clear HM)
  (try clear HT1)
  (try clear HH)
  have HB := n0_
  have HW := n1_
  have HM := n2_
  have HT1 := n3_
  have HH := n4_
  clear n0_ n1_ n2_ n3_ n4_
  clear hb_ hd_
  go_wp2
  go_ret
  exact ⟨rfl, HB.out⟩

set_option maxHeartbeats 8000000 in
set_option maxRecDepth 100000 in
theorem big_FnExactGoodHouseDrops (a0 : Int) (A1 : Option Addr) (c1 : Nat) (l1 : List Int) (w : World) (hb : (l1.length : Int) > 1000000) (hm : (l1.length : Int) ≤ 9223372036854775807) :
    Calls Try.prog 9 #[.int .i64 a0, .slice A1 l1.length c1] w fun e w' => e = .returned (.bool true) ∧ Below w.heap.size w w' := by
  have dbig : decide ((l1.length : Int) > 1000000) = true := decide_eq_true hb
  have dbig2 : decide (1000000 < (l1.length : Int)) = true := decide_eq_true hb
  have dbig3 : decide (l1.length > 1000000) = true := decide_eq_true (by omega)
  clear hb hm
  go_enter Try.func9, Try.ntmps9
  go_wp2
  go_ret
  exact ⟨rfl, by repeat (first | exact Below.refl _ _ | apply below_drew1 | apply pw_below_drewN)⟩


end Go.Proofs.Ytoomacelbhojhaa.G
