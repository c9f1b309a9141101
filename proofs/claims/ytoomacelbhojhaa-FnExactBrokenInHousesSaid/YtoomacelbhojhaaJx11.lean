/- Plain Lean functions with the answers of Go functions, and proofs of it: printed by a program of this session (pr.py) over the kit's print, with hand-written parts. -/
import Derived.Test.YtoomacelbhojhaaJx0
import Derived.Test.YtoomacelbhojhaaJx1
import Derived.Test.YtoomacelbhojhaaJx2
import Derived.Test.YtoomacelbhojhaaJx10
namespace Go.Proofs.Ytoomacelbhojhaa.J
open Go.RowKit Go.Proofs.YtoomacelbhojhaaW.PrintWords Go.Proofs.YtoomacelbhojhaaW.PrintLast Go.Proofs.YtoomacelbhojhaaW.PrintMore
attribute [local go_sem] max2_int min2_int max_two min_two max_three min_three max_four min_four   -- for this text's walks alone
set_option linter.unusedVariables false
set_option linter.unusedSimpArgs false

-- FOR laws.FnExactBrokenInHouses
theorem toTrueI (F F' L : List Int) (W : World) (A : Option Addr) (n c : Nat) (h0 : L.length = 0 → F' = []) (h2 : L.length ≠ 0 → F' = F) (hL : F.take L.length = L) (q1 : F'.length ≤ c) (q2 : Kd.C (Kd.int .i64) W A F'.length F') (hn : n = L.length ∨ F' = [] ∧ n = 0) :
    n = L.length ∧ Kd.C (Kd.int .i64) W A L.length L ∧ L.length ≤ c := by
  have hLF : L.length ≤ F.length := by have h_ := congrArg List.length hL; rw [List.length_take] at h_; omega
  by_cases hz : L.length = 0
  · have h_ := h0 hz
    subst h_
    obtain rfl := List.eq_nil_of_length_eq_zero hz
    refine ⟨?_, q2, Nat.zero_le _⟩
    rcases hn with h_ | ⟨_, h_⟩
    · exact h_
    · exact h_
  · have h_ := h2 hz
    subst h_
    refine ⟨?_, by have h_ := Hw.C_take q2 L.length hLF; rw [hL] at h_; exact h_, Nat.le_trans hLF q1⟩
    rcases hn with h_ | ⟨h_, h3_⟩
    · exact h_
    · rw [h3_, ← hL, h_]; simp
set_option maxHeartbeats 8000000 in
set_option maxRecDepth 100000 in
theorem hand_FnExactBrokenInHouses (k : Nat) (a0 : Int) (A1 : Option Addr) (c1 : Nat) (l1 : List Int) (A2 : Option Addr) (c2 : Nat) (l2 : List Int) (w : World) (hr1 : Kd.C (Kd.int .i64) w A1 l1.length l1) (hc1 : l1.length ≤ c1) (hr2 : Kd.C (Kd.int .i64) w A2 l2.length l2) (hc2 : l2.length ≤ c2) (F1 F1' Lx1 : List Int) (t1 m1 : Int) (F2 F2' Lx2 : List Int) (t2 m2 : Int) (r1 : Int) (r2 : Bool) (hF1 : full_toIntS.f k l1 false = some F1) (hFt1 : full_toIntS.f k l1 true = some F1') (hF21 : l1.length ≠ 0 → F1' = F1) (hF01 : l1.length = 0 → F1' = []) (hL1 : F1.take l1.length = l1) (hqt1 : laws_roomBehind.f (l1.length : Int) = some t1) (hn1 : wrap64 ((l1.length : Int) + t1) = (F1.length : Int)) (he1 : laws_eqIntS.f k F1 F1 = some true) (hF2 : full_toIntS.f k l2 false = some F2) (hFt2 : full_toIntS.f k l2 true = some F2') (hF22 : l2.length ≠ 0 → F2' = F2) (hF02 : l2.length = 0 → F2' = []) (hL2 : F2.take l2.length = l2) (hqt2 : laws_roomBehind.f (l2.length : Int) = some t2) (hn2 : wrap64 ((l2.length : Int) + t2) = (F2.length : Int)) (he2 : laws_eqIntS.f k F2 F2 = some true) (h1 : spec_BrokenInHouses.f k a0 l1 l2 = some (r1, r2)) (h2 : impl_BrokenInHouses.f k a0 l1 l2 = some (r1, r2)) (hbig : (l1.length : Int) + (l2.length : Int) ≤ 1000000) :
    Calls Try.prog 11 #[.int .i64 a0, .slice A1 l1.length c1, .slice A2 l2.length c2] w fun e w' => e = .returned (.bool true) ∧ Below w.heap.size w w' := by
  have HR1 := Aside0.mk hr1
  have HC1 := Aside0.mk hc1
  have HR2 := Aside0.mk hr2
  have HC2 := Aside0.mk hc2
  have HF1 := Aside0.mk hF1
  have HF1t := Aside0.mk hFt1
  have HF21 := Aside0.mk hF21
  have HF01 := Aside0.mk hF01
  have HL1 := Aside0.mk hL1
  have HQT1 := Aside0.mk hqt1
  have HN1 := Aside0.mk hn1
  have HE1 := Aside0.mk he1
  have HF2 := Aside0.mk hF2
  have HF2t := Aside0.mk hFt2
  have HF22 := Aside0.mk hF22
  have HF02 := Aside0.mk hF02
  have HL2 := Aside0.mk hL2
  have HQT2 := Aside0.mk hqt2
  have HN2 := Aside0.mk hn2
  have HE2 := Aside0.mk he2
  have H1 := Aside0.mk h1
  have H2 := Aside0.mk h2
  have HB := Aside0.mk (Below.refl w.heap.size w)
  have hr1_ : (r1 != r1) = false := by simp
  have hr2_ : (r2 != r2) = false := by simp
  have hz1_ : (0 : Int) ≤ (l1.length : Int) := Int.natCast_nonneg _
  have hz2_ : (0 : Int) ≤ (l2.length : Int) := Int.natCast_nonneg _
  have wsum_ : IntKind.i64.wrap ((l1.length : Int) + (l2.length : Int)) = (l1.length : Int) + (l2.length : Int) := Hw.wrap_w (by omega) (by omega)
  have dbig : decide ((l1.length : Int) + (l2.length : Int) > 1000000) = false := decide_eq_false (by omega)
  have dbig2 : decide (1000000 < (l1.length : Int) + (l2.length : Int)) = false := decide_eq_false (by omega)
  have dbig3 : decide (l1.length + l2.length > 1000000) = false := decide_eq_false (by omega)
  clear hz1_ hz2_ hbig
  clear hr1 hc1 hr2 hc2 hF1 hFt1 hF21 hF01 hL1 hqt1 hn1 he1 hF2 hFt2 hF22 hF02 hL2 hqt2 hn2 he2 h1 h2
  go_enter Try.func11, Try.ntmps11
  go_wp2_with fail
  refine (full_toIntS.calls k _ _ l1 false F1 w (Kd.C_below HR1.out HB.out) HC1.out HF1.out).mono ?_
  rintro e w1 hp_
  obtain ⟨A1_, n1_, c1_, rfl, hR_, hn_, hb_⟩ := hp_
  have hq_ := Kd.R_reads' hR_
  obtain rfl : n1_ = l1.length := (by rcases hn_ with h_ | ⟨h_, h2_⟩; exact h_; exact h2_.trans (by have h3_ := congrArg List.length HL1.out; rw [h_, List.length_take, List.length_nil, Nat.min_zero] at h3_; exact h3_))
  have hl_ : l1.length ≤ F1.length := by have h_ := congrArg List.length HL1.out; rw [List.length_take] at h_; omega
  have HU1 : Aside0 (l1.length ≤ c1_) := ⟨Nat.le_trans hl_ hq_.2.1⟩
  have n0_ : Aside0 (Below w.heap.size w w1) := ⟨below_step HB.out hb_⟩
  have m0_ : Aside0 (Kd.C (Kd.int .i64) w1 A1_ l1.length l1) := ⟨by have h_ := Hw.C_take hq_.2.2 l1.length hl_; rw [HL1.out] at h_; exact h_⟩
  (try clear HB)
  have HB := n0_
  have HV1 := m0_
  clear n0_ m0_
  clear hb_ hR_ hn_ hq_ hl_
  go_wp2_with fail
  refine (full_toIntS.calls k _ _ l2 false F2 w1 (Kd.C_below HR2.out HB.out) HC2.out HF2.out).mono ?_
  rintro e w2 hp_
  obtain ⟨A2_, n2_, c2_, rfl, hR_, hn_, hb_⟩ := hp_
  have hq_ := Kd.R_reads' hR_
  obtain rfl : n2_ = l2.length := (by rcases hn_ with h_ | ⟨h_, h2_⟩; exact h_; exact h2_.trans (by have h3_ := congrArg List.length HL2.out; rw [h_, List.length_take, List.length_nil, Nat.min_zero] at h3_; exact h3_))
  have hl_ : l2.length ≤ F2.length := by have h_ := congrArg List.length HL2.out; rw [List.length_take] at h_; omega
  have HU2 : Aside0 (l2.length ≤ c2_) := ⟨Nat.le_trans hl_ hq_.2.1⟩
  have n0_ : Aside0 (Below w.heap.size w w2) := ⟨below_step HB.out hb_⟩
  have n1_ : Aside0 (Kd.C (Kd.int .i64) w2 A1_ l1.length l1) := ⟨Kd.C_below HV1.out hb_⟩
  have m0_ : Aside0 (Kd.C (Kd.int .i64) w2 A2_ l2.length l2) := ⟨by have h_ := Hw.C_take hq_.2.2 l2.length hl_; rw [HL2.out] at h_; exact h_⟩
  (try clear HB)
  (try clear HV1)
  have HB := n0_
  have HV1 := n1_
  have HV2 := m0_
  clear n0_ n1_ m0_
  clear hb_ hR_ hn_ hq_ hl_
  go_wp2_with fail
  refine (spec_BrokenInHouses.calls k a0 _ _ l1 _ _ l2 r1 r2 w2 HV1.out HU1.out HV2.out HU2.out H1.out).mono ?_
  rintro e w3 ⟨rfl, hd_⟩
  have hb_ : Below w2.heap.size w2 w3 := (by first | exact hd_ | exact hd_.below)
  have n0_ : Aside0 (Below w.heap.size w w3) := ⟨below_step HB.out hb_⟩
  have n1_ : Aside0 (Kd.C (Kd.int .i64) w3 A1_ l1.length l1) := ⟨Kd.C_below HV1.out hb_⟩
  have n2_ : Aside0 (Kd.C (Kd.int .i64) w3 A2_ l2.length l2) := ⟨Kd.C_below HV2.out hb_⟩
  (try clear HB)
  (try clear HV1)
  (try clear HV2)
  have HB := n0_
  have HV1 := n1_
  have HV2 := n2_
  clear n0_ n1_ n2_
  clear hb_ hd_
  go_wp2_with fail
  refine (full_toIntS.calls k _ _ l1 false F1 w3 (Kd.C_below HR1.out HB.out) HC1.out HF1.out).mono ?_
  rintro e w4 hp_
  obtain ⟨A4_, n4_, c4_, rfl, hR_, hn_, hb_⟩ := hp_
  have hq_ := Kd.R_reads' hR_
  obtain rfl : n4_ = l1.length := (by rcases hn_ with h_ | ⟨h_, h2_⟩; exact h_; exact h2_.trans (by have h3_ := congrArg List.length HL1.out; rw [h_, List.length_take, List.length_nil, Nat.min_zero] at h3_; exact h3_))
  have hl_ : l1.length ≤ F1.length := by have h_ := congrArg List.length HL1.out; rw [List.length_take] at h_; omega
  have hx_ := Hw.R_take hR_ l1.length hl_
  rw [HL1.out] at hx_
  have HZ1 : Aside0 (F1.length ≤ c4_) := ⟨hq_.2.1⟩
  have LE0 : Aside0 (w3.heap.size ≤ w4.heap.size) := ⟨hb_.size⟩
  have n0_ : Aside0 (Below w.heap.size w w4) := ⟨below_step HB.out hb_⟩
  have m0_ : Aside0 (Kd.R (Kd.int .i64) 3 w4 w.heap.size (fun k_ => w3.heap.size ≤ k_ ∧ k_ < w4.heap.size) (.slice A4_ F1.length c4_) F1) := ⟨Kd.R_mono (Kd.R_lower (Kd.R_bound hR_) (below_size HB.out)) (fun k_ hk => ⟨hk.2.1, hk.2.2.1⟩)⟩
  have m1_ : Aside0 (Kd.R (Kd.int .i64) 3 w4 w.heap.size (fun k_ => w3.heap.size ≤ k_ ∧ k_ < w4.heap.size) (.slice A4_ l1.length c4_) l1) := ⟨Kd.R_mono (Kd.R_lower (Kd.R_bound hx_) (below_size HB.out)) (fun k_ hk => ⟨hk.2.1, hk.2.2.1⟩)⟩
  (try clear HB)
  have HB := n0_
  have HY1 := m0_
  have HX1 := m1_
  clear n0_ m0_ m1_
  clear hb_ hR_ hn_ hq_ hl_ hx_
  go_wp2_with fail
  refine (full_toIntS.calls k _ _ l2 false F2 w4 (Kd.C_below HR2.out HB.out) HC2.out HF2.out).mono ?_
  rintro e w5 hp_
  obtain ⟨A5_, n5_, c5_, rfl, hR_, hn_, hb_⟩ := hp_
  have hq_ := Kd.R_reads' hR_
  obtain rfl : n5_ = l2.length := (by rcases hn_ with h_ | ⟨h_, h2_⟩; exact h_; exact h2_.trans (by have h3_ := congrArg List.length HL2.out; rw [h_, List.length_take, List.length_nil, Nat.min_zero] at h3_; exact h3_))
  have hl_ : l2.length ≤ F2.length := by have h_ := congrArg List.length HL2.out; rw [List.length_take] at h_; omega
  have hx_ := Hw.R_take hR_ l2.length hl_
  rw [HL2.out] at hx_
  have HZ2 : Aside0 (F2.length ≤ c5_) := ⟨hq_.2.1⟩
  have LE1 : Aside0 (w4.heap.size ≤ w5.heap.size) := ⟨hb_.size⟩
  have n0_ : Aside0 (Below w.heap.size w w5) := ⟨below_step HB.out hb_⟩
  have n1_ : Aside0 (Kd.R (Kd.int .i64) 3 w5 w.heap.size (fun k_ => w3.heap.size ≤ k_ ∧ k_ < w4.heap.size) (.slice A4_ F1.length c4_) F1) := ⟨Kd.R_below HY1.out hb_⟩
  have n2_ : Aside0 (Kd.R (Kd.int .i64) 3 w5 w.heap.size (fun k_ => w3.heap.size ≤ k_ ∧ k_ < w4.heap.size) (.slice A4_ l1.length c4_) l1) := ⟨Kd.R_below HX1.out hb_⟩
  have m0_ : Aside0 (Kd.R (Kd.int .i64) 3 w5 w.heap.size (fun k_ => w4.heap.size ≤ k_ ∧ k_ < w5.heap.size) (.slice A5_ F2.length c5_) F2) := ⟨Kd.R_mono (Kd.R_lower (Kd.R_bound hR_) (below_size HB.out)) (fun k_ hk => ⟨hk.2.1, hk.2.2.1⟩)⟩
  have m1_ : Aside0 (Kd.R (Kd.int .i64) 3 w5 w.heap.size (fun k_ => w4.heap.size ≤ k_ ∧ k_ < w5.heap.size) (.slice A5_ l2.length c5_) l2) := ⟨Kd.R_mono (Kd.R_lower (Kd.R_bound hx_) (below_size HB.out)) (fun k_ hk => ⟨hk.2.1, hk.2.2.1⟩)⟩
  (try clear HB)
  (try clear HY1)
  (try clear HX1)
  have HB := n0_
  have HY1 := n1_
  have HX1 := n2_
  have HY2 := m0_
  have HX2 := m1_
  clear n0_ n1_ n2_ m0_ m1_
  clear hb_ hR_ hn_ hq_ hl_ hx_
  go_wp2_with fail
  refine (impl_BrokenInHouses.calls k a0 _ _ l1 _ _ l2 r1 r2 w5 (Kd.R_reads' HX1.out).2.2 (Kd.R_reads' HX1.out).2.1 (Kd.R_reads' HX2.out).2.2 (Kd.R_reads' HX2.out).2.1 H2.out).mono ?_
  rintro e w6 ⟨rfl, hd_⟩
  have hb_ : Below w5.heap.size w5 w6 := (by first | exact hd_ | exact hd_.below)
  have n0_ : Aside0 (Below w.heap.size w w6) := ⟨below_step HB.out hb_⟩
  have n1_ : Aside0 (Kd.R (Kd.int .i64) 3 w6 w.heap.size (fun k_ => w3.heap.size ≤ k_ ∧ k_ < w4.heap.size) (.slice A4_ F1.length c4_) F1) := ⟨Kd.R_below HY1.out hb_⟩
  have n2_ : Aside0 (Kd.R (Kd.int .i64) 3 w6 w.heap.size (fun k_ => w3.heap.size ≤ k_ ∧ k_ < w4.heap.size) (.slice A4_ l1.length c4_) l1) := ⟨Kd.R_below HX1.out hb_⟩
  have n3_ : Aside0 (Kd.R (Kd.int .i64) 3 w6 w.heap.size (fun k_ => w4.heap.size ≤ k_ ∧ k_ < w5.heap.size) (.slice A5_ F2.length c5_) F2) := ⟨Kd.R_below HY2.out hb_⟩
  have n4_ : Aside0 (Kd.R (Kd.int .i64) 3 w6 w.heap.size (fun k_ => w4.heap.size ≤ k_ ∧ k_ < w5.heap.size) (.slice A5_ l2.length c5_) l2) := ⟨Kd.R_below HX2.out hb_⟩
  (try clear HB)
  (try clear HY1)
  (try clear HX1)
  (try clear HY2)
  (try clear HX2)
  have HB := n0_
  have HY1 := n1_
  have HX1 := n2_
  have HY2 := n3_
  have HX2 := n4_
  clear n0_ n1_ n2_ n3_ n4_
  clear hb_ hd_
  go_wp2_with fail
  refine (full_toIntS.calls k _ _ l1 false F1 w6 (Kd.C_below HR1.out HB.out) HC1.out HF1.out).mono ?_
  rintro e w7 hp_
  obtain ⟨A7_, n7_, c7_, rfl, hR_, hn_, hb_⟩ := hp_
  have hq_ := Kd.R_reads' hR_
  obtain rfl : n7_ = l1.length := (by rcases hn_ with h_ | ⟨h_, h2_⟩; exact h_; exact h2_.trans (by have h3_ := congrArg List.length HL1.out; rw [h_, List.length_take, List.length_nil, Nat.min_zero] at h3_; exact h3_))
  have hl_ : l1.length ≤ F1.length := by have h_ := congrArg List.length HL1.out; rw [List.length_take] at h_; omega
  have HE1_ : Aside0 (F1.length ≤ c7_) := ⟨hq_.2.1⟩
  have n0_ : Aside0 (Below w.heap.size w w7) := ⟨below_step HB.out hb_⟩
  have n1_ : Aside0 (Kd.R (Kd.int .i64) 3 w7 w.heap.size (fun k_ => w3.heap.size ≤ k_ ∧ k_ < w4.heap.size) (.slice A4_ F1.length c4_) F1) := ⟨Kd.R_below HY1.out hb_⟩
  have n2_ : Aside0 (Kd.R (Kd.int .i64) 3 w7 w.heap.size (fun k_ => w3.heap.size ≤ k_ ∧ k_ < w4.heap.size) (.slice A4_ l1.length c4_) l1) := ⟨Kd.R_below HX1.out hb_⟩
  have n3_ : Aside0 (Kd.R (Kd.int .i64) 3 w7 w.heap.size (fun k_ => w4.heap.size ≤ k_ ∧ k_ < w5.heap.size) (.slice A5_ F2.length c5_) F2) := ⟨Kd.R_below HY2.out hb_⟩
  have n4_ : Aside0 (Kd.R (Kd.int .i64) 3 w7 w.heap.size (fun k_ => w4.heap.size ≤ k_ ∧ k_ < w5.heap.size) (.slice A5_ l2.length c5_) l2) := ⟨Kd.R_below HX2.out hb_⟩
  have m0_ : Aside0 (Kd.C (Kd.int .i64) w7 A7_ F1.length F1) := ⟨hq_.2.2⟩
  (try clear HB)
  (try clear HY1)
  (try clear HX1)
  (try clear HY2)
  (try clear HX2)
  have HB := n0_
  have HY1 := n1_
  have HX1 := n2_
  have HY2 := n3_
  have HX2 := n4_
  have HD1 := m0_
  clear n0_ n1_ n2_ n3_ n4_ m0_
  clear hb_ hR_ hn_ hq_ hl_
  go_wp2_with fail
  refine (intact_IntS k F1 A4_ A7_ l1.length c4_ c7_ t1 w7 HQT1.out HN1.out HZ1.out HE1_.out (Kd.R_reads' HY1.out).2.2 HD1.out HE1.out).mono ?_
  rintro e w8 ⟨rfl, hd_⟩
  have hb_ : Below w7.heap.size w7 w8 := (by first | exact hd_ | exact hd_.below)
  have n0_ : Aside0 (Below w.heap.size w w8) := ⟨below_step HB.out hb_⟩
  have n1_ : Aside0 (Kd.R (Kd.int .i64) 3 w8 w.heap.size (fun k_ => w3.heap.size ≤ k_ ∧ k_ < w4.heap.size) (.slice A4_ F1.length c4_) F1) := ⟨Kd.R_below HY1.out hb_⟩
  have n2_ : Aside0 (Kd.R (Kd.int .i64) 3 w8 w.heap.size (fun k_ => w3.heap.size ≤ k_ ∧ k_ < w4.heap.size) (.slice A4_ l1.length c4_) l1) := ⟨Kd.R_below HX1.out hb_⟩
  have n3_ : Aside0 (Kd.R (Kd.int .i64) 3 w8 w.heap.size (fun k_ => w4.heap.size ≤ k_ ∧ k_ < w5.heap.size) (.slice A5_ F2.length c5_) F2) := ⟨Kd.R_below HY2.out hb_⟩
  have n4_ : Aside0 (Kd.R (Kd.int .i64) 3 w8 w.heap.size (fun k_ => w4.heap.size ≤ k_ ∧ k_ < w5.heap.size) (.slice A5_ l2.length c5_) l2) := ⟨Kd.R_below HX2.out hb_⟩
  (try clear HB)
  (try clear HY1)
  (try clear HX1)
  (try clear HY2)
  (try clear HX2)
  (try clear HD1)
  have HB := n0_
  have HY1 := n1_
  have HX1 := n2_
  have HY2 := n3_
  have HX2 := n4_
  clear n0_ n1_ n2_ n3_ n4_
  clear hb_ hd_
  go_wp2_with fail
  refine (full_toIntS.calls k _ _ l2 false F2 w8 (Kd.C_below HR2.out HB.out) HC2.out HF2.out).mono ?_
  rintro e w9 hp_
  obtain ⟨A9_, n9_, c9_, rfl, hR_, hn_, hb_⟩ := hp_
  have hq_ := Kd.R_reads' hR_
  obtain rfl : n9_ = l2.length := (by rcases hn_ with h_ | ⟨h_, h2_⟩; exact h_; exact h2_.trans (by have h3_ := congrArg List.length HL2.out; rw [h_, List.length_take, List.length_nil, Nat.min_zero] at h3_; exact h3_))
  have hl_ : l2.length ≤ F2.length := by have h_ := congrArg List.length HL2.out; rw [List.length_take] at h_; omega
  have HE2_ : Aside0 (F2.length ≤ c9_) := ⟨hq_.2.1⟩
  have n0_ : Aside0 (Below w.heap.size w w9) := ⟨below_step HB.out hb_⟩
  have n1_ : Aside0 (Kd.R (Kd.int .i64) 3 w9 w.heap.size (fun k_ => w3.heap.size ≤ k_ ∧ k_ < w4.heap.size) (.slice A4_ F1.length c4_) F1) := ⟨Kd.R_below HY1.out hb_⟩
  have n2_ : Aside0 (Kd.R (Kd.int .i64) 3 w9 w.heap.size (fun k_ => w3.heap.size ≤ k_ ∧ k_ < w4.heap.size) (.slice A4_ l1.length c4_) l1) := ⟨Kd.R_below HX1.out hb_⟩
  have n3_ : Aside0 (Kd.R (Kd.int .i64) 3 w9 w.heap.size (fun k_ => w4.heap.size ≤ k_ ∧ k_ < w5.heap.size) (.slice A5_ F2.length c5_) F2) := ⟨Kd.R_below HY2.out hb_⟩
  have n4_ : Aside0 (Kd.R (Kd.int .i64) 3 w9 w.heap.size (fun k_ => w4.heap.size ≤ k_ ∧ k_ < w5.heap.size) (.slice A5_ l2.length c5_) l2) := ⟨Kd.R_below HX2.out hb_⟩
  have m0_ : Aside0 (Kd.C (Kd.int .i64) w9 A9_ F2.length F2) := ⟨hq_.2.2⟩
  (try clear HB)
  (try clear HY1)
  (try clear HX1)
  (try clear HY2)
  (try clear HX2)
  have HB := n0_
  have HY1 := n1_
  have HX1 := n2_
  have HY2 := n3_
  have HX2 := n4_
  have HD2 := m0_
  clear n0_ n1_ n2_ n3_ n4_ m0_
  clear hb_ hR_ hn_ hq_ hl_
  go_wp2_with fail
  refine (intact_IntS k F2 A5_ A9_ l2.length c5_ c9_ t2 w9 HQT2.out HN2.out HZ2.out HE2_.out (Kd.R_reads' HY2.out).2.2 HD2.out HE2.out).mono ?_
  rintro e w10 ⟨rfl, hd_⟩
  have hb_ : Below w9.heap.size w9 w10 := (by first | exact hd_ | exact hd_.below)
  have n0_ : Aside0 (Below w.heap.size w w10) := ⟨below_step HB.out hb_⟩
  have n1_ : Aside0 (Kd.R (Kd.int .i64) 3 w10 w.heap.size (fun k_ => w3.heap.size ≤ k_ ∧ k_ < w4.heap.size) (.slice A4_ F1.length c4_) F1) := ⟨Kd.R_below HY1.out hb_⟩
  have n2_ : Aside0 (Kd.R (Kd.int .i64) 3 w10 w.heap.size (fun k_ => w3.heap.size ≤ k_ ∧ k_ < w4.heap.size) (.slice A4_ l1.length c4_) l1) := ⟨Kd.R_below HX1.out hb_⟩
  have n3_ : Aside0 (Kd.R (Kd.int .i64) 3 w10 w.heap.size (fun k_ => w4.heap.size ≤ k_ ∧ k_ < w5.heap.size) (.slice A5_ F2.length c5_) F2) := ⟨Kd.R_below HY2.out hb_⟩
  have n4_ : Aside0 (Kd.R (Kd.int .i64) 3 w10 w.heap.size (fun k_ => w4.heap.size ≤ k_ ∧ k_ < w5.heap.size) (.slice A5_ l2.length c5_) l2) := ⟨Kd.R_below HX2.out hb_⟩
  (try clear HB)
  (try clear HY1)
  (try clear HX1)
  (try clear HY2)
  (try clear HX2)
  (try clear HD2)
  have HB := n0_
  have HY1 := n1_
  have HX1 := n2_
  have HY2 := n3_
  have HX2 := n4_
  clear n0_ n1_ n2_ n3_ n4_
  clear hb_ hd_
  go_wp2_with fail
  refine (full_toIntS.calls k _ _ l1 true F1' w10 (Kd.C_below HR1.out HB.out) HC1.out HF1t.out).mono ?_
  rintro e w11 hp_
  obtain ⟨A11_, n11_, c11_, rfl, hR_, hn_, hb_⟩ := hp_
  have hq_ := Kd.R_reads' hR_
  obtain ⟨rfl, h131_, h132_⟩ := toTrueI F1 F1' l1 w11 A11_ n11_ c11_ HF01.out HF21.out HL1.out hq_.2.1 hq_.2.2 hn_
  have HU1 : Aside0 (l1.length ≤ c11_) := ⟨h132_⟩
  clear h132_
  have n0_ : Aside0 (Below w.heap.size w w11) := ⟨below_step HB.out hb_⟩
  have n1_ : Aside0 (Kd.R (Kd.int .i64) 3 w11 w.heap.size (fun k_ => w3.heap.size ≤ k_ ∧ k_ < w4.heap.size) (.slice A4_ F1.length c4_) F1) := ⟨Kd.R_below HY1.out hb_⟩
  have n2_ : Aside0 (Kd.R (Kd.int .i64) 3 w11 w.heap.size (fun k_ => w3.heap.size ≤ k_ ∧ k_ < w4.heap.size) (.slice A4_ l1.length c4_) l1) := ⟨Kd.R_below HX1.out hb_⟩
  have n3_ : Aside0 (Kd.R (Kd.int .i64) 3 w11 w.heap.size (fun k_ => w4.heap.size ≤ k_ ∧ k_ < w5.heap.size) (.slice A5_ F2.length c5_) F2) := ⟨Kd.R_below HY2.out hb_⟩
  have n4_ : Aside0 (Kd.R (Kd.int .i64) 3 w11 w.heap.size (fun k_ => w4.heap.size ≤ k_ ∧ k_ < w5.heap.size) (.slice A5_ l2.length c5_) l2) := ⟨Kd.R_below HX2.out hb_⟩
  have m0_ : Aside0 (Kd.C (Kd.int .i64) w11 A11_ l1.length l1) := ⟨h131_⟩
  (try clear HB)
  (try clear HY1)
  (try clear HX1)
  (try clear HY2)
  (try clear HX2)
  have HB := n0_
  have HY1 := n1_
  have HX1 := n2_
  have HY2 := n3_
  have HX2 := n4_
  have HT1 := m0_
  clear n0_ n1_ n2_ n3_ n4_ m0_
  clear hb_ hR_ hn_ hq_
  go_wp2_with fail
  refine (full_toIntS.calls k _ _ l2 true F2' w11 (Kd.C_below HR2.out HB.out) HC2.out HF2t.out).mono ?_
  rintro e w12 hp_
  obtain ⟨A12_, n12_, c12_, rfl, hR_, hn_, hb_⟩ := hp_
  have hq_ := Kd.R_reads' hR_
  obtain ⟨rfl, h131_, h132_⟩ := toTrueI F2 F2' l2 w12 A12_ n12_ c12_ HF02.out HF22.out HL2.out hq_.2.1 hq_.2.2 hn_
  have HU2 : Aside0 (l2.length ≤ c12_) := ⟨h132_⟩
  clear h132_
  have n0_ : Aside0 (Below w.heap.size w w12) := ⟨below_step HB.out hb_⟩
  have n1_ : Aside0 (Kd.R (Kd.int .i64) 3 w12 w.heap.size (fun k_ => w3.heap.size ≤ k_ ∧ k_ < w4.heap.size) (.slice A4_ F1.length c4_) F1) := ⟨Kd.R_below HY1.out hb_⟩
  have n2_ : Aside0 (Kd.R (Kd.int .i64) 3 w12 w.heap.size (fun k_ => w3.heap.size ≤ k_ ∧ k_ < w4.heap.size) (.slice A4_ l1.length c4_) l1) := ⟨Kd.R_below HX1.out hb_⟩
  have n3_ : Aside0 (Kd.R (Kd.int .i64) 3 w12 w.heap.size (fun k_ => w4.heap.size ≤ k_ ∧ k_ < w5.heap.size) (.slice A5_ F2.length c5_) F2) := ⟨Kd.R_below HY2.out hb_⟩
  have n4_ : Aside0 (Kd.R (Kd.int .i64) 3 w12 w.heap.size (fun k_ => w4.heap.size ≤ k_ ∧ k_ < w5.heap.size) (.slice A5_ l2.length c5_) l2) := ⟨Kd.R_below HX2.out hb_⟩
  have n5_ : Aside0 (Kd.C (Kd.int .i64) w12 A11_ l1.length l1) := ⟨Kd.C_below HT1.out hb_⟩
  have m0_ : Aside0 (Kd.C (Kd.int .i64) w12 A12_ l2.length l2) := ⟨h131_⟩
  (try clear HB)
  (try clear HY1)
  (try clear HX1)
  (try clear HY2)
  (try clear HX2)
  (try clear HT1)
  have HB := n0_
  have HY1 := n1_
  have HX1 := n2_
  have HY2 := n3_
  have HX2 := n4_
  have HT1 := n5_
  have HT2 := m0_
  clear n0_ n1_ n2_ n3_ n4_ n5_ m0_
  clear hb_ hR_ hn_ hq_
  go_wp2_with fail
  refine (impl_BrokenInHouses.calls k a0 _ _ l1 _ _ l2 r1 r2 w12 HT1.out HU1.out HT2.out HU2.out H2.out).mono ?_
  rintro e w13 ⟨rfl, hd_⟩
  have hb_ : Below w12.heap.size w12 w13 := (by first | exact hd_ | exact hd_.below)
  have n0_ : Aside0 (Below w.heap.size w w13) := ⟨below_step HB.out hb_⟩
  have n1_ : Aside0 (Kd.R (Kd.int .i64) 3 w13 w.heap.size (fun k_ => w3.heap.size ≤ k_ ∧ k_ < w4.heap.size) (.slice A4_ F1.length c4_) F1) := ⟨Kd.R_below HY1.out hb_⟩
  have n2_ : Aside0 (Kd.R (Kd.int .i64) 3 w13 w.heap.size (fun k_ => w3.heap.size ≤ k_ ∧ k_ < w4.heap.size) (.slice A4_ l1.length c4_) l1) := ⟨Kd.R_below HX1.out hb_⟩
  have n3_ : Aside0 (Kd.R (Kd.int .i64) 3 w13 w.heap.size (fun k_ => w4.heap.size ≤ k_ ∧ k_ < w5.heap.size) (.slice A5_ F2.length c5_) F2) := ⟨Kd.R_below HY2.out hb_⟩
  have n4_ : Aside0 (Kd.R (Kd.int .i64) 3 w13 w.heap.size (fun k_ => w4.heap.size ≤ k_ ∧ k_ < w5.heap.size) (.slice A5_ l2.length c5_) l2) := ⟨Kd.R_below HX2.out hb_⟩
  have n5_ : Aside0 (Kd.C (Kd.int .i64) w13 A11_ l1.length l1) := ⟨Kd.C_below HT1.out hb_⟩
  have n6_ : Aside0 (Kd.C (Kd.int .i64) w13 A12_ l2.length l2) := ⟨Kd.C_below HT2.out hb_⟩
  (try clear HB)
  (try clear HY1)
  (try clear HX1)
  (try clear HY2)
  (try clear HX2)
  (try clear HT1)
  (try clear HT2)
  have HB := n0_
  have HY1 := n1_
  have HX1 := n2_
  have HY2 := n3_
  have HX2 := n4_
  have HT1 := n5_
  have HT2 := n6_
  clear n0_ n1_ n2_ n3_ n4_ n5_ n6_
  clear hb_ hd_
  go_wp2
  go_ret
  exact ⟨rfl, HB.out⟩

set_option maxHeartbeats 8000000 in
set_option maxRecDepth 100000 in
theorem big_FnExactBrokenInHouses (a0 : Int) (A1 : Option Addr) (c1 : Nat) (l1 : List Int) (A2 : Option Addr) (c2 : Nat) (l2 : List Int) (w : World) (hb : (l1.length : Int) + (l2.length : Int) > 1000000) (hm : (l1.length : Int) + (l2.length : Int) ≤ 9223372036854775807) :
    Calls Try.prog 11 #[.int .i64 a0, .slice A1 l1.length c1, .slice A2 l2.length c2] w fun e w' => e = .returned (.bool true) ∧ Below w.heap.size w w' := by
  have wsum_ : IntKind.i64.wrap ((l1.length : Int) + (l2.length : Int)) = (l1.length : Int) + (l2.length : Int) := Hw.wrap_w (by omega) hm
  have dbig : decide ((l1.length : Int) + (l2.length : Int) > 1000000) = true := decide_eq_true hb
  have dbig2 : decide (1000000 < (l1.length : Int) + (l2.length : Int)) = true := decide_eq_true hb
  have dbig3 : decide (l1.length + l2.length > 1000000) = true := decide_eq_true (by omega)
  clear hb hm
  go_enter Try.func11, Try.ntmps11
  go_wp2
  go_ret
  exact ⟨rfl, by repeat (first | exact Below.refl _ _ | apply below_drew1 | apply pw_below_drewN)⟩


end Go.Proofs.Ytoomacelbhojhaa.J
