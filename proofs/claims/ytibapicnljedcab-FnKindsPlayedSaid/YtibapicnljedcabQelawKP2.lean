/- Plain lemmas of this session: what the printed functions answer. -/
import Derived.Test.YtibapicnljedcabQx0
import Derived.Test.YtibapicnljedcabQx1
import Derived.Test.YtibapicnljedcabQx10
import Derived.Test.YtibapicnljedcabQx11
import Derived.Test.YtibapicnljedcabQx12
import Derived.Test.YtibapicnljedcabQx2
import Derived.Test.YtibapicnljedcabQx3
import Derived.Test.YtibapicnljedcabQx4
import Derived.Test.YtibapicnljedcabQx5
import Derived.Test.YtibapicnljedcabQx6
import Derived.Test.YtibapicnljedcabQx7
import Derived.Test.YtibapicnljedcabQx8
import Derived.Test.YtibapicnljedcabQx9
import Derived.Test.YtibapicnljedcabHw
import Derived.Test.YtibapicnljedcabQedraw
import Derived.Test.YtibapicnljedcabQefew
import Derived.Test.YtibapicnljedcabQeidle
import Derived.Test.YtibapicnljedcabQekplay
import Derived.Test.YtibapicnljedcabQekpure
import Derived.Test.YtibapicnljedcabQekplaw
import Derived.Test.YtibapicnljedcabQelawKP0
import Derived.Test.YtibapicnljedcabQelawKP1
namespace Go.Proofs.Ytibapicnljedcab.Q
open Go.RowKit Go.Proofs.YtibapicnljedcabW.PrintWords Go.Proofs.YtibapicnljedcabW.PrintLast Go.Proofs.YtibapicnljedcabW.PrintMore
set_option linter.unusedVariables false
set_option linter.unusedSimpArgs false
/-! ### FnKindsPlayed where there is a play -/
set_option maxHeartbeats 8000000 in
set_option maxRecDepth 100000 in
theorem kpS2 (A0 : Option Addr) (c0 : Nat) (l0 : List Int) (A1 : Option Addr) (c1 : Nat) (l1 : List Int) (w : World) (hr0 : Kd.C (Kd.int .u8) w A0 l0.length l0) (hc0 : l0.length ≤ c0) (hr1 : Kd.C (Kd.int .u8) w A1 l1.length l1) (hc1 : l1.length ≤ c1)
    (a s fl wk st x y n : Int) (hd : spec_DrawPlayKinds.f l0 = some (a, s, fl, wk, st)) (hd2 : spec_DrawHardestPairs.f l1 = some (x, y, n)) (hbg : laws_big.f l0 l1 = some false) (P : List S43) (ct fw : Int) (kd : Bool) (fr : Int) (fv : Bool) (al : Int)
    (F : impl_PlayKinds.f a s fl wk st = some (P, true) ∧ spec_PlayKinds.f a s fl wk st = some (P, true) ∧ impl_CountKindTests.f a s fl wk st = some ((P.length : Int), true) ∧ spec_CountKindTests.f a s fl wk st = some ((P.length : Int), true) ∧ impl_FewestKinds.f a s fl = some (fw, true) ∧ spec_FewestKinds.f a s fl = some (fw, true) ∧ impl_FirstKindTest.f a s fl = some (kd, fr, fv) ∧ spec_FirstKindTest.f a s fl = some (kd, fr, fv) ∧ impl_FewestForWeak.f a s fl = some (al, true) ∧ spec_FewestForWeak.f a s fl = some (al, true))
    (hpl : P.length ≤ 12) (G : List (List Int)) (nn : Bool) (hg : impl_HardestPairs.f x y n = some (G, nn) ∧ spec_HardestPairs.f x y n = some (G, nn)) (hir : laws_iRows.f 100 G G = some true)
    (hnnf : nn = true → ∃ mst, impl_FewestKinds.f x y n = some (mst, true) ∧ 1 ≤ G.length ∧ G.length ≤ 56 ∧ ∀ p ∈ G, ∃ u v, p = [u, v] ∧ impl_CountKindTests.f x y n u v = some (mst, true))
    (sg : Int) (hsg : impl_FewestTests.f a fl = some (sg, true)) (t1 : decide (fw < al) = false) (t2 : decide (al < 0) = false) (t3 : decide (sg < al) = false) (t4 : decide (0 < fl) = fv) (b6 : Bool) (t5 : (fw == 0) = b6) (t6 : (fl == 0) = b6) (u1 : decide (fw < (P.length : Int)) = false) (hlf : impl_PairsLeft.f 1000 fl P = some ([[wk, st]], true) ∧ impl_IdleKindTests.f 1000 fl P = some ([], true))
    (hq : ((P.filter fun u => u.f2 && !u.f0).length : Int) ≤ a ∧ ((P.filter fun u => u.f2 && u.f0).length : Int) ≤ s ∧ (0 < P.length → (rd_T43 P 0).f0 = kd ∧ (rd_T43 P 0).f1 = fr)) :
    Calls Try.prog 3 #[.slice A0 l0.length c0, .slice A1 l1.length c1] w fun e w' => e = .returned (.bool true) ∧ Below w.heap.size w w' := by
        have HD := Aside0.mk hd
        have HD2 := Aside0.mk hd2
        have HBG := Aside0.mk hbg
        have HR0 := Aside0.mk hr0
        have HC0 := Aside0.mk hc0
        have HR1 := Aside0.mk hr1
        have HC1 := Aside0.mk hc1
        have HF := Aside0.mk F
        have HG2 := Aside0.mk hg
        have HNN := Aside0.mk hnnf
        have HPL := Aside0.mk hpl
        have HIT := Aside0.mk (iTests_self P (by omega))
        have HIR := Aside0.mk hir
        have HB := Aside0.mk (Below.refl w.heap.size w)
        clear hr0 hc0 hr1 hc1 hd hd2 hbg F hg hir hnnf hpl
        have HSG := Aside0.mk hsg
        clear hsg
        have HLF := Aside0.mk hlf
        have HQ := Aside0.mk hq
        clear hlf hq
        go_enter Try.func3, Try.ntmps3
        go_wp2_with fail
        refine (laws_big.calls A0 c0 l0 A1 c1 l1 false w HR0.out HC0.out HR1.out HC1.out HBG.out).mono ?_
        rintro e_ w1 ⟨rfl, hd_⟩
        have hb_ := hd_.below
        have n0_ : Aside0 (Below w.heap.size w w1) := ⟨below_step HB.out hb_⟩
        have m0_ : Aside0 (Kd.C (Kd.int .u8) w1 A0 l0.length l0) := ⟨Kd.C_below HR0.out hb_⟩
        have m1_ : Aside0 (Kd.C (Kd.int .u8) w1 A1 l1.length l1) := ⟨Kd.C_below HR1.out hb_⟩
        clear HB HR0 HR1
        have HB := n0_
        have HR0 := m0_
        have HR1 := m1_
        clear n0_ m0_ m1_
        clear hb_ hd_
        go_wp2_with fail
        refine (spec_DrawPlayKinds.calls A0 c0 l0 a s fl wk st w1 HR0.out HC0.out HD.out).mono ?_
        rintro e_ w2 ⟨rfl, hb_⟩
        have n0_ : Aside0 (Below w.heap.size w w2) := ⟨below_step HB.out hb_⟩
        have m0_ : Aside0 (Kd.C (Kd.int .u8) w2 A0 l0.length l0) := ⟨Kd.C_below HR0.out hb_⟩
        have m1_ : Aside0 (Kd.C (Kd.int .u8) w2 A1 l1.length l1) := ⟨Kd.C_below HR1.out hb_⟩
        clear HB HR0 HR1
        have HB := n0_
        have HR0 := m0_
        have HR1 := m1_
        clear n0_ m0_ m1_
        clear hb_
        go_wp2_with fail
        refine (impl_PlayKinds.calls a s fl wk st P true w2 HF.out.1).mono ?_
        rintro e_ w3 ⟨v_, rfl, ho_, hb_⟩
        obtain ⟨Ap, cp, rfl⟩ := Kd.R_slice ho_
        have r_ := Kd.R_reads' ho_
        have r0_ : Aside0 (Kd.C k43 w3 Ap P.length P) := ⟨r_.2.2⟩
        have r1_ : Aside0 (P.length ≤ cp) := ⟨r_.2.1⟩
        have n0_ : Aside0 (Below w.heap.size w w3) := ⟨below_step HB.out hb_⟩
        have m0_ : Aside0 (Kd.C (Kd.int .u8) w3 A0 l0.length l0) := ⟨Kd.C_below HR0.out hb_⟩
        have m1_ : Aside0 (Kd.C (Kd.int .u8) w3 A1 l1.length l1) := ⟨Kd.C_below HR1.out hb_⟩
        clear HB HR0 HR1
        have HB := n0_
        have HR0 := m0_
        have HR1 := m1_
        clear n0_ m0_ m1_
        have HP := r0_
        have HPc := r1_
        clear r_ r0_ r1_ ho_ hb_
        go_wp2_with fail
        refine (spec_PlayKinds.calls a s fl wk st P true w3 HF.out.2.1).mono ?_
        rintro e_ w4 ⟨v_, rfl, ho_, hb_⟩
        obtain ⟨Aq, cq, rfl⟩ := Kd.R_slice ho_
        have r_ := Kd.R_reads' ho_
        have r0_ : Aside0 (Kd.C k43 w4 Aq P.length P) := ⟨r_.2.2⟩
        have r1_ : Aside0 (P.length ≤ cq) := ⟨r_.2.1⟩
        have n0_ : Aside0 (Below w.heap.size w w4) := ⟨below_step HB.out hb_⟩
        have m0_ : Aside0 (Kd.C (Kd.int .u8) w4 A0 l0.length l0) := ⟨Kd.C_below HR0.out hb_⟩
        have m1_ : Aside0 (Kd.C (Kd.int .u8) w4 A1 l1.length l1) := ⟨Kd.C_below HR1.out hb_⟩
        have m2_ : Aside0 (Kd.C k43 w4 Ap P.length P) := ⟨Kd.C_below HP.out hb_⟩
        clear HB HR0 HR1 HP
        have HB := n0_
        have HR0 := m0_
        have HR1 := m1_
        have HP := m2_
        clear n0_ m0_ m1_ m2_
        have HQ2 := r0_
        have HQ2c := r1_
        clear r_ r0_ r1_ ho_ hb_
        go_wp2_with fail
        refine (impl_CountKindTests.calls a s fl wk st _ true w4 HF.out.2.2.1).mono ?_
        rintro e_ w5 ⟨rfl, hb_⟩
        have n0_ : Aside0 (Below w.heap.size w w5) := ⟨below_step HB.out hb_⟩
        have m0_ : Aside0 (Kd.C (Kd.int .u8) w5 A0 l0.length l0) := ⟨Kd.C_below HR0.out hb_⟩
        have m1_ : Aside0 (Kd.C (Kd.int .u8) w5 A1 l1.length l1) := ⟨Kd.C_below HR1.out hb_⟩
        have m2_ : Aside0 (Kd.C k43 w5 Ap P.length P) := ⟨Kd.C_below HP.out hb_⟩
        have m3_ : Aside0 (Kd.C k43 w5 Aq P.length P) := ⟨Kd.C_below HQ2.out hb_⟩
        clear HB HR0 HR1 HP HQ2
        have HB := n0_
        have HR0 := m0_
        have HR1 := m1_
        have HP := m2_
        have HQ2 := m3_
        clear n0_ m0_ m1_ m2_ m3_
        clear hb_
        go_wp2_with fail
        refine (spec_CountKindTests.calls a s fl wk st _ true w5 HF.out.2.2.2.1).mono ?_
        rintro e_ w6 ⟨rfl, hb_⟩
        have n0_ : Aside0 (Below w.heap.size w w6) := ⟨below_step HB.out hb_⟩
        have m0_ : Aside0 (Kd.C (Kd.int .u8) w6 A0 l0.length l0) := ⟨Kd.C_below HR0.out hb_⟩
        have m1_ : Aside0 (Kd.C (Kd.int .u8) w6 A1 l1.length l1) := ⟨Kd.C_below HR1.out hb_⟩
        have m2_ : Aside0 (Kd.C k43 w6 Ap P.length P) := ⟨Kd.C_below HP.out hb_⟩
        have m3_ : Aside0 (Kd.C k43 w6 Aq P.length P) := ⟨Kd.C_below HQ2.out hb_⟩
        clear HB HR0 HR1 HP HQ2
        have HB := n0_
        have HR0 := m0_
        have HR1 := m1_
        have HP := m2_
        have HQ2 := m3_
        clear n0_ m0_ m1_ m2_ m3_
        clear hb_
        go_wp2_with fail
        refine (impl_FewestKinds.calls a s fl fw true w6 HF.out.2.2.2.2.1).mono ?_
        rintro e_ w7 ⟨rfl, hb_⟩
        have n0_ : Aside0 (Below w.heap.size w w7) := ⟨below_step HB.out hb_⟩
        have m0_ : Aside0 (Kd.C (Kd.int .u8) w7 A0 l0.length l0) := ⟨Kd.C_below HR0.out hb_⟩
        have m1_ : Aside0 (Kd.C (Kd.int .u8) w7 A1 l1.length l1) := ⟨Kd.C_below HR1.out hb_⟩
        have m2_ : Aside0 (Kd.C k43 w7 Ap P.length P) := ⟨Kd.C_below HP.out hb_⟩
        have m3_ : Aside0 (Kd.C k43 w7 Aq P.length P) := ⟨Kd.C_below HQ2.out hb_⟩
        clear HB HR0 HR1 HP HQ2
        have HB := n0_
        have HR0 := m0_
        have HR1 := m1_
        have HP := m2_
        have HQ2 := m3_
        clear n0_ m0_ m1_ m2_ m3_
        clear hb_
        go_wp2_with fail
        refine (spec_FewestKinds.calls a s fl fw true w7 HF.out.2.2.2.2.2.1).mono ?_
        rintro e_ w8 ⟨rfl, hb_⟩
        have n0_ : Aside0 (Below w.heap.size w w8) := ⟨below_step HB.out hb_⟩
        have m0_ : Aside0 (Kd.C (Kd.int .u8) w8 A0 l0.length l0) := ⟨Kd.C_below HR0.out hb_⟩
        have m1_ : Aside0 (Kd.C (Kd.int .u8) w8 A1 l1.length l1) := ⟨Kd.C_below HR1.out hb_⟩
        have m2_ : Aside0 (Kd.C k43 w8 Ap P.length P) := ⟨Kd.C_below HP.out hb_⟩
        have m3_ : Aside0 (Kd.C k43 w8 Aq P.length P) := ⟨Kd.C_below HQ2.out hb_⟩
        clear HB HR0 HR1 HP HQ2
        have HB := n0_
        have HR0 := m0_
        have HR1 := m1_
        have HP := m2_
        have HQ2 := m3_
        clear n0_ m0_ m1_ m2_ m3_
        clear hb_
        go_wp2_with fail
        refine (impl_FirstKindTest.calls a s fl kd fr fv w8 HF.out.2.2.2.2.2.2.1).mono ?_
        rintro e_ w9 ⟨rfl, hb_⟩
        have n0_ : Aside0 (Below w.heap.size w w9) := ⟨below_step HB.out hb_⟩
        have m0_ : Aside0 (Kd.C (Kd.int .u8) w9 A0 l0.length l0) := ⟨Kd.C_below HR0.out hb_⟩
        have m1_ : Aside0 (Kd.C (Kd.int .u8) w9 A1 l1.length l1) := ⟨Kd.C_below HR1.out hb_⟩
        have m2_ : Aside0 (Kd.C k43 w9 Ap P.length P) := ⟨Kd.C_below HP.out hb_⟩
        have m3_ : Aside0 (Kd.C k43 w9 Aq P.length P) := ⟨Kd.C_below HQ2.out hb_⟩
        clear HB HR0 HR1 HP HQ2
        have HB := n0_
        have HR0 := m0_
        have HR1 := m1_
        have HP := m2_
        have HQ2 := m3_
        clear n0_ m0_ m1_ m2_ m3_
        clear hb_
        go_wp2_with fail
        refine (spec_FirstKindTest.calls a s fl kd fr fv w9 HF.out.2.2.2.2.2.2.2.1).mono ?_
        rintro e_ w10 ⟨rfl, hb_⟩
        have n0_ : Aside0 (Below w.heap.size w w10) := ⟨below_step HB.out hb_⟩
        have m0_ : Aside0 (Kd.C (Kd.int .u8) w10 A0 l0.length l0) := ⟨Kd.C_below HR0.out hb_⟩
        have m1_ : Aside0 (Kd.C (Kd.int .u8) w10 A1 l1.length l1) := ⟨Kd.C_below HR1.out hb_⟩
        have m2_ : Aside0 (Kd.C k43 w10 Ap P.length P) := ⟨Kd.C_below HP.out hb_⟩
        have m3_ : Aside0 (Kd.C k43 w10 Aq P.length P) := ⟨Kd.C_below HQ2.out hb_⟩
        clear HB HR0 HR1 HP HQ2
        have HB := n0_
        have HR0 := m0_
        have HR1 := m1_
        have HP := m2_
        have HQ2 := m3_
        clear n0_ m0_ m1_ m2_ m3_
        clear hb_
        go_wp2_with fail
        refine (impl_FewestForWeak.calls a s fl al true w10 HF.out.2.2.2.2.2.2.2.2.1).mono ?_
        rintro e_ w11 ⟨rfl, hb_⟩
        have n0_ : Aside0 (Below w.heap.size w w11) := ⟨below_step HB.out hb_⟩
        have m0_ : Aside0 (Kd.C (Kd.int .u8) w11 A0 l0.length l0) := ⟨Kd.C_below HR0.out hb_⟩
        have m1_ : Aside0 (Kd.C (Kd.int .u8) w11 A1 l1.length l1) := ⟨Kd.C_below HR1.out hb_⟩
        have m2_ : Aside0 (Kd.C k43 w11 Ap P.length P) := ⟨Kd.C_below HP.out hb_⟩
        have m3_ : Aside0 (Kd.C k43 w11 Aq P.length P) := ⟨Kd.C_below HQ2.out hb_⟩
        clear HB HR0 HR1 HP HQ2
        have HB := n0_
        have HR0 := m0_
        have HR1 := m1_
        have HP := m2_
        have HQ2 := m3_
        clear n0_ m0_ m1_ m2_ m3_
        clear hb_
        go_wp2_with fail
        refine (spec_FewestForWeak.calls a s fl al true w11 HF.out.2.2.2.2.2.2.2.2.2).mono ?_
        rintro e_ w12 ⟨rfl, hb_⟩
        have n0_ : Aside0 (Below w.heap.size w w12) := ⟨below_step HB.out hb_⟩
        have m0_ : Aside0 (Kd.C (Kd.int .u8) w12 A0 l0.length l0) := ⟨Kd.C_below HR0.out hb_⟩
        have m1_ : Aside0 (Kd.C (Kd.int .u8) w12 A1 l1.length l1) := ⟨Kd.C_below HR1.out hb_⟩
        have m2_ : Aside0 (Kd.C k43 w12 Ap P.length P) := ⟨Kd.C_below HP.out hb_⟩
        have m3_ : Aside0 (Kd.C k43 w12 Aq P.length P) := ⟨Kd.C_below HQ2.out hb_⟩
        clear HB HR0 HR1 HP HQ2
        have HB := n0_
        have HR0 := m0_
        have HR1 := m1_
        have HP := m2_
        have HQ2 := m3_
        clear n0_ m0_ m1_ m2_ m3_
        clear hb_
        go_wp2_with fail
        refine (laws_iTests.calls 20 Ap cp P Aq cq P true w12 HP.out HPc.out HQ2.out HQ2c.out HIT.out).mono ?_
        rintro e_ w13 ⟨rfl, hd_⟩
        have hb_ := hd_.below
        have n0_ : Aside0 (Below w.heap.size w w13) := ⟨below_step HB.out hb_⟩
        have m0_ : Aside0 (Kd.C (Kd.int .u8) w13 A0 l0.length l0) := ⟨Kd.C_below HR0.out hb_⟩
        have m1_ : Aside0 (Kd.C (Kd.int .u8) w13 A1 l1.length l1) := ⟨Kd.C_below HR1.out hb_⟩
        have m2_ : Aside0 (Kd.C k43 w13 Ap P.length P) := ⟨Kd.C_below HP.out hb_⟩
        have m3_ : Aside0 (Kd.C k43 w13 Aq P.length P) := ⟨Kd.C_below HQ2.out hb_⟩
        clear HB HR0 HR1 HP HQ2
        have HB := n0_
        have HR0 := m0_
        have HR1 := m1_
        have HP := m2_
        have HQ2 := m3_
        clear n0_ m0_ m1_ m2_ m3_
        clear hb_ hd_
        go_wp2_with fail
        refine (impl_FewestTests.calls a fl sg true w13 HSG.out).mono ?_
        rintro e_ w14 ⟨rfl, hb_⟩
        have n0_ : Aside0 (Below w.heap.size w w14) := ⟨below_step HB.out hb_⟩
        have m0_ : Aside0 (Kd.C (Kd.int .u8) w14 A0 l0.length l0) := ⟨Kd.C_below HR0.out hb_⟩
        have m1_ : Aside0 (Kd.C (Kd.int .u8) w14 A1 l1.length l1) := ⟨Kd.C_below HR1.out hb_⟩
        have m2_ : Aside0 (Kd.C k43 w14 Ap P.length P) := ⟨Kd.C_below HP.out hb_⟩
        have m3_ : Aside0 (Kd.C k43 w14 Aq P.length P) := ⟨Kd.C_below HQ2.out hb_⟩
        clear HB HR0 HR1 HP HQ2
        have HB := n0_
        have HR0 := m0_
        have HR1 := m1_
        have HP := m2_
        have HQ2 := m3_
        clear n0_ m0_ m1_ m2_ m3_
        clear hb_
        go_wp2_with fail
        refine (impl_PairsLeft.calls 1000 fl Ap cp P [[wk, st]] true w14 HP.out HPc.out HLF.out.1).mono ?_
        rintro e_ w15 ⟨v_, rfl, ho_, hb_⟩
        obtain ⟨Al, cl, rfl⟩ := Kd.S_slice ho_
        have r_ := Kd.S_reads' ho_
        have r0_ : Aside0 (Kd.C (Kd.slice 3 (Kd.int .i64)) w15 Al ([[wk, st]] : List (List Int)).length ([[wk, st]] : List (List Int))) := ⟨r_.2.2⟩
        have r1_ : Aside0 (([[wk, st]] : List (List Int)).length ≤ cl) := ⟨r_.2.1⟩
        have n0_ : Aside0 (Below w.heap.size w w15) := ⟨below_step HB.out hb_⟩
        have m0_ : Aside0 (Kd.C (Kd.int .u8) w15 A0 l0.length l0) := ⟨Kd.C_below HR0.out hb_⟩
        have m1_ : Aside0 (Kd.C (Kd.int .u8) w15 A1 l1.length l1) := ⟨Kd.C_below HR1.out hb_⟩
        have m2_ : Aside0 (Kd.C k43 w15 Ap P.length P) := ⟨Kd.C_below HP.out hb_⟩
        have m3_ : Aside0 (Kd.C k43 w15 Aq P.length P) := ⟨Kd.C_below HQ2.out hb_⟩
        clear HB HR0 HR1 HP HQ2
        have HB := n0_
        have HR0 := m0_
        have HR1 := m1_
        have HP := m2_
        have HQ2 := m3_
        clear n0_ m0_ m1_ m2_ m3_
        have HL := r0_
        have HLc := r1_
        clear r_ r0_ r1_ ho_ hb_
        go_wp2_with fail
        refine (impl_IdleKindTests.calls 1000 fl Ap cp P [] true w15 HP.out HPc.out HLF.out.2).mono ?_
        rintro e_ w16 ⟨v_, rfl, ho_, hb_⟩
        obtain ⟨Aj, cj, rfl⟩ := Kd.R_slice ho_
        have r_ := Kd.R_reads' ho_
        have r0_ : Aside0 (Kd.C (Kd.int .i64) w16 Aj ([] : List Int).length ([] : List Int)) := ⟨r_.2.2⟩
        have r1_ : Aside0 (([] : List Int).length ≤ cj) := ⟨r_.2.1⟩
        have n0_ : Aside0 (Below w.heap.size w w16) := ⟨below_step HB.out hb_⟩
        have m0_ : Aside0 (Kd.C (Kd.int .u8) w16 A0 l0.length l0) := ⟨Kd.C_below HR0.out hb_⟩
        have m1_ : Aside0 (Kd.C (Kd.int .u8) w16 A1 l1.length l1) := ⟨Kd.C_below HR1.out hb_⟩
        have m2_ : Aside0 (Kd.C k43 w16 Ap P.length P) := ⟨Kd.C_below HP.out hb_⟩
        have m3_ : Aside0 (Kd.C k43 w16 Aq P.length P) := ⟨Kd.C_below HQ2.out hb_⟩
        have m4_ : Aside0 (Kd.C (Kd.slice 3 (Kd.int .i64)) w16 Al ([[wk, st]] : List (List Int)).length ([[wk, st]] : List (List Int))) := ⟨Kd.C_below HL.out hb_⟩
        clear HB HR0 HR1 HP HQ2 HL
        have HB := n0_
        have HR0 := m0_
        have HR1 := m1_
        have HP := m2_
        have HQ2 := m3_
        have HL := m4_
        clear n0_ m0_ m1_ m2_ m3_ m4_
        have HJ := r0_
        have HJc := r1_
        clear r_ r0_ r1_ ho_ hb_
        go_wp2_with fail
        go_loopg [38, 39, 269] P.length (fun n v38 v39 v269 w' => ∃ i : Nat, v269 = .int .i64 i ∧ v38 = .int .i64 (((P.take i).filter (fun u : S43 => u.f2 && !u.f0)).length : Int) ∧ v39 = .int .i64 (((P.take i).filter (fun u : S43 => u.f2 && u.f0)).length : Int) ∧ Aside0 (i + n = P.length) ∧ Aside0 (Below w.heap.size w w') ∧ Aside0 (Kd.C k43 w' Ap P.length P) ∧ Aside0 (Kd.C (Kd.slice 3 (Kd.int .i64)) w' Al ([[wk, st]] : List (List Int)).length [[wk, st]]) ∧ Aside0 (Kd.C (Kd.int .u8) w' A1 l1.length l1))
        case atStart => exact ⟨0, rfl, rfl, rfl, ⟨by omega⟩, HB, HP, HL, HR1⟩
        case round =>
          clear HB HP HL HR1 HR0 HQ2 HJ
          obtain ⟨i, rfl, rfl, rfl, HIx, HB, HP, HL, HR1⟩ := hrel
          by_cases hlt : i < P.length
          · have p0 : (0 : Int) ≤ (i : Int) := by omega
            have q0 : (i : Int) < (P.length : Int) := by omega
            have c0_ : decide ((i : Int) < (P.length : Int)) = true := decide_eq_true q0
            have w1_ : IntKind.i64.wrap ((i : Int) + 1) = ((i + 1 : Nat) : Int) := by rw [Hw.wrap_w (by omega) (by have := HPL.out; omega)]; omega
            obtain ⟨ad, ead, x_0, x_1, x_2⟩ := at_T43 HP.out (i : Int) p0 q0
            cases ead
            obtain ⟨el, hel⟩ : ∃ e, e = rd_T43 P (i : Int) := ⟨_, rfl⟩
            have s1 := cnt_step (fun u : S43 => u.f2 && !u.f0) P i hlt el hel
            have s2 := cnt_step (fun u : S43 => u.f2 && u.f0) P i hlt el hel
            have s3 := cnt_le (fun u : S43 => u.f2 && !u.f0) P i
            have s4 := cnt_le (fun u : S43 => u.f2 && u.f0) P i
            rw [← hel] at x_0 x_1 x_2
            obtain ⟨n1, hn1⟩ : ∃ m : Int, m = (((P.take i).filter (fun u : S43 => u.f2 && !u.f0)).length : Int) := ⟨_, rfl⟩
            obtain ⟨n2, hn2⟩ : ∃ m : Int, m = (((P.take i).filter (fun u : S43 => u.f2 && u.f0)).length : Int) := ⟨_, rfl⟩
            have w2_ : IntKind.i64.wrap (n1 + 1) = n1 + 1 := Hw.wrap_w (by omega) (by have := HPL.out; omega)
            have w3_ : IntKind.i64.wrap (n2 + 1) = n2 + 1 := Hw.wrap_w (by omega) (by have := HPL.out; omega)
            rw [← hn1] at s1
            rw [← hn2] at s2
            rw [← hn1, ← hn2]
            have HS1 := Aside0.mk s1
            have HS2 := Aside0.mk s2
            have HLT := Aside0.mk hlt
            clear s1 s2 s3 s4 hn1 hn2 hel hlt
            replace p0 := eq_true p0
            replace q0 := eq_true q0
            obtain ⟨f0, f1, f2⟩ := el
            simp only [Int.toNat_natCast] at x_0 x_1 x_2
            cases f2 <;> cases f0
            all_goals
              go_wp2
              go_roundg (P.length - (i + 1))
              case measure => have := HLT.out; have := HIx.out; omega
              case rel => exact ⟨i + 1, by go_num, by rw [HS1.out]; simp, by rw [HS2.out]; simp, ⟨by have := HLT.out; omega⟩, by first | exact ⟨below_alloc HB.out _⟩ | exact HB, by first | exact ⟨Kd.C_alloc HP.out _⟩ | exact HP, by first | exact ⟨Kd.C_alloc HL.out _⟩ | exact HL, by first | exact ⟨Kd.C_alloc HR1.out _⟩ | exact HR1⟩
          · have c0_ : decide ((i : Int) < (P.length : Int)) = false := decide_eq_false (by omega)
            have e1_ : ((P.take i).filter (fun u : S43 => u.f2 && !u.f0)).length = (P.filter (fun u : S43 => u.f2 && !u.f0)).length := by rw [List.take_of_length_le (by omega)]
            have e2_ : ((P.take i).filter (fun u : S43 => u.f2 && u.f0)).length = (P.filter (fun u : S43 => u.f2 && u.f0)).length := by rw [List.take_of_length_le (by omega)]
            rw [e1_, e2_]
            obtain ⟨n1, hn1⟩ : ∃ m : Int, m = ((P.filter (fun u : S43 => u.f2 && !u.f0)).length : Int) := ⟨_, rfl⟩
            obtain ⟨n2, hn2⟩ : ∃ m : Int, m = ((P.filter (fun u : S43 => u.f2 && u.f0)).length : Int) := ⟨_, rfl⟩
            have u2 : decide (a < n1) = false := decide_eq_false (by have := HQ.out.1; omega)
            have u3 : decide (s < n2) = false := decide_eq_false (by have := HQ.out.2.1; omega)
            rw [← hn1, ← hn2]
            clear e1_ e2_ hn1 hn2
            by_cases hp0 : 0 < P.length
            · have u4_ : decide ((0 : Int) < (P.length : Int)) = true := decide_eq_true (by omega)
              have u5_ : decide (0 < P.length) = true := decide_eq_true hp0
              have u6_ : ((0 : Int) < (P.length : Int)) = True := eq_true (by omega)
              have u7_ : (0 < P.length) = True := eq_true hp0
              obtain ⟨f1_, f2_⟩ := HQ.out.2.2 hp0
              have HP0 := Aside0.mk hp0
              clear hp0
              go_wp2_with fail
              refine (laws_iRows.calls 100 Al cl [[wk, st]] (some ⟨wr.heap.size + 1, 0, none⟩) 1 [[wk, st]] true _ (Kd.C_alloc (Kd.C_alloc HL.out _) _) HLc.out (lit_rows wr wk st) (by simp) (iRows_self _ (by simp) (by simp))).mono ?_
              rintro e_ wq ⟨rfl, hd_⟩
              have hb_ := below_step (below_alloc (below_alloc (Below.refl wr.heap.size wr) _) _) hd_.below
              have n0_ : Aside0 (Below w.heap.size w wq) := ⟨below_step HB.out hb_⟩
              have n1_ : Aside0 (Kd.C k43 wq Ap P.length P) := ⟨Kd.C_below HP.out hb_⟩
              have n2_ : Aside0 (Kd.C (Kd.int .u8) wq A1 l1.length l1) := ⟨Kd.C_below HR1.out hb_⟩
              clear HB HP HR1 HL hb_ hd_
              have HB := n0_
              have HP := n1_
              have HR1 := n2_
              clear n0_ n1_ n2_
              obtain ⟨ad, ead, x_0, x_1, x_2⟩ := at_T43 HP.out 0 (by omega) (by have := HP0.out; omega)
              cases ead
              rw [f1_] at x_0
              rw [f2_] at x_1
              replace x_0 : wq.cell? ad = some (.bool kd) := x_0
              replace x_1 : wq.cell? ⟨ad.block, ad.off + 1, none⟩ = some (.int .i64 fr) := x_1
              clear f1_ f2_ x_2
              go_wp2_with fail
              refine (spec_DrawHardestPairs.calls A1 c1 l1 x y n wq HR1.out HC1.out HD2.out).mono ?_
              rintro e_ w17 ⟨rfl, hb_⟩
              have n0_ : Aside0 (Below w.heap.size w w17) := ⟨below_step HB.out hb_⟩
              have m0_ : Aside0 (Kd.C (Kd.int .u8) w17 A1 l1.length l1) := ⟨Kd.C_below HR1.out hb_⟩
              clear HB HR1
              have HB := n0_
              have HR1 := m0_
              clear n0_ m0_
              clear hb_
              cases nn with
              | false =>
                clear HR1
                go_wp2_with fail
                refine (impl_HardestPairs.calls x y n G false w17 HG2.out.1).mono ?_
                rintro e_ w18 ⟨v_, rfl, ho_, hb_⟩
                obtain ⟨Ah, ch, rfl⟩ := Kd.S_slice ho_
                have r_ := Kd.S_reads' ho_
                have r0_ : Aside0 (Kd.C (Kd.slice 3 (Kd.int .i64)) w18 Ah G.length G) := ⟨r_.2.2⟩
                have r1_ : Aside0 (G.length ≤ ch) := ⟨r_.2.1⟩
                have n0_ : Aside0 (Below w.heap.size w w18) := ⟨below_step HB.out hb_⟩
                clear HB 
                have HB := n0_
                clear n0_ 
                have HH := r0_
                have HHc := r1_
                clear r_ r0_ r1_ ho_ hb_
                go_wp2_with fail
                refine (spec_HardestPairs.calls x y n G false w18 HG2.out.2).mono ?_
                rintro e_ w19 ⟨v_, rfl, ho_, hb_⟩
                obtain ⟨Ai, ci, rfl⟩ := Kd.S_slice ho_
                have r_ := Kd.S_reads' ho_
                have r0_ : Aside0 (Kd.C (Kd.slice 3 (Kd.int .i64)) w19 Ai G.length G) := ⟨r_.2.2⟩
                have r1_ : Aside0 (G.length ≤ ci) := ⟨r_.2.1⟩
                have n0_ : Aside0 (Below w.heap.size w w19) := ⟨below_step HB.out hb_⟩
                have m0_ : Aside0 (Kd.C (Kd.slice 3 (Kd.int .i64)) w19 Ah G.length G) := ⟨Kd.C_below HH.out hb_⟩
                clear HB HH
                have HB := n0_
                have HH := m0_
                clear n0_ m0_
                have HI := r0_
                have HIc := r1_
                clear r_ r0_ r1_ ho_ hb_
                go_wp2_with fail
                refine (laws_iRows.calls 100 Ah ch G Ai ci G true w19 HH.out HHc.out HI.out HIc.out HIR.out).mono ?_
                rintro e_ w20 ⟨rfl, hd_⟩
                have hb_ := hd_.below
                have n0_ : Aside0 (Below w.heap.size w w20) := ⟨below_step HB.out hb_⟩
                have m0_ : Aside0 (Kd.C (Kd.slice 3 (Kd.int .i64)) w20 Ah G.length G) := ⟨Kd.C_below HH.out hb_⟩
                have m1_ : Aside0 (Kd.C (Kd.slice 3 (Kd.int .i64)) w20 Ai G.length G) := ⟨Kd.C_below HI.out hb_⟩
                clear HB HH HI
                have HB := n0_
                have HH := m0_
                have HI := m1_
                clear n0_ m0_ m1_
                clear hb_ hd_
                go_wp2
                go_ret
                exact ⟨rfl, HB.out⟩
              | true =>
                clear HR1
                go_wp2_with fail
                refine (impl_HardestPairs.calls x y n G true w17 HG2.out.1).mono ?_
                rintro e_ w18 ⟨v_, rfl, ho_, hb_⟩
                obtain ⟨Ah, ch, rfl⟩ := Kd.S_slice ho_
                have r_ := Kd.S_reads' ho_
                have r0_ : Aside0 (Kd.C (Kd.slice 3 (Kd.int .i64)) w18 Ah G.length G) := ⟨r_.2.2⟩
                have r1_ : Aside0 (G.length ≤ ch) := ⟨r_.2.1⟩
                have n0_ : Aside0 (Below w.heap.size w w18) := ⟨below_step HB.out hb_⟩
                clear HB 
                have HB := n0_
                clear n0_ 
                have HH := r0_
                have HHc := r1_
                clear r_ r0_ r1_ ho_ hb_
                go_wp2_with fail
                refine (spec_HardestPairs.calls x y n G true w18 HG2.out.2).mono ?_
                rintro e_ w19 ⟨v_, rfl, ho_, hb_⟩
                obtain ⟨Ai, ci, rfl⟩ := Kd.S_slice ho_
                have r_ := Kd.S_reads' ho_
                have r0_ : Aside0 (Kd.C (Kd.slice 3 (Kd.int .i64)) w19 Ai G.length G) := ⟨r_.2.2⟩
                have r1_ : Aside0 (G.length ≤ ci) := ⟨r_.2.1⟩
                have n0_ : Aside0 (Below w.heap.size w w19) := ⟨below_step HB.out hb_⟩
                have m0_ : Aside0 (Kd.C (Kd.slice 3 (Kd.int .i64)) w19 Ah G.length G) := ⟨Kd.C_below HH.out hb_⟩
                clear HB HH
                have HB := n0_
                have HH := m0_
                clear n0_ m0_
                have HI := r0_
                have HIc := r1_
                clear r_ r0_ r1_ ho_ hb_
                go_wp2_with fail
                refine (laws_iRows.calls 100 Ah ch G Ai ci G true w19 HH.out HHc.out HI.out HIc.out HIR.out).mono ?_
                rintro e_ w20 ⟨rfl, hd_⟩
                have hb_ := hd_.below
                have n0_ : Aside0 (Below w.heap.size w w20) := ⟨below_step HB.out hb_⟩
                have m0_ : Aside0 (Kd.C (Kd.slice 3 (Kd.int .i64)) w20 Ah G.length G) := ⟨Kd.C_below HH.out hb_⟩
                have m1_ : Aside0 (Kd.C (Kd.slice 3 (Kd.int .i64)) w20 Ai G.length G) := ⟨Kd.C_below HI.out hb_⟩
                clear HB HH HI
                have HB := n0_
                have HH := m0_
                have HI := m1_
                clear n0_ m0_ m1_
                clear hb_ hd_
                obtain ⟨mst, z1, z2, z3⟩ := HNN.out (by first | rfl | trivial)
                have v1 : decide ((G.length : Int) < 1) = false := decide_eq_false (by omega)
                have HZ := Aside0.mk z3
                have HZ1 := Aside0.mk z1
                have HZ2 := Aside0.mk z2
                clear z1 z2 z3
                go_wp2_with fail
                refine (impl_FewestKinds.calls x y n mst true w20 HZ1.out).mono ?_
                rintro e_ w21 ⟨rfl, hb_⟩
                have n0_ : Aside0 (Below w.heap.size w w21) := ⟨below_step HB.out hb_⟩
                have m0_ : Aside0 (Kd.C (Kd.slice 3 (Kd.int .i64)) w21 Ah G.length G) := ⟨Kd.C_below HH.out hb_⟩
                have m1_ : Aside0 (Kd.C (Kd.slice 3 (Kd.int .i64)) w21 Ai G.length G) := ⟨Kd.C_below HI.out hb_⟩
                clear HB HH HI
                have HB := n0_
                have HH := m0_
                have HI := m1_
                clear n0_ m0_ m1_
                clear hb_
                go_wp2_with fail
                go_loopg [398] G.length (fun n v w' => ∃ i : Nat, v = .int .i64 i ∧ Aside0 (i + n = G.length) ∧ Aside0 (Below w.heap.size w w') ∧ Aside0 (Kd.C (Kd.slice 3 (Kd.int .i64)) w' Ah G.length G))
                case atStart => exact ⟨0, rfl, ⟨by omega⟩, HB, HH⟩
                case round =>
                  clear HB HH HI
                  obtain ⟨i, rfl, HIx, HB, HH⟩ := hrel
                  by_cases hlt : i < G.length
                  · have p0 : (0 : Int) ≤ (i : Int) := by omega
                    have q0 : (i : Int) < (G.length : Int) := by omega
                    have c0_ : decide ((i : Int) < (G.length : Int)) = true := decide_eq_true q0
                    have w1_ : IntKind.i64.wrap ((i : Int) + 1) = ((i + 1 : Nat) : Int) := by rw [Hw.wrap_w (by omega) (by have := HZ.out.1; omega)]; omega
                    obtain ⟨u, v, huv, hcnt⟩ := HZ.out.2 (rd_L3 G (i : Int)) (by simp only [rd_L3, Int.toNat_natCast]; rw [List.getD_eq_getElem?_getD, List.getElem?_eq_getElem hlt]; exact List.getElem_mem _)
                    obtain ⟨ad, A3, c3, e3, hx3, hl3, hi3⟩ := at_L3 HH.out (i : Int) p0 q0
                    cases e3
                    rw [huv] at hx3 hl3 hi3
                    obtain ⟨ad2, e4, cx0⟩ := Kd.at_int hi3 0 (by omega) (by simp)
                    cases e4
                    obtain ⟨ad3, e5, cx1⟩ := Kd.at_int hi3 1 (by omega) (by simp)
                    cases e5
                    have HCN := Aside0.mk hcnt
                    have HLT := Aside0.mk hlt
                    clear hcnt hi3 hlt huv
                    replace p0 := eq_true p0
                    replace q0 := eq_true q0
                    replace hx3 : wr.cell? (ad.add i) = some (.slice (some ad2) 2 c3) := hx3
                    replace cx0 : wr.cell? ad2 = some (.int .i64 u) := cx0
                    replace cx1 : wr.cell? ⟨ad2.block, ad2.off + 1, none⟩ = some (.int .i64 v) := cx1
                    go_upto_region 50 with fail
                    go_region_held3 (fun w' => w'.cell? ad2 = some (.int .i64 u) ∧ w'.cell? ⟨ad2.block, ad2.off + 1, none⟩ = some (.int .i64 v)) (exact ⟨cx0, cx1⟩) (first | (go_at_call 8; refine (impl_CountKindTests.calls x y n u v mst true _ HCN.out).mono ?_; rintro e_ w_4 ⟨rfl, hb_⟩; replace hb_ := Hx.undrew hb_; replace cx0 := pw_cell_below hb_ cx0; replace cx1 := pw_cell_below hb_ cx1; have n0_ : Aside0 (Below w.heap.size w w_4) := ⟨Hx.bb_below hb_ HB.out⟩; have n1_ : Aside0 (Kd.C (Kd.slice 3 (Kd.int .i64)) w_4 (some ad) G.length G) := ⟨Kd.C_below HH.out hb_⟩; clear HB HH hb_; have HB := n0_; have HH := n1_; clear n0_ n1_))
                    go_wp2
                    go_roundg (G.length - (i + 1))
                    case measure => have := HLT.out; have := HIx.out; omega
                    case rel => exact ⟨i + 1, by go_num, ⟨by have := HLT.out; omega⟩, by first | exact HB | exact ⟨below_drew1 HB.out⟩ | exact ⟨pw_below_drewN HB.out _⟩, by first | exact HH | exact ⟨Kd.C_drew HH.out⟩ | exact ⟨Kd.C_drewN HH.out _⟩⟩
                  · have c0_ : decide ((i : Int) < (G.length : Int)) = false := decide_eq_false (by omega)
                    go_wp2
                    go_ret
                    exact ⟨rfl, HB.out⟩
            · have u4_ : decide ((0 : Int) < (P.length : Int)) = false := decide_eq_false (by omega)
              have u5_ : decide (0 < P.length) = false := decide_eq_false hp0
              clear hp0
              go_wp2_with fail
              refine (laws_iRows.calls 100 Al cl [[wk, st]] (some ⟨wr.heap.size + 1, 0, none⟩) 1 [[wk, st]] true _ (Kd.C_alloc (Kd.C_alloc HL.out _) _) HLc.out (lit_rows wr wk st) (by simp) (iRows_self _ (by simp) (by simp))).mono ?_
              rintro e_ wq ⟨rfl, hd_⟩
              have hb_ := below_step (below_alloc (below_alloc (Below.refl wr.heap.size wr) _) _) hd_.below
              have n0_ : Aside0 (Below w.heap.size w wq) := ⟨below_step HB.out hb_⟩
              have n1_ : Aside0 (Kd.C k43 wq Ap P.length P) := ⟨Kd.C_below HP.out hb_⟩
              have n2_ : Aside0 (Kd.C (Kd.int .u8) wq A1 l1.length l1) := ⟨Kd.C_below HR1.out hb_⟩
              clear HB HP HR1 HL hb_ hd_
              have HB := n0_
              have HP := n1_
              have HR1 := n2_
              clear n0_ n1_ n2_
              go_wp2_with fail
              refine (spec_DrawHardestPairs.calls A1 c1 l1 x y n wq HR1.out HC1.out HD2.out).mono ?_
              rintro e_ w17 ⟨rfl, hb_⟩
              have n0_ : Aside0 (Below w.heap.size w w17) := ⟨below_step HB.out hb_⟩
              have m0_ : Aside0 (Kd.C (Kd.int .u8) w17 A1 l1.length l1) := ⟨Kd.C_below HR1.out hb_⟩
              clear HB HR1
              have HB := n0_
              have HR1 := m0_
              clear n0_ m0_
              clear hb_
              cases nn with
              | false =>
                clear HR1
                go_wp2_with fail
                refine (impl_HardestPairs.calls x y n G false w17 HG2.out.1).mono ?_
                rintro e_ w18 ⟨v_, rfl, ho_, hb_⟩
                obtain ⟨Ah, ch, rfl⟩ := Kd.S_slice ho_
                have r_ := Kd.S_reads' ho_
                have r0_ : Aside0 (Kd.C (Kd.slice 3 (Kd.int .i64)) w18 Ah G.length G) := ⟨r_.2.2⟩
                have r1_ : Aside0 (G.length ≤ ch) := ⟨r_.2.1⟩
                have n0_ : Aside0 (Below w.heap.size w w18) := ⟨below_step HB.out hb_⟩
                clear HB 
                have HB := n0_
                clear n0_ 
                have HH := r0_
                have HHc := r1_
                clear r_ r0_ r1_ ho_ hb_
                go_wp2_with fail
                refine (spec_HardestPairs.calls x y n G false w18 HG2.out.2).mono ?_
                rintro e_ w19 ⟨v_, rfl, ho_, hb_⟩
                obtain ⟨Ai, ci, rfl⟩ := Kd.S_slice ho_
                have r_ := Kd.S_reads' ho_
                have r0_ : Aside0 (Kd.C (Kd.slice 3 (Kd.int .i64)) w19 Ai G.length G) := ⟨r_.2.2⟩
                have r1_ : Aside0 (G.length ≤ ci) := ⟨r_.2.1⟩
                have n0_ : Aside0 (Below w.heap.size w w19) := ⟨below_step HB.out hb_⟩
                have m0_ : Aside0 (Kd.C (Kd.slice 3 (Kd.int .i64)) w19 Ah G.length G) := ⟨Kd.C_below HH.out hb_⟩
                clear HB HH
                have HB := n0_
                have HH := m0_
                clear n0_ m0_
                have HI := r0_
                have HIc := r1_
                clear r_ r0_ r1_ ho_ hb_
                go_wp2_with fail
                refine (laws_iRows.calls 100 Ah ch G Ai ci G true w19 HH.out HHc.out HI.out HIc.out HIR.out).mono ?_
                rintro e_ w20 ⟨rfl, hd_⟩
                have hb_ := hd_.below
                have n0_ : Aside0 (Below w.heap.size w w20) := ⟨below_step HB.out hb_⟩
                have m0_ : Aside0 (Kd.C (Kd.slice 3 (Kd.int .i64)) w20 Ah G.length G) := ⟨Kd.C_below HH.out hb_⟩
                have m1_ : Aside0 (Kd.C (Kd.slice 3 (Kd.int .i64)) w20 Ai G.length G) := ⟨Kd.C_below HI.out hb_⟩
                clear HB HH HI
                have HB := n0_
                have HH := m0_
                have HI := m1_
                clear n0_ m0_ m1_
                clear hb_ hd_
                go_wp2
                go_ret
                exact ⟨rfl, HB.out⟩
              | true =>
                clear HR1
                go_wp2_with fail
                refine (impl_HardestPairs.calls x y n G true w17 HG2.out.1).mono ?_
                rintro e_ w18 ⟨v_, rfl, ho_, hb_⟩
                obtain ⟨Ah, ch, rfl⟩ := Kd.S_slice ho_
                have r_ := Kd.S_reads' ho_
                have r0_ : Aside0 (Kd.C (Kd.slice 3 (Kd.int .i64)) w18 Ah G.length G) := ⟨r_.2.2⟩
                have r1_ : Aside0 (G.length ≤ ch) := ⟨r_.2.1⟩
                have n0_ : Aside0 (Below w.heap.size w w18) := ⟨below_step HB.out hb_⟩
                clear HB 
                have HB := n0_
                clear n0_ 
                have HH := r0_
                have HHc := r1_
                clear r_ r0_ r1_ ho_ hb_
                go_wp2_with fail
                refine (spec_HardestPairs.calls x y n G true w18 HG2.out.2).mono ?_
                rintro e_ w19 ⟨v_, rfl, ho_, hb_⟩
                obtain ⟨Ai, ci, rfl⟩ := Kd.S_slice ho_
                have r_ := Kd.S_reads' ho_
                have r0_ : Aside0 (Kd.C (Kd.slice 3 (Kd.int .i64)) w19 Ai G.length G) := ⟨r_.2.2⟩
                have r1_ : Aside0 (G.length ≤ ci) := ⟨r_.2.1⟩
                have n0_ : Aside0 (Below w.heap.size w w19) := ⟨below_step HB.out hb_⟩
                have m0_ : Aside0 (Kd.C (Kd.slice 3 (Kd.int .i64)) w19 Ah G.length G) := ⟨Kd.C_below HH.out hb_⟩
                clear HB HH
                have HB := n0_
                have HH := m0_
                clear n0_ m0_
                have HI := r0_
                have HIc := r1_
                clear r_ r0_ r1_ ho_ hb_
                go_wp2_with fail
                refine (laws_iRows.calls 100 Ah ch G Ai ci G true w19 HH.out HHc.out HI.out HIc.out HIR.out).mono ?_
                rintro e_ w20 ⟨rfl, hd_⟩
                have hb_ := hd_.below
                have n0_ : Aside0 (Below w.heap.size w w20) := ⟨below_step HB.out hb_⟩
                have m0_ : Aside0 (Kd.C (Kd.slice 3 (Kd.int .i64)) w20 Ah G.length G) := ⟨Kd.C_below HH.out hb_⟩
                have m1_ : Aside0 (Kd.C (Kd.slice 3 (Kd.int .i64)) w20 Ai G.length G) := ⟨Kd.C_below HI.out hb_⟩
                clear HB HH HI
                have HB := n0_
                have HH := m0_
                have HI := m1_
                clear n0_ m0_ m1_
                clear hb_ hd_
                obtain ⟨mst, z1, z2, z3⟩ := HNN.out (by first | rfl | trivial)
                have v1 : decide ((G.length : Int) < 1) = false := decide_eq_false (by omega)
                have HZ := Aside0.mk z3
                have HZ1 := Aside0.mk z1
                have HZ2 := Aside0.mk z2
                clear z1 z2 z3
                go_wp2_with fail
                refine (impl_FewestKinds.calls x y n mst true w20 HZ1.out).mono ?_
                rintro e_ w21 ⟨rfl, hb_⟩
                have n0_ : Aside0 (Below w.heap.size w w21) := ⟨below_step HB.out hb_⟩
                have m0_ : Aside0 (Kd.C (Kd.slice 3 (Kd.int .i64)) w21 Ah G.length G) := ⟨Kd.C_below HH.out hb_⟩
                have m1_ : Aside0 (Kd.C (Kd.slice 3 (Kd.int .i64)) w21 Ai G.length G) := ⟨Kd.C_below HI.out hb_⟩
                clear HB HH HI
                have HB := n0_
                have HH := m0_
                have HI := m1_
                clear n0_ m0_ m1_
                clear hb_
                go_wp2_with fail
                go_loopg [398] G.length (fun n v w' => ∃ i : Nat, v = .int .i64 i ∧ Aside0 (i + n = G.length) ∧ Aside0 (Below w.heap.size w w') ∧ Aside0 (Kd.C (Kd.slice 3 (Kd.int .i64)) w' Ah G.length G))
                case atStart => exact ⟨0, rfl, ⟨by omega⟩, HB, HH⟩
                case round =>
                  clear HB HH HI
                  obtain ⟨i, rfl, HIx, HB, HH⟩ := hrel
                  by_cases hlt : i < G.length
                  · have p0 : (0 : Int) ≤ (i : Int) := by omega
                    have q0 : (i : Int) < (G.length : Int) := by omega
                    have c0_ : decide ((i : Int) < (G.length : Int)) = true := decide_eq_true q0
                    have w1_ : IntKind.i64.wrap ((i : Int) + 1) = ((i + 1 : Nat) : Int) := by rw [Hw.wrap_w (by omega) (by have := HZ.out.1; omega)]; omega
                    obtain ⟨u, v, huv, hcnt⟩ := HZ.out.2 (rd_L3 G (i : Int)) (by simp only [rd_L3, Int.toNat_natCast]; rw [List.getD_eq_getElem?_getD, List.getElem?_eq_getElem hlt]; exact List.getElem_mem _)
                    obtain ⟨ad, A3, c3, e3, hx3, hl3, hi3⟩ := at_L3 HH.out (i : Int) p0 q0
                    cases e3
                    rw [huv] at hx3 hl3 hi3
                    obtain ⟨ad2, e4, cx0⟩ := Kd.at_int hi3 0 (by omega) (by simp)
                    cases e4
                    obtain ⟨ad3, e5, cx1⟩ := Kd.at_int hi3 1 (by omega) (by simp)
                    cases e5
                    have HCN := Aside0.mk hcnt
                    have HLT := Aside0.mk hlt
                    clear hcnt hi3 hlt huv
                    replace p0 := eq_true p0
                    replace q0 := eq_true q0
                    replace hx3 : wr.cell? (ad.add i) = some (.slice (some ad2) 2 c3) := hx3
                    replace cx0 : wr.cell? ad2 = some (.int .i64 u) := cx0
                    replace cx1 : wr.cell? ⟨ad2.block, ad2.off + 1, none⟩ = some (.int .i64 v) := cx1
                    go_upto_region 50 with fail
                    go_region_held3 (fun w' => w'.cell? ad2 = some (.int .i64 u) ∧ w'.cell? ⟨ad2.block, ad2.off + 1, none⟩ = some (.int .i64 v)) (exact ⟨cx0, cx1⟩) (first | (go_at_call 8; refine (impl_CountKindTests.calls x y n u v mst true _ HCN.out).mono ?_; rintro e_ w_4 ⟨rfl, hb_⟩; replace hb_ := Hx.undrew hb_; replace cx0 := pw_cell_below hb_ cx0; replace cx1 := pw_cell_below hb_ cx1; have n0_ : Aside0 (Below w.heap.size w w_4) := ⟨Hx.bb_below hb_ HB.out⟩; have n1_ : Aside0 (Kd.C (Kd.slice 3 (Kd.int .i64)) w_4 (some ad) G.length G) := ⟨Kd.C_below HH.out hb_⟩; clear HB HH hb_; have HB := n0_; have HH := n1_; clear n0_ n1_))
                    go_wp2
                    go_roundg (G.length - (i + 1))
                    case measure => have := HLT.out; have := HIx.out; omega
                    case rel => exact ⟨i + 1, by go_num, ⟨by have := HLT.out; omega⟩, by first | exact HB | exact ⟨below_drew1 HB.out⟩ | exact ⟨pw_below_drewN HB.out _⟩, by first | exact HH | exact ⟨Kd.C_drew HH.out⟩ | exact ⟨Kd.C_drewN HH.out _⟩⟩
                  · have c0_ : decide ((i : Int) < (G.length : Int)) = false := decide_eq_false (by omega)
                    go_wp2
                    go_ret
                    exact ⟨rfl, HB.out⟩
end Go.Proofs.Ytibapicnljedcab.Q
