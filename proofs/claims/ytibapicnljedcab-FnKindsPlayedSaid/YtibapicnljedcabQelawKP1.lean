/- Plain lemmas of this session: what the printed functions answer. -/
import Derived.Test.YtibapicnljedcabQx0
import Derived.Test.YtibapicnljedcabQx1
import Derived.Test.YtibapicnljedcabQx10
import Derived.Test.YtibapicnljedcabQx11
import Derived.Test.YtibapicnljedcabQx12
import Derived.Test.YtibapicnljedcabQx2
import Derived.Test.YtibapicnljedcabQx3
import Derived.Test.YtibapicnljedcabQx4
import Derived.Test.YtibapicnljedcabQx5
import Derived.Test.YtibapicnljedcabQx6
import Derived.Test.YtibapicnljedcabQx7
import Derived.Test.YtibapicnljedcabQx8
import Derived.Test.YtibapicnljedcabQx9
import Derived.Test.YtibapicnljedcabHw
import Derived.Test.YtibapicnljedcabQedraw
import Derived.Test.YtibapicnljedcabQefew
import Derived.Test.YtibapicnljedcabQeidle
import Derived.Test.YtibapicnljedcabQekplay
import Derived.Test.YtibapicnljedcabQekpure
import Derived.Test.YtibapicnljedcabQekplaw
import Derived.Test.YtibapicnljedcabQelawKP0
namespace Go.Proofs.Ytibapicnljedcab.Q
open Go.RowKit Go.Proofs.YtibapicnljedcabW.PrintWords Go.Proofs.YtibapicnljedcabW.PrintLast Go.Proofs.YtibapicnljedcabW.PrintMore
set_option linter.unusedVariables false
set_option linter.unusedSimpArgs false
/-! ### FnKindsPlayed where the pair is none -/
set_option maxHeartbeats 8000000 in
set_option maxRecDepth 100000 in
theorem kpS1 (A0 : Option Addr) (c0 : Nat) (l0 : List Int) (A1 : Option Addr) (c1 : Nat) (l1 : List Int) (w : World) (hr0 : Kd.C (Kd.int .u8) w A0 l0.length l0) (hc0 : l0.length ≤ c0) (hr1 : Kd.C (Kd.int .u8) w A1 l1.length l1) (hc1 : l1.length ≤ c1)
    (a s fl wk st x y n : Int) (hd : spec_DrawPlayKinds.f l0 = some (a, s, fl, wk, st)) (hd2 : spec_DrawHardestPairs.f l1 = some (x, y, n)) (hbg : laws_big.f l0 l1 = some false) (P : List S43) (ct fw : Int) (kd : Bool) (fr : Int) (fv : Bool) (al : Int)
    (F : impl_PlayKinds.f a s fl wk st = some (P, false) ∧ spec_PlayKinds.f a s fl wk st = some (P, false) ∧ impl_CountKindTests.f a s fl wk st = some (ct, false) ∧ spec_CountKindTests.f a s fl wk st = some (ct, false) ∧ impl_FewestKinds.f a s fl = some (fw, true) ∧ spec_FewestKinds.f a s fl = some (fw, true) ∧ impl_FirstKindTest.f a s fl = some (kd, fr, fv) ∧ spec_FirstKindTest.f a s fl = some (kd, fr, fv) ∧ impl_FewestForWeak.f a s fl = some (al, true) ∧ spec_FewestForWeak.f a s fl = some (al, true))
    (hpl : P.length ≤ 12) (G : List (List Int)) (nn : Bool) (hg : impl_HardestPairs.f x y n = some (G, nn) ∧ spec_HardestPairs.f x y n = some (G, nn)) (hir : laws_iRows.f 100 G G = some true)
    (hnnf : nn = true → ∃ mst, impl_FewestKinds.f x y n = some (mst, true) ∧ 1 ≤ G.length ∧ G.length ≤ 56 ∧ ∀ p ∈ G, ∃ u v, p = [u, v] ∧ impl_CountKindTests.f x y n u v = some (mst, true))
    (sg : Int) (hsg : impl_FewestTests.f a fl = some (sg, true)) (t1 : decide (fw < al) = false) (t2 : decide (al < 0) = false) (t3 : decide (sg < al) = false) (t4 : decide (0 < fl) = fv) (b6 : Bool) (t5 : (fw == 0) = b6) (t6 : (fl == 0) = b6) :
    Calls Try.prog 3 #[.slice A0 l0.length c0, .slice A1 l1.length c1] w fun e w' => e = .returned (.bool true) ∧ Below w.heap.size w w' := by
        have HD := Aside0.mk hd
        have HD2 := Aside0.mk hd2
        have HBG := Aside0.mk hbg
        have HR0 := Aside0.mk hr0
        have HC0 := Aside0.mk hc0
        have HR1 := Aside0.mk hr1
        have HC1 := Aside0.mk hc1
        have HF := Aside0.mk F
        have HG2 := Aside0.mk hg
        have HNN := Aside0.mk hnnf
        have HPL := Aside0.mk hpl
        have HIT := Aside0.mk (iTests_self P (by omega))
        have HIR := Aside0.mk hir
        have HB := Aside0.mk (Below.refl w.heap.size w)
        clear hr0 hc0 hr1 hc1 hd hd2 hbg F hg hir hnnf hpl
        have HSG := Aside0.mk hsg
        clear hsg
        go_enter Try.func3, Try.ntmps3
        go_wp2_with fail
        refine (laws_big.calls A0 c0 l0 A1 c1 l1 false w HR0.out HC0.out HR1.out HC1.out HBG.out).mono ?_
        rintro e_ w1 ⟨rfl, hd_⟩
        have hb_ := hd_.below
        have n0_ : Aside0 (Below w.heap.size w w1) := ⟨below_step HB.out hb_⟩
        have m0_ : Aside0 (Kd.C (Kd.int .u8) w1 A0 l0.length l0) := ⟨Kd.C_below HR0.out hb_⟩
        have m1_ : Aside0 (Kd.C (Kd.int .u8) w1 A1 l1.length l1) := ⟨Kd.C_below HR1.out hb_⟩
        clear HB HR0 HR1
        have HB := n0_
        have HR0 := m0_
        have HR1 := m1_
        clear n0_ m0_ m1_
        clear hb_ hd_
        go_wp2_with fail
        refine (spec_DrawPlayKinds.calls A0 c0 l0 a s fl wk st w1 HR0.out HC0.out HD.out).mono ?_
        rintro e_ w2 ⟨rfl, hb_⟩
        have n0_ : Aside0 (Below w.heap.size w w2) := ⟨below_step HB.out hb_⟩
        have m0_ : Aside0 (Kd.C (Kd.int .u8) w2 A0 l0.length l0) := ⟨Kd.C_below HR0.out hb_⟩
        have m1_ : Aside0 (Kd.C (Kd.int .u8) w2 A1 l1.length l1) := ⟨Kd.C_below HR1.out hb_⟩
        clear HB HR0 HR1
        have HB := n0_
        have HR0 := m0_
        have HR1 := m1_
        clear n0_ m0_ m1_
        clear hb_
        go_wp2_with fail
        refine (impl_PlayKinds.calls a s fl wk st P false w2 HF.out.1).mono ?_
        rintro e_ w3 ⟨v_, rfl, ho_, hb_⟩
        obtain ⟨Ap, cp, rfl⟩ := Kd.R_slice ho_
        have r_ := Kd.R_reads' ho_
        have r0_ : Aside0 (Kd.C k43 w3 Ap P.length P) := ⟨r_.2.2⟩
        have r1_ : Aside0 (P.length ≤ cp) := ⟨r_.2.1⟩
        have n0_ : Aside0 (Below w.heap.size w w3) := ⟨below_step HB.out hb_⟩
        have m0_ : Aside0 (Kd.C (Kd.int .u8) w3 A0 l0.length l0) := ⟨Kd.C_below HR0.out hb_⟩
        have m1_ : Aside0 (Kd.C (Kd.int .u8) w3 A1 l1.length l1) := ⟨Kd.C_below HR1.out hb_⟩
        clear HB HR0 HR1
        have HB := n0_
        have HR0 := m0_
        have HR1 := m1_
        clear n0_ m0_ m1_
        have HP := r0_
        have HPc := r1_
        clear r_ r0_ r1_ ho_ hb_
        go_wp2_with fail
        refine (spec_PlayKinds.calls a s fl wk st P false w3 HF.out.2.1).mono ?_
        rintro e_ w4 ⟨v_, rfl, ho_, hb_⟩
        obtain ⟨Aq, cq, rfl⟩ := Kd.R_slice ho_
        have r_ := Kd.R_reads' ho_
        have r0_ : Aside0 (Kd.C k43 w4 Aq P.length P) := ⟨r_.2.2⟩
        have r1_ : Aside0 (P.length ≤ cq) := ⟨r_.2.1⟩
        have n0_ : Aside0 (Below w.heap.size w w4) := ⟨below_step HB.out hb_⟩
        have m0_ : Aside0 (Kd.C (Kd.int .u8) w4 A0 l0.length l0) := ⟨Kd.C_below HR0.out hb_⟩
        have m1_ : Aside0 (Kd.C (Kd.int .u8) w4 A1 l1.length l1) := ⟨Kd.C_below HR1.out hb_⟩
        have m2_ : Aside0 (Kd.C k43 w4 Ap P.length P) := ⟨Kd.C_below HP.out hb_⟩
        clear HB HR0 HR1 HP
        have HB := n0_
        have HR0 := m0_
        have HR1 := m1_
        have HP := m2_
        clear n0_ m0_ m1_ m2_
        have HQ2 := r0_
        have HQ2c := r1_
        clear r_ r0_ r1_ ho_ hb_
        go_wp2_with fail
        refine (impl_CountKindTests.calls a s fl wk st _ false w4 HF.out.2.2.1).mono ?_
        rintro e_ w5 ⟨rfl, hb_⟩
        have n0_ : Aside0 (Below w.heap.size w w5) := ⟨below_step HB.out hb_⟩
        have m0_ : Aside0 (Kd.C (Kd.int .u8) w5 A0 l0.length l0) := ⟨Kd.C_below HR0.out hb_⟩
        have m1_ : Aside0 (Kd.C (Kd.int .u8) w5 A1 l1.length l1) := ⟨Kd.C_below HR1.out hb_⟩
        have m2_ : Aside0 (Kd.C k43 w5 Ap P.length P) := ⟨Kd.C_below HP.out hb_⟩
        have m3_ : Aside0 (Kd.C k43 w5 Aq P.length P) := ⟨Kd.C_below HQ2.out hb_⟩
        clear HB HR0 HR1 HP HQ2
        have HB := n0_
        have HR0 := m0_
        have HR1 := m1_
        have HP := m2_
        have HQ2 := m3_
        clear n0_ m0_ m1_ m2_ m3_
        clear hb_
        go_wp2_with fail
        refine (spec_CountKindTests.calls a s fl wk st _ false w5 HF.out.2.2.2.1).mono ?_
        rintro e_ w6 ⟨rfl, hb_⟩
        have n0_ : Aside0 (Below w.heap.size w w6) := ⟨below_step HB.out hb_⟩
        have m0_ : Aside0 (Kd.C (Kd.int .u8) w6 A0 l0.length l0) := ⟨Kd.C_below HR0.out hb_⟩
        have m1_ : Aside0 (Kd.C (Kd.int .u8) w6 A1 l1.length l1) := ⟨Kd.C_below HR1.out hb_⟩
        have m2_ : Aside0 (Kd.C k43 w6 Ap P.length P) := ⟨Kd.C_below HP.out hb_⟩
        have m3_ : Aside0 (Kd.C k43 w6 Aq P.length P) := ⟨Kd.C_below HQ2.out hb_⟩
        clear HB HR0 HR1 HP HQ2
        have HB := n0_
        have HR0 := m0_
        have HR1 := m1_
        have HP := m2_
        have HQ2 := m3_
        clear n0_ m0_ m1_ m2_ m3_
        clear hb_
        go_wp2_with fail
        refine (impl_FewestKinds.calls a s fl fw true w6 HF.out.2.2.2.2.1).mono ?_
        rintro e_ w7 ⟨rfl, hb_⟩
        have n0_ : Aside0 (Below w.heap.size w w7) := ⟨below_step HB.out hb_⟩
        have m0_ : Aside0 (Kd.C (Kd.int .u8) w7 A0 l0.length l0) := ⟨Kd.C_below HR0.out hb_⟩
        have m1_ : Aside0 (Kd.C (Kd.int .u8) w7 A1 l1.length l1) := ⟨Kd.C_below HR1.out hb_⟩
        have m2_ : Aside0 (Kd.C k43 w7 Ap P.length P) := ⟨Kd.C_below HP.out hb_⟩
        have m3_ : Aside0 (Kd.C k43 w7 Aq P.length P) := ⟨Kd.C_below HQ2.out hb_⟩
        clear HB HR0 HR1 HP HQ2
        have HB := n0_
        have HR0 := m0_
        have HR1 := m1_
        have HP := m2_
        have HQ2 := m3_
        clear n0_ m0_ m1_ m2_ m3_
        clear hb_
        go_wp2_with fail
        refine (spec_FewestKinds.calls a s fl fw true w7 HF.out.2.2.2.2.2.1).mono ?_
        rintro e_ w8 ⟨rfl, hb_⟩
        have n0_ : Aside0 (Below w.heap.size w w8) := ⟨below_step HB.out hb_⟩
        have m0_ : Aside0 (Kd.C (Kd.int .u8) w8 A0 l0.length l0) := ⟨Kd.C_below HR0.out hb_⟩
        have m1_ : Aside0 (Kd.C (Kd.int .u8) w8 A1 l1.length l1) := ⟨Kd.C_below HR1.out hb_⟩
        have m2_ : Aside0 (Kd.C k43 w8 Ap P.length P) := ⟨Kd.C_below HP.out hb_⟩
        have m3_ : Aside0 (Kd.C k43 w8 Aq P.length P) := ⟨Kd.C_below HQ2.out hb_⟩
        clear HB HR0 HR1 HP HQ2
        have HB := n0_
        have HR0 := m0_
        have HR1 := m1_
        have HP := m2_
        have HQ2 := m3_
        clear n0_ m0_ m1_ m2_ m3_
        clear hb_
        go_wp2_with fail
        refine (impl_FirstKindTest.calls a s fl kd fr fv w8 HF.out.2.2.2.2.2.2.1).mono ?_
        rintro e_ w9 ⟨rfl, hb_⟩
        have n0_ : Aside0 (Below w.heap.size w w9) := ⟨below_step HB.out hb_⟩
        have m0_ : Aside0 (Kd.C (Kd.int .u8) w9 A0 l0.length l0) := ⟨Kd.C_below HR0.out hb_⟩
        have m1_ : Aside0 (Kd.C (Kd.int .u8) w9 A1 l1.length l1) := ⟨Kd.C_below HR1.out hb_⟩
        have m2_ : Aside0 (Kd.C k43 w9 Ap P.length P) := ⟨Kd.C_below HP.out hb_⟩
        have m3_ : Aside0 (Kd.C k43 w9 Aq P.length P) := ⟨Kd.C_below HQ2.out hb_⟩
        clear HB HR0 HR1 HP HQ2
        have HB := n0_
        have HR0 := m0_
        have HR1 := m1_
        have HP := m2_
        have HQ2 := m3_
        clear n0_ m0_ m1_ m2_ m3_
        clear hb_
        go_wp2_with fail
        refine (spec_FirstKindTest.calls a s fl kd fr fv w9 HF.out.2.2.2.2.2.2.2.1).mono ?_
        rintro e_ w10 ⟨rfl, hb_⟩
        have n0_ : Aside0 (Below w.heap.size w w10) := ⟨below_step HB.out hb_⟩
        have m0_ : Aside0 (Kd.C (Kd.int .u8) w10 A0 l0.length l0) := ⟨Kd.C_below HR0.out hb_⟩
        have m1_ : Aside0 (Kd.C (Kd.int .u8) w10 A1 l1.length l1) := ⟨Kd.C_below HR1.out hb_⟩
        have m2_ : Aside0 (Kd.C k43 w10 Ap P.length P) := ⟨Kd.C_below HP.out hb_⟩
        have m3_ : Aside0 (Kd.C k43 w10 Aq P.length P) := ⟨Kd.C_below HQ2.out hb_⟩
        clear HB HR0 HR1 HP HQ2
        have HB := n0_
        have HR0 := m0_
        have HR1 := m1_
        have HP := m2_
        have HQ2 := m3_
        clear n0_ m0_ m1_ m2_ m3_
        clear hb_
        go_wp2_with fail
        refine (impl_FewestForWeak.calls a s fl al true w10 HF.out.2.2.2.2.2.2.2.2.1).mono ?_
        rintro e_ w11 ⟨rfl, hb_⟩
        have n0_ : Aside0 (Below w.heap.size w w11) := ⟨below_step HB.out hb_⟩
        have m0_ : Aside0 (Kd.C (Kd.int .u8) w11 A0 l0.length l0) := ⟨Kd.C_below HR0.out hb_⟩
        have m1_ : Aside0 (Kd.C (Kd.int .u8) w11 A1 l1.length l1) := ⟨Kd.C_below HR1.out hb_⟩
        have m2_ : Aside0 (Kd.C k43 w11 Ap P.length P) := ⟨Kd.C_below HP.out hb_⟩
        have m3_ : Aside0 (Kd.C k43 w11 Aq P.length P) := ⟨Kd.C_below HQ2.out hb_⟩
        clear HB HR0 HR1 HP HQ2
        have HB := n0_
        have HR0 := m0_
        have HR1 := m1_
        have HP := m2_
        have HQ2 := m3_
        clear n0_ m0_ m1_ m2_ m3_
        clear hb_
        go_wp2_with fail
        refine (spec_FewestForWeak.calls a s fl al true w11 HF.out.2.2.2.2.2.2.2.2.2).mono ?_
        rintro e_ w12 ⟨rfl, hb_⟩
        have n0_ : Aside0 (Below w.heap.size w w12) := ⟨below_step HB.out hb_⟩
        have m0_ : Aside0 (Kd.C (Kd.int .u8) w12 A0 l0.length l0) := ⟨Kd.C_below HR0.out hb_⟩
        have m1_ : Aside0 (Kd.C (Kd.int .u8) w12 A1 l1.length l1) := ⟨Kd.C_below HR1.out hb_⟩
        have m2_ : Aside0 (Kd.C k43 w12 Ap P.length P) := ⟨Kd.C_below HP.out hb_⟩
        have m3_ : Aside0 (Kd.C k43 w12 Aq P.length P) := ⟨Kd.C_below HQ2.out hb_⟩
        clear HB HR0 HR1 HP HQ2
        have HB := n0_
        have HR0 := m0_
        have HR1 := m1_
        have HP := m2_
        have HQ2 := m3_
        clear n0_ m0_ m1_ m2_ m3_
        clear hb_
        go_wp2_with fail
        refine (laws_iTests.calls 20 Ap cp P Aq cq P true w12 HP.out HPc.out HQ2.out HQ2c.out HIT.out).mono ?_
        rintro e_ w13 ⟨rfl, hd_⟩
        have hb_ := hd_.below
        have n0_ : Aside0 (Below w.heap.size w w13) := ⟨below_step HB.out hb_⟩
        have m0_ : Aside0 (Kd.C (Kd.int .u8) w13 A0 l0.length l0) := ⟨Kd.C_below HR0.out hb_⟩
        have m1_ : Aside0 (Kd.C (Kd.int .u8) w13 A1 l1.length l1) := ⟨Kd.C_below HR1.out hb_⟩
        have m2_ : Aside0 (Kd.C k43 w13 Ap P.length P) := ⟨Kd.C_below HP.out hb_⟩
        have m3_ : Aside0 (Kd.C k43 w13 Aq P.length P) := ⟨Kd.C_below HQ2.out hb_⟩
        clear HB HR0 HR1 HP HQ2
        have HB := n0_
        have HR0 := m0_
        have HR1 := m1_
        have HP := m2_
        have HQ2 := m3_
        clear n0_ m0_ m1_ m2_ m3_
        clear hb_ hd_
        go_wp2_with fail
        refine (impl_FewestTests.calls a fl sg true w13 HSG.out).mono ?_
        rintro e_ w14 ⟨rfl, hb_⟩
        have n0_ : Aside0 (Below w.heap.size w w14) := ⟨below_step HB.out hb_⟩
        have m0_ : Aside0 (Kd.C (Kd.int .u8) w14 A0 l0.length l0) := ⟨Kd.C_below HR0.out hb_⟩
        have m1_ : Aside0 (Kd.C (Kd.int .u8) w14 A1 l1.length l1) := ⟨Kd.C_below HR1.out hb_⟩
        have m2_ : Aside0 (Kd.C k43 w14 Ap P.length P) := ⟨Kd.C_below HP.out hb_⟩
        have m3_ : Aside0 (Kd.C k43 w14 Aq P.length P) := ⟨Kd.C_below HQ2.out hb_⟩
        clear HB HR0 HR1 HP HQ2
        have HB := n0_
        have HR0 := m0_
        have HR1 := m1_
        have HP := m2_
        have HQ2 := m3_
        clear n0_ m0_ m1_ m2_ m3_
        clear hb_
        clear HR0
        clear HP
        clear HQ2
        go_wp2_with fail
        refine (spec_DrawHardestPairs.calls A1 c1 l1 x y n w14 HR1.out HC1.out HD2.out).mono ?_
        rintro e_ w15 ⟨rfl, hb_⟩
        have n0_ : Aside0 (Below w.heap.size w w15) := ⟨below_step HB.out hb_⟩
        have m0_ : Aside0 (Kd.C (Kd.int .u8) w15 A1 l1.length l1) := ⟨Kd.C_below HR1.out hb_⟩
        clear HB HR1
        have HB := n0_
        have HR1 := m0_
        clear n0_ m0_
        clear hb_
        cases nn with
        | false =>
          clear HR1
          go_wp2_with fail
          refine (impl_HardestPairs.calls x y n G false w15 HG2.out.1).mono ?_
          rintro e_ w16 ⟨v_, rfl, ho_, hb_⟩
          obtain ⟨Ah, ch, rfl⟩ := Kd.S_slice ho_
          have r_ := Kd.S_reads' ho_
          have r0_ : Aside0 (Kd.C (Kd.slice 3 (Kd.int .i64)) w16 Ah G.length G) := ⟨r_.2.2⟩
          have r1_ : Aside0 (G.length ≤ ch) := ⟨r_.2.1⟩
          have n0_ : Aside0 (Below w.heap.size w w16) := ⟨below_step HB.out hb_⟩
          clear HB 
          have HB := n0_
          clear n0_ 
          have HH := r0_
          have HHc := r1_
          clear r_ r0_ r1_ ho_ hb_
          go_wp2_with fail
          refine (spec_HardestPairs.calls x y n G false w16 HG2.out.2).mono ?_
          rintro e_ w17 ⟨v_, rfl, ho_, hb_⟩
          obtain ⟨Ai, ci, rfl⟩ := Kd.S_slice ho_
          have r_ := Kd.S_reads' ho_
          have r0_ : Aside0 (Kd.C (Kd.slice 3 (Kd.int .i64)) w17 Ai G.length G) := ⟨r_.2.2⟩
          have r1_ : Aside0 (G.length ≤ ci) := ⟨r_.2.1⟩
          have n0_ : Aside0 (Below w.heap.size w w17) := ⟨below_step HB.out hb_⟩
          have m0_ : Aside0 (Kd.C (Kd.slice 3 (Kd.int .i64)) w17 Ah G.length G) := ⟨Kd.C_below HH.out hb_⟩
          clear HB HH
          have HB := n0_
          have HH := m0_
          clear n0_ m0_
          have HI := r0_
          have HIc := r1_
          clear r_ r0_ r1_ ho_ hb_
          go_wp2_with fail
          refine (laws_iRows.calls 100 Ah ch G Ai ci G true w17 HH.out HHc.out HI.out HIc.out HIR.out).mono ?_
          rintro e_ w18 ⟨rfl, hd_⟩
          have hb_ := hd_.below
          have n0_ : Aside0 (Below w.heap.size w w18) := ⟨below_step HB.out hb_⟩
          have m0_ : Aside0 (Kd.C (Kd.slice 3 (Kd.int .i64)) w18 Ah G.length G) := ⟨Kd.C_below HH.out hb_⟩
          have m1_ : Aside0 (Kd.C (Kd.slice 3 (Kd.int .i64)) w18 Ai G.length G) := ⟨Kd.C_below HI.out hb_⟩
          clear HB HH HI
          have HB := n0_
          have HH := m0_
          have HI := m1_
          clear n0_ m0_ m1_
          clear hb_ hd_
          go_wp2
          go_ret
          exact ⟨rfl, HB.out⟩
        | true =>
          clear HR1
          go_wp2_with fail
          refine (impl_HardestPairs.calls x y n G true w15 HG2.out.1).mono ?_
          rintro e_ w16 ⟨v_, rfl, ho_, hb_⟩
          obtain ⟨Ah, ch, rfl⟩ := Kd.S_slice ho_
          have r_ := Kd.S_reads' ho_
          have r0_ : Aside0 (Kd.C (Kd.slice 3 (Kd.int .i64)) w16 Ah G.length G) := ⟨r_.2.2⟩
          have r1_ : Aside0 (G.length ≤ ch) := ⟨r_.2.1⟩
          have n0_ : Aside0 (Below w.heap.size w w16) := ⟨below_step HB.out hb_⟩
          clear HB 
          have HB := n0_
          clear n0_ 
          have HH := r0_
          have HHc := r1_
          clear r_ r0_ r1_ ho_ hb_
          go_wp2_with fail
          refine (spec_HardestPairs.calls x y n G true w16 HG2.out.2).mono ?_
          rintro e_ w17 ⟨v_, rfl, ho_, hb_⟩
          obtain ⟨Ai, ci, rfl⟩ := Kd.S_slice ho_
          have r_ := Kd.S_reads' ho_
          have r0_ : Aside0 (Kd.C (Kd.slice 3 (Kd.int .i64)) w17 Ai G.length G) := ⟨r_.2.2⟩
          have r1_ : Aside0 (G.length ≤ ci) := ⟨r_.2.1⟩
          have n0_ : Aside0 (Below w.heap.size w w17) := ⟨below_step HB.out hb_⟩
          have m0_ : Aside0 (Kd.C (Kd.slice 3 (Kd.int .i64)) w17 Ah G.length G) := ⟨Kd.C_below HH.out hb_⟩
          clear HB HH
          have HB := n0_
          have HH := m0_
          clear n0_ m0_
          have HI := r0_
          have HIc := r1_
          clear r_ r0_ r1_ ho_ hb_
          go_wp2_with fail
          refine (laws_iRows.calls 100 Ah ch G Ai ci G true w17 HH.out HHc.out HI.out HIc.out HIR.out).mono ?_
          rintro e_ w18 ⟨rfl, hd_⟩
          have hb_ := hd_.below
          have n0_ : Aside0 (Below w.heap.size w w18) := ⟨below_step HB.out hb_⟩
          have m0_ : Aside0 (Kd.C (Kd.slice 3 (Kd.int .i64)) w18 Ah G.length G) := ⟨Kd.C_below HH.out hb_⟩
          have m1_ : Aside0 (Kd.C (Kd.slice 3 (Kd.int .i64)) w18 Ai G.length G) := ⟨Kd.C_below HI.out hb_⟩
          clear HB HH HI
          have HB := n0_
          have HH := m0_
          have HI := m1_
          clear n0_ m0_ m1_
          clear hb_ hd_
          obtain ⟨mst, z1, z2, z3⟩ := HNN.out (by first | rfl | trivial)
          have v1 : decide ((G.length : Int) < 1) = false := decide_eq_false (by omega)
          have HZ := Aside0.mk z3
          have HZ1 := Aside0.mk z1
          have HZ2 := Aside0.mk z2
          clear z1 z2 z3
          go_wp2_with fail
          refine (impl_FewestKinds.calls x y n mst true w18 HZ1.out).mono ?_
          rintro e_ w19 ⟨rfl, hb_⟩
          have n0_ : Aside0 (Below w.heap.size w w19) := ⟨below_step HB.out hb_⟩
          have m0_ : Aside0 (Kd.C (Kd.slice 3 (Kd.int .i64)) w19 Ah G.length G) := ⟨Kd.C_below HH.out hb_⟩
          have m1_ : Aside0 (Kd.C (Kd.slice 3 (Kd.int .i64)) w19 Ai G.length G) := ⟨Kd.C_below HI.out hb_⟩
          clear HB HH HI
          have HB := n0_
          have HH := m0_
          have HI := m1_
          clear n0_ m0_ m1_
          clear hb_
          go_wp2_with fail
          go_loopg [398] G.length (fun n v w' => ∃ i : Nat, v = .int .i64 i ∧ Aside0 (i + n = G.length) ∧ Aside0 (Below w.heap.size w w') ∧ Aside0 (Kd.C (Kd.slice 3 (Kd.int .i64)) w' Ah G.length G))
          case atStart => exact ⟨0, rfl, ⟨by omega⟩, HB, HH⟩
          case round =>
            clear HB HH HI
            obtain ⟨i, rfl, HIx, HB, HH⟩ := hrel
            by_cases hlt : i < G.length
            · have p0 : (0 : Int) ≤ (i : Int) := by omega
              have q0 : (i : Int) < (G.length : Int) := by omega
              have c0_ : decide ((i : Int) < (G.length : Int)) = true := decide_eq_true q0
              have w1_ : IntKind.i64.wrap ((i : Int) + 1) = ((i + 1 : Nat) : Int) := by rw [Hw.wrap_w (by omega) (by have := HZ.out.1; omega)]; omega
              obtain ⟨u, v, huv, hcnt⟩ := HZ.out.2 (rd_L3 G (i : Int)) (by simp only [rd_L3, Int.toNat_natCast]; rw [List.getD_eq_getElem?_getD, List.getElem?_eq_getElem hlt]; exact List.getElem_mem _)
              obtain ⟨ad, A3, c3, e3, hx3, hl3, hi3⟩ := at_L3 HH.out (i : Int) p0 q0
              cases e3
              rw [huv] at hx3 hl3 hi3
              obtain ⟨ad2, e4, cx0⟩ := Kd.at_int hi3 0 (by omega) (by simp)
              cases e4
              obtain ⟨ad3, e5, cx1⟩ := Kd.at_int hi3 1 (by omega) (by simp)
              cases e5
              have HCN := Aside0.mk hcnt
              have HLT := Aside0.mk hlt
              clear hcnt hi3 hlt huv
              replace p0 := eq_true p0
              replace q0 := eq_true q0
              replace hx3 : wr.cell? (ad.add i) = some (.slice (some ad2) 2 c3) := hx3
              replace cx0 : wr.cell? ad2 = some (.int .i64 u) := cx0
              replace cx1 : wr.cell? ⟨ad2.block, ad2.off + 1, none⟩ = some (.int .i64 v) := cx1
              go_upto_region 50 with fail
              go_region_held3 (fun w' => w'.cell? ad2 = some (.int .i64 u) ∧ w'.cell? ⟨ad2.block, ad2.off + 1, none⟩ = some (.int .i64 v)) (exact ⟨cx0, cx1⟩) (first | (go_at_call 8; refine (impl_CountKindTests.calls x y n u v mst true _ HCN.out).mono ?_; rintro e_ w_4 ⟨rfl, hb_⟩; replace hb_ := Hx.undrew hb_; replace cx0 := pw_cell_below hb_ cx0; replace cx1 := pw_cell_below hb_ cx1; have n0_ : Aside0 (Below w.heap.size w w_4) := ⟨Hx.bb_below hb_ HB.out⟩; have n1_ : Aside0 (Kd.C (Kd.slice 3 (Kd.int .i64)) w_4 (some ad) G.length G) := ⟨Kd.C_below HH.out hb_⟩; clear HB HH hb_; have HB := n0_; have HH := n1_; clear n0_ n1_))
              go_wp2
              go_roundg (G.length - (i + 1))
              case measure => have := HLT.out; have := HIx.out; omega
              case rel => exact ⟨i + 1, by go_num, ⟨by have := HLT.out; omega⟩, by first | exact HB | exact ⟨below_drew1 HB.out⟩ | exact ⟨pw_below_drewN HB.out _⟩, by first | exact HH | exact ⟨Kd.C_drew HH.out⟩ | exact ⟨Kd.C_drewN HH.out _⟩⟩
            · have c0_ : decide ((i : Int) < (G.length : Int)) = false := decide_eq_false (by omega)
              go_wp2
              go_ret
              exact ⟨rfl, HB.out⟩
end Go.Proofs.Ytibapicnljedcab.Q
