/- Plain lemmas of this session: what the printed functions answer. -/
import Derived.Test.YtibapicnljedcabQx0
import Derived.Test.YtibapicnljedcabQx1
import Derived.Test.YtibapicnljedcabQx10
import Derived.Test.YtibapicnljedcabQx11
import Derived.Test.YtibapicnljedcabQx12
import Derived.Test.YtibapicnljedcabQx2
import Derived.Test.YtibapicnljedcabQx3
import Derived.Test.YtibapicnljedcabQx4
import Derived.Test.YtibapicnljedcabQx5
import Derived.Test.YtibapicnljedcabQx6
import Derived.Test.YtibapicnljedcabQx7
import Derived.Test.YtibapicnljedcabQx8
import Derived.Test.YtibapicnljedcabQx9
import Derived.Test.YtibapicnljedcabHw
import Derived.Test.YtibapicnljedcabQedraw
import Derived.Test.YtibapicnljedcabQefew
import Derived.Test.YtibapicnljedcabQeidle
import Derived.Test.YtibapicnljedcabQekplay
import Derived.Test.YtibapicnljedcabQekpure
import Derived.Test.YtibapicnljedcabQekplaw
import Derived.Test.YtibapicnljedcabQelawKP0
import Derived.Test.YtibapicnljedcabQelawKP1
import Derived.Test.YtibapicnljedcabQelawKP2
namespace Go.Proofs.Ytibapicnljedcab.Q
open Go.RowKit Go.Proofs.YtibapicnljedcabW.PrintWords Go.Proofs.YtibapicnljedcabW.PrintLast Go.Proofs.YtibapicnljedcabW.PrintMore
set_option linter.unusedVariables false
set_option linter.unusedSimpArgs false
/-! ### FnKindsPlayed -/
set_option maxHeartbeats 8000000 in
set_option maxRecDepth 100000 in
theorem hand_FnKindsPlayed (A0 : Option Addr) (c0 : Nat) (l0 : List Int) (A1 : Option Addr) (c1 : Nat) (l1 : List Int) (w : World) (hr0 : Kd.C (Kd.int .u8) w A0 l0.length l0) (hc0 : l0.length ≤ c0) (hr1 : Kd.C (Kd.int .u8) w A1 l1.length l1) (hc1 : l1.length ≤ c1) (hb0 : BytesOk l0) (hb1 : BytesOk l1) :
    Calls Try.prog 3 #[.slice A0 l0.length c0, .slice A1 l1.length c1] w fun e w' => e = .returned (.bool true) ∧ Below w.heap.size w w' := by
  obtain ⟨a, s, fl, wk, st, hd⟩ := drawPlay_tot hb0
  obtain ⟨x, y, n, hd2⟩ := drawHard_tot hb1
  obtain ⟨bg, hbg⟩ : ∃ b, laws_big.f l0 l1 = some b := by unfold laws_big.f; split <;> exact ⟨_, rfl⟩
  obtain ⟨P, ok, ct, fw, th, kd, fr, fv, al, F1, F2, F3, F4, F5, F6, F7, F8, F9, F10, hfv, hot, hthf, hokf, hpl⟩ := kp_all a s fl wk st
  obtain ⟨G, nn, G1, G2, hir, hnnf⟩ := kp_all2 x y n
  cases bg with
  | true =>
    go_enter Try.func3, Try.ntmps3
    go_wp2_with fail
    refine (laws_big.calls A0 c0 l0 A1 c1 l1 true w hr0 hc0 hr1 hc1 hbg).mono ?_
    rintro e_ w1 ⟨rfl, hd_⟩
    go_wp2
    go_ret
    exact ⟨rfl, hd_.below⟩
  | false =>
    cases th with
    | false =>
      cases ok with
      | true => exact absurd (hot rfl) (by decide)
      | false =>
        have hfv0 : fv = false := by rw [hfv]; rfl
        subst hfv0
        exact kpS0 A0 c0 l0 A1 c1 l1 w hr0 hc0 hr1 hc1 a s fl wk st x y n hd hd2 hbg P ct fw kd fr false al ⟨F1, F2, F3, F4, F5, F6, F7, F8, F9, F10⟩ hpl G nn ⟨G1, G2⟩ hir hnnf
    | true =>
      obtain ⟨q1, q2, q3, sg, q4, q5⟩ := hthf rfl
      have t1 : decide (fw < al) = false := decide_eq_false (by omega)
      have t2 : decide (al < 0) = false := decide_eq_false (by omega)
      have t3 : decide (sg < al) = false := decide_eq_false (by omega)
      have t4 : decide (0 < fl) = fv := by rw [hfv]; rfl
      obtain ⟨b6, t5⟩ : ∃ b, (fw == 0) = b := ⟨_, rfl⟩
      have t6 : (fl == 0) = b6 := by
        rw [← t5]
        by_cases h_ : fl = 0
        · rw [h_, q3.2 h_]
        · rw [show (fl == 0) = false by simpa using h_, show (fw == 0) = false by simpa using fun e => h_ (q3.1 e)]
      cases ok with
      | false => exact kpS1 A0 c0 l0 A1 c1 l1 w hr0 hc0 hr1 hc1 a s fl wk st x y n hd hd2 hbg P ct fw kd fr fv al ⟨F1, F2, F3, F4, F5, F6, F7, F8, F9, F10⟩ hpl G nn ⟨G1, G2⟩ hir hnnf sg q4 t1 t2 t3 t4 b6 t5 t6
      | true =>
        obtain ⟨r1, r2, r3, r4, r5, r6, r7⟩ := hokf rfl
        subst r1
        exact kpS2 A0 c0 l0 A1 c1 l1 w hr0 hc0 hr1 hc1 a s fl wk st x y n hd hd2 hbg P 0 fw kd fr fv al ⟨F1, F2, F3, F4, F5, F6, F7, F8, F9, F10⟩ hpl G nn ⟨G1, G2⟩ hir hnnf sg q4 t1 t2 t3 t4 b6 t5 t6 (decide_eq_false (by omega)) ⟨r3, r4⟩ ⟨r5, r6, r7⟩
end Go.Proofs.Ytibapicnljedcab.Q
