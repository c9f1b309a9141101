/- Plain Lean functions with the answers of Go functions, and proofs of it: printed by a program of this session (pr.py) over the kit's print, with hand-written parts. -/
import Derived.Test.YtoomacelbhojhaaVx0
import Derived.Test.YtoomacelbhojhaaVx6
import Derived.Test.YtoomacelbhojhaaVx7
namespace Go.Proofs.Ytoomacelbhojhaa.V
open Go.RowKit Go.Proofs.YtoomacelbhojhaaW.PrintWords Go.Proofs.YtoomacelbhojhaaW.PrintLast Go.Proofs.YtoomacelbhojhaaW.PrintMore
attribute [local go_sem] max2_int min2_int max_two min_two max_three min_three max_four min_four   -- for this text's walks alone
set_option linter.unusedVariables false
set_option linter.unusedSimpArgs false

/-! ### laws_heldIntSS: function 25 -/
def laws_heldIntSS.l0 : Nat → List (List Int) → Int → Int → Option (Int)
  | 0, _, _, _ => none
  | k + 1, x0, x1, x5 => if x5 < (x0.length : Int) then (if 0 ≤ x5 then ((laws_heldIntS.f k (rd_L1 x0 x5) x1).bind fun t234 => (if t234 < 0 then (some (-1)) else (laws_heldIntSS.l0 k x0 t234 (wrap64 (x5 + 1))))) else (none)) else (some x1)
def laws_heldIntSS.f (k : Nat) (l0 : List (List Int)) (a1 : Int) : Option (Int) := laws_heldIntSS.l0 k l0 a1 0
theorem laws_heldIntSS.mono_l : ∀ k, (∀ y0 y1 y2, LeO (laws_heldIntSS.l0 k y0 y1 y2) (laws_heldIntSS.l0 (k + 1) y0 y1 y2))
  | 0 => fun _ _ _ r h => by simp [laws_heldIntSS.l0] at h
  | k + 1 => by
    have ih0 := laws_heldIntSS.mono_l k
    · intro y0 y1 y2
      unfold laws_heldIntSS.l0
      repeat' first
      | (with_reducible exact ih0 _ _ _)
      | (with_reducible exact laws_heldIntS.mono _ _ _)
      | (with_reducible exact LeO.refl _)
      | (with_reducible exact LeO.none _)
      | (with_reducible refine LeO.ite ?_ ?_)
      | (with_reducible refine LeO.bind ?_ (fun _ => ?_))
      | exact ih0 _ _ _
      | exact laws_heldIntS.mono _ _ _
      | exact LeO.none _
      | refine LeO.ite ?_ ?_
      | refine LeO.bind ?_ (fun _ => ?_)
theorem laws_heldIntSS.mono : ∀ a0 a1 k, LeO (laws_heldIntSS.f k a0 a1) (laws_heldIntSS.f (k + 1) a0 a1) := by
  intro a0 a1 k
  have ih0 := laws_heldIntSS.mono_l k
  unfold laws_heldIntSS.f
  repeat' first
      | (with_reducible exact ih0 _ _ _)
      | (with_reducible exact laws_heldIntS.mono _ _ _)
      | (with_reducible exact LeO.refl _)
      | (with_reducible exact LeO.none _)
      | (with_reducible refine LeO.ite ?_ ?_)
      | (with_reducible refine LeO.bind ?_ (fun _ => ?_))
      | exact ih0 _ _ _
      | exact laws_heldIntS.mono _ _ _
      | exact LeO.none _
      | refine LeO.ite ?_ ?_
      | refine LeO.bind ?_ (fun _ => ?_)
set_option maxHeartbeats 8000000 in
set_option maxRecDepth 100000 in
theorem laws_heldIntSS.calls (k : Nat) (A0 : Option Addr) (c0 : Nat) (l0 : List (List Int)) (a1 : Int) (r : Int) (w : World) (hr0 : Kd.C (Kd.slice 3 (Kd.int .i64)) w A0 l0.length l0) (hc0 : l0.length ≤ c0) (h : laws_heldIntSS.f k l0 a1 = some r) :
    Calls Try.prog 25 #[.slice A0 l0.length c0, .int .i64 a1] w fun e w' => e = .returned (.int .i64 r) ∧ Drawn0 w w' := by
  have HR0 := Aside0.mk hr0
  have HC0 := Aside0.mk hc0
  clear hr0 hc0
  have H : (laws_heldIntSS.l0 k l0 a1 0) = some r := h
  clear h
  have H' := Aside0.mk H
  clear H
  go_enter Try.func25, Try.ntmps25
  go_wp2
  go_loopg [1, 5] k (fun kq v1 v5 w' => ∃ (x1_1 : Int) (x5_1 : Int), v1 = .int .i64 x1_1 ∧ v5 = .int .i64 x5_1 ∧ Aside0 (laws_heldIntSS.l0 kq l0 x1_1 x5_1 = some r) ∧ Aside0 (kq ≤ k) ∧ Drawn0 w w')
  case atStart => exact ⟨(a1), (0), (by first | rfl | (simp; done) | (simp [*]; done)), (by first | rfl | (simp; done) | (simp [*]; done)), H', ⟨Nat.le_refl _⟩, by repeat (first | exact Drawn0.refl _ | apply Drawn0.step)⟩
  case round =>
    clear H'
    try clear c2
    try clear p2
    obtain ⟨x1_1, x5_1, rfl, rfl, HA, HK1, ⟨m1, rfl⟩⟩ := hrel
    cases gk with
    | zero => exact absurd HA.out (by simp [laws_heldIntSS.l0])
    | succ k1 =>
      have H := HA.out
      clear HA
      simp only [laws_heldIntSS.l0] at H
      by_cases c3 : x5_1 < (l0.length : Int)
      · rw [if_pos c3] at H
        have c3b0 : decide (x5_1 < (l0.length : Int)) = true := decide_eq_true c3
        clear c3
        by_cases c4 : 0 ≤ x5_1
        · rw [if_pos c4] at H
          have c4b0 : decide (0 ≤ x5_1) = true := decide_eq_true c4
          clear c4
          replace H := Option.bind_eq_some_iff.mp H
          obtain ⟨t234, A50, H⟩ := H
          replace H : (if t234 < 0 then (some (-1)) else (laws_heldIntSS.l0 k1 l0 t234 (wrap64 (x5_1 + 1)))) = some r := H
          have A5 := Aside0.mk A50
          clear A50
          by_cases c6 : t234 < 0
          · rw [if_pos c6] at H
            have c6b0 : decide (t234 < 0) = true := decide_eq_true c6
            clear c6
            obtain rfl := Option.some.inj H
            have p233 : 0 ≤ (x5_1 : Int) := of_decide_eq_true (by first | (with_reducible assumption) | assumption)
            have q233 : x5_1 < (l0.length : Int) := of_decide_eq_true (by first | (with_reducible assumption) | assumption)
            obtain ⟨ad233, A233_0, c233_0, e233, hx233_0, hl233_0, hi233_0⟩ := at_L1 HR0.out x5_1 p233 q233
            cases e233
            have HR233_0 := Aside0.mk hi233_0
            have HC233_0 := Aside0.mk hl233_0
            clear hi233_0 hl233_0
            replace p233 := eq_true p233
            replace q233 := eq_true q233
            go_wp2_with (first | ((with_reducible refine gate_callee (f := 36) rfl ?_); refine goesL_ (some 17) rfl rfl Try.func36 (by kernel_rfl) rfl #[.slice A233_0 (rd_L1 l0 x5_1).length c233_0, .int .i64 x1_1] rfl (by (try simp only [List.map_toArray, List.map_cons, List.map_nil]); first | done | rfl | (simp only [List.length_drop, List.length_take]; rfl)) ?_; (with_reducible refine (laws_heldIntS.calls k1 _ _ (rd_L1 l0 x5_1) x1_1 t234 _ ?side1 ?side2 A5.out).mono ?_); (case side1 => repeat (first | exact HR233_0.out | (with_reducible refine Kd.C_alloc ?_ _) | (with_reducible refine Kd.C_drewN ?_ _) | (with_reducible refine Kd.C_drew ?_))); (case side2 => exact HC233_0.out); rintro e w' ⟨rfl, ⟨nd, rfl⟩⟩; refine ⟨_, rfl, ?_⟩))
            go_ret
            exact ⟨by first | rfl | (simp; done) | (simp [*]; done), by repeat (first | exact Drawn0.refl _ | apply Drawn0.step)⟩
          · rw [if_neg c6] at H
            have c6b0 : decide (t234 < 0) = false := decide_eq_false c6
            clear c6
            have H' := Aside0.mk H
            clear H
            have p233 : 0 ≤ (x5_1 : Int) := of_decide_eq_true (by first | (with_reducible assumption) | assumption)
            have q233 : x5_1 < (l0.length : Int) := of_decide_eq_true (by first | (with_reducible assumption) | assumption)
            obtain ⟨ad233, A233_0, c233_0, e233, hx233_0, hl233_0, hi233_0⟩ := at_L1 HR0.out x5_1 p233 q233
            cases e233
            have HR233_0 := Aside0.mk hi233_0
            have HC233_0 := Aside0.mk hl233_0
            clear hi233_0 hl233_0
            replace p233 := eq_true p233
            replace q233 := eq_true q233
            go_wp2_with (first | ((with_reducible refine gate_callee (f := 36) rfl ?_); refine goesL_ (some 17) rfl rfl Try.func36 (by kernel_rfl) rfl #[.slice A233_0 (rd_L1 l0 x5_1).length c233_0, .int .i64 x1_1] rfl (by (try simp only [List.map_toArray, List.map_cons, List.map_nil]); first | done | rfl | (simp only [List.length_drop, List.length_take]; rfl)) ?_; (with_reducible refine (laws_heldIntS.calls k1 _ _ (rd_L1 l0 x5_1) x1_1 t234 _ ?side1 ?side2 A5.out).mono ?_); (case side1 => repeat (first | exact HR233_0.out | (with_reducible refine Kd.C_alloc ?_ _) | (with_reducible refine Kd.C_drewN ?_ _) | (with_reducible refine Kd.C_drew ?_))); (case side2 => exact HC233_0.out); rintro e w' ⟨rfl, ⟨nd, rfl⟩⟩; refine ⟨_, rfl, ?_⟩))
            go_roundg k1
            case measure => have := HK1.out; omega
            case rel => exact ⟨(t234), (wrap64 (x5_1 + 1)), (by first | rfl | (simp; done) | (simp [*]; done)), (by first | rfl | (simp; done) | (simp [*]; done)), H', ⟨by have := HK1.out; omega⟩, by repeat (first | exact Drawn0.refl _ | apply Drawn0.step)⟩
        · rw [if_neg c4] at H
          exact absurd H (by simp)
      · rw [if_neg c3] at H
        have c3b0 : decide (x5_1 < (l0.length : Int)) = false := decide_eq_false c3
        clear c3
        obtain rfl := Option.some.inj H
        go_wp2
        go_ret
        exact ⟨by first | rfl | (simp; done) | (simp [*]; done), by repeat (first | exact Drawn0.refl _ | apply Drawn0.step)⟩

-- FOR laws.FnExactHardestPairs
set_option maxHeartbeats 8000000 in
set_option maxRecDepth 100000 in
theorem hand_FnExactHardestPairs (k : Nat) (a0 : Int) (a1 : Int) (a2 : Int) (w : World)  (G : List (List Int)) (r2 : Bool) (Gm : List (List Int)) (m : Int) (h1 : spec_HardestPairs.f a0 a1 a2 = some (G, r2)) (h2 : impl_HardestPairs.f a0 a1 a2 = some (G, r2)) (hq : laws_eqIntSS.f k G G = some true) (hmg : laws_markIntSS.f k G 101 = some (m, Gm)) (hhg : laws_heldIntSS.f k Gm 101 = some m) (hGm : Gm.length = G.length) (hm0 : 0 ≤ m) :
    Calls Try.prog 5 #[.int .i64 a0, .int .i64 a1, .int .i64 a2] w fun e w' => e = .returned (.bool true) ∧ Below w.heap.size w w' := by
  have H1 := Aside0.mk h1
  have H2 := Aside0.mk h2
  have HQ := Aside0.mk hq
  have HMG := Aside0.mk hmg
  have HHG := Aside0.mk hhg
  have HGm := Aside0.mk hGm
  have HB := Aside0.mk (Below.refl w.heap.size w)
  have dm : decide (m < 0) = false := decide_eq_false (by omega)
  have hr2_ : (r2 != r2) = false := by simp
  clear hm0 h1 h2 hq hmg hhg hGm
  go_enter Try.func5, Try.ntmps5
  go_wp2_with fail
  refine (spec_HardestPairs.calls a0 a1 a2 G r2 w  H1.out).mono ?_
  rintro e w1 ⟨v_, rfl, ho_, hb_⟩
  obtain ⟨A1_, c1_, rfl⟩ := Kd.S_slice ho_
  have LE0 : Aside0 (w.heap.size ≤ w1.heap.size) := ⟨hb_.size⟩
  have n0_ : Aside0 (Below w.heap.size w w1) := ⟨below_step HB.out hb_⟩
  have m0_ : Aside0 (Kd.S (Kd.slice 3 (Kd.int .i64)) 46 w1 w.heap.size (fun k_ => w.heap.size ≤ k_ ∧ k_ < w1.heap.size) (.slice A1_ G.length c1_) G) := ⟨Kd.S_mono (Kd.S_lower (Kd.S_bound ho_) (below_size HB.out)) (fun k_ hk => ⟨hk.2.1, hk.2.2.1⟩)⟩
  (try clear HB)
  have HB := n0_
  have HW := m0_
  clear n0_ m0_
  clear hb_ ho_
  go_wp2_with fail
  refine (impl_HardestPairs.calls a0 a1 a2 G r2 w1  H2.out).mono ?_
  rintro e w2 ⟨v_, rfl, ho_, hb_⟩
  obtain ⟨A2_, c2_, rfl⟩ := Kd.S_slice ho_
  have LE1 : Aside0 (w1.heap.size ≤ w2.heap.size) := ⟨hb_.size⟩
  have n0_ : Aside0 (Below w.heap.size w w2) := ⟨below_step HB.out hb_⟩
  have n1_ : Aside0 (Kd.S (Kd.slice 3 (Kd.int .i64)) 46 w2 w.heap.size (fun k_ => w.heap.size ≤ k_ ∧ k_ < w1.heap.size) (.slice A1_ G.length c1_) G) := ⟨Kd.S_below HW.out hb_⟩
  have m0_ : Aside0 (Kd.S (Kd.slice 3 (Kd.int .i64)) 46 w2 w.heap.size (fun k_ => w1.heap.size ≤ k_ ∧ k_ < w2.heap.size) (.slice A2_ G.length c2_) G) := ⟨Kd.S_mono (Kd.S_lower (Kd.S_bound ho_) (below_size HB.out)) (fun k_ hk => ⟨hk.2.1, hk.2.2.1⟩)⟩
  (try clear HB)
  (try clear HW)
  have HB := n0_
  have HW := n1_
  have HG := m0_
  clear n0_ n1_ m0_
  clear hb_ ho_
  go_wp2_with fail
  refine (laws_eqIntSS.calls k _ _ G _ _ G true w2 (Kd.S_reads' HG.out).2.2 (Kd.S_reads' HG.out).2.1 (Kd.S_reads' HW.out).2.2 (Kd.S_reads' HW.out).2.1 HQ.out).mono ?_
  rintro e w3 ⟨rfl, hd_⟩
  have hb_ : Below w2.heap.size w2 w3 := (by first | exact hd_ | exact hd_.below)
  have n0_ : Aside0 (Below w.heap.size w w3) := ⟨below_step HB.out hb_⟩
  have n1_ : Aside0 (Kd.S (Kd.slice 3 (Kd.int .i64)) 46 w3 w.heap.size (fun k_ => w.heap.size ≤ k_ ∧ k_ < w1.heap.size) (.slice A1_ G.length c1_) G) := ⟨Kd.S_below HW.out hb_⟩
  have n2_ : Aside0 (Kd.S (Kd.slice 3 (Kd.int .i64)) 46 w3 w.heap.size (fun k_ => w1.heap.size ≤ k_ ∧ k_ < w2.heap.size) (.slice A2_ G.length c2_) G) := ⟨Kd.S_below HG.out hb_⟩
  (try clear HB)
  (try clear HW)
  (try clear HG)
  have HB := n0_
  have HW := n1_
  have HG := n2_
  clear n0_ n1_ n2_
  clear hb_ hd_
  go_wp2_with fail
  refine (laws_markIntSS.calls k _ _ G 101 m Gm w w3 HB.out HG.out HMG.out).mono ?_
  rintro e w4 ⟨rfl, hx_, hb_, hk_⟩
  have n0_ : Aside0 (Below w.heap.size w w4) := ⟨hb_⟩
  have n1_ : Aside0 (Kd.S (Kd.slice 3 (Kd.int .i64)) 46 w4 w.heap.size (fun k_ => w.heap.size ≤ k_ ∧ k_ < w1.heap.size) (.slice A1_ G.length c1_) G) := ⟨Kd.S_step HW.out (fun k_ h1_ hlt_ => hk_.2 k_ hlt_ (fun h2_ => by have := LE0.out; have := LE1.out; omega))⟩
  have m0_ : Aside0 (Kd.S (Kd.slice 3 (Kd.int .i64)) 46 w4 w.heap.size (fun k_ => True) (.slice A2_ G.length c2_) Gm) := ⟨by have h_ := Kd.S_mono hx_ (fun _ _ => trivial); rw [← HGm.out] at h_ ⊢; exact h_⟩
  (try clear HB)
  (try clear HW)
  (try clear HG)
  have HB := n0_
  have HW := n1_
  have HM := m0_
  clear n0_ n1_ m0_
  clear hx_ hb_ hk_
  go_wp2_with fail
  have hcall := laws_heldIntSS.calls k A2_ c2_ Gm 101 m w4 (Kd.S_reads' (by have h_ := HM.out; rw [← HGm.out] at h_; exact h_)).2.2 (Kd.S_reads' (by have h_ := HM.out; rw [← HGm.out] at h_; exact h_)).2.1 HHG.out
  rw [HGm.out] at hcall
  refine hcall.mono ?_
  clear hcall
  rintro e w5 ⟨rfl, hd_⟩
  have hb_ : Below w4.heap.size w4 w5 := (by first | exact hd_ | exact hd_.below)
  have n0_ : Aside0 (Below w.heap.size w w5) := ⟨below_step HB.out hb_⟩
  have n1_ : Aside0 (Kd.S (Kd.slice 3 (Kd.int .i64)) 46 w5 w.heap.size (fun k_ => w.heap.size ≤ k_ ∧ k_ < w1.heap.size) (.slice A1_ G.length c1_) G) := ⟨Kd.S_below HW.out hb_⟩
  have n2_ : Aside0 (Kd.S (Kd.slice 3 (Kd.int .i64)) 46 w5 w.heap.size (fun k_ => True) (.slice A2_ G.length c2_) Gm) := ⟨Kd.S_below HM.out hb_⟩
  (try clear HB)
  (try clear HW)
  (try clear HM)
  have HB := n0_
  have HW := n1_
  have HM := n2_
  clear n0_ n1_ n2_
  clear hb_ hd_
  go_wp2_with fail
  refine (impl_HardestPairs.calls a0 a1 a2 G r2 w5  H2.out).mono ?_
  rintro e w6 ⟨v_, rfl, ho_, hb_⟩
  obtain ⟨A6_, c6_, rfl⟩ := Kd.S_slice ho_
  have LE2 : Aside0 (w5.heap.size ≤ w6.heap.size) := ⟨hb_.size⟩
  have n0_ : Aside0 (Below w.heap.size w w6) := ⟨below_step HB.out hb_⟩
  have n1_ : Aside0 (Kd.S (Kd.slice 3 (Kd.int .i64)) 46 w6 w.heap.size (fun k_ => w.heap.size ≤ k_ ∧ k_ < w1.heap.size) (.slice A1_ G.length c1_) G) := ⟨Kd.S_below HW.out hb_⟩
  have n2_ : Aside0 (Kd.S (Kd.slice 3 (Kd.int .i64)) 46 w6 w.heap.size (fun k_ => True) (.slice A2_ G.length c2_) Gm) := ⟨Kd.S_below HM.out hb_⟩
  have m0_ : Aside0 (Kd.S (Kd.slice 3 (Kd.int .i64)) 46 w6 w.heap.size (fun k_ => w5.heap.size ≤ k_ ∧ k_ < w6.heap.size) (.slice A6_ G.length c6_) G) := ⟨Kd.S_mono (Kd.S_lower (Kd.S_bound ho_) (below_size HB.out)) (fun k_ hk => ⟨hk.2.1, hk.2.2.1⟩)⟩
  (try clear HB)
  (try clear HW)
  (try clear HM)
  have HB := n0_
  have HW := n1_
  have HM := n2_
  have HH := m0_
  clear n0_ n1_ n2_ m0_
  clear hb_ ho_
  go_wp2_with fail
  refine (laws_eqIntSS.calls k _ _ G _ _ G true w6 (Kd.S_reads' HH.out).2.2 (Kd.S_reads' HH.out).2.1 (Kd.S_reads' HW.out).2.2 (Kd.S_reads' HW.out).2.1 HQ.out).mono ?_
  rintro e w7 ⟨rfl, hd_⟩
  have hb_ : Below w6.heap.size w6 w7 := (by first | exact hd_ | exact hd_.below)
  have n0_ : Aside0 (Below w.heap.size w w7) := ⟨below_step HB.out hb_⟩
  have n1_ : Aside0 (Kd.S (Kd.slice 3 (Kd.int .i64)) 46 w7 w.heap.size (fun k_ => w.heap.size ≤ k_ ∧ k_ < w1.heap.size) (.slice A1_ G.length c1_) G) := ⟨Kd.S_below HW.out hb_⟩
  have n2_ : Aside0 (Kd.S (Kd.slice 3 (Kd.int .i64)) 46 w7 w.heap.size (fun k_ => True) (.slice A2_ G.length c2_) Gm) := ⟨Kd.S_below HM.out hb_⟩
  have n3_ : Aside0 (Kd.S (Kd.slice 3 (Kd.int .i64)) 46 w7 w.heap.size (fun k_ => w5.heap.size ≤ k_ ∧ k_ < w6.heap.size) (.slice A6_ G.length c6_) G) := ⟨Kd.S_below HH.out hb_⟩
  (try clear HB)
  (try clear HW)
  (try clear HM)
  (try clear HH)
  have HB := n0_
  have HW := n1_
  have HM := n2_
  have HH := n3_
  clear n0_ n1_ n2_ n3_
  clear hb_ hd_
  go_wp2_with fail
  have hcall := laws_heldIntSS.calls k A2_ c2_ Gm 101 m w7 (Kd.S_reads' (by have h_ := HM.out; rw [← HGm.out] at h_; exact h_)).2.2 (Kd.S_reads' (by have h_ := HM.out; rw [← HGm.out] at h_; exact h_)).2.1 HHG.out
  rw [HGm.out] at hcall
  refine hcall.mono ?_
  clear hcall
  rintro e w8 ⟨rfl, hd_⟩
  have hb_ : Below w7.heap.size w7 w8 := (by first | exact hd_ | exact hd_.below)
  have n0_ : Aside0 (Below w.heap.size w w8) := ⟨below_step HB.out hb_⟩
  have n1_ : Aside0 (Kd.S (Kd.slice 3 (Kd.int .i64)) 46 w8 w.heap.size (fun k_ => w.heap.size ≤ k_ ∧ k_ < w1.heap.size) (.slice A1_ G.length c1_) G) := ⟨Kd.S_below HW.out hb_⟩
  have n2_ : Aside0 (Kd.S (Kd.slice 3 (Kd.int .i64)) 46 w8 w.heap.size (fun k_ => True) (.slice A2_ G.length c2_) Gm) := ⟨Kd.S_below HM.out hb_⟩
  have n3_ : Aside0 (Kd.S (Kd.slice 3 (Kd.int .i64)) 46 w8 w.heap.size (fun k_ => w5.heap.size ≤ k_ ∧ k_ < w6.heap.size) (.slice A6_ G.length c6_) G) := ⟨Kd.S_below HH.out hb_⟩
  (try clear HB)
  (try clear HW)
  (try clear HM)
  (try clear HH)
  have HB := n0_
  have HW := n1_
  have HM := n2_
  have HH := n3_
  clear n0_ n1_ n2_ n3_
  clear hb_ hd_
  go_wp2
  go_ret
  exact ⟨rfl, HB.out⟩


end Go.Proofs.Ytoomacelbhojhaa.V
