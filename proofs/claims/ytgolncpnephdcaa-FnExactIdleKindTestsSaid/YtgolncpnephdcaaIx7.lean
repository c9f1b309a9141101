/- Plain Lean functions with the answers of Go functions, and proofs of it: printed by a program of this session (pr.py) over the kit's print, with hand-written parts. -/
import Derived.Test.YtgolncpnephdcaaIx0
import Derived.Test.YtgolncpnephdcaaIx1
import Derived.Test.YtgolncpnephdcaaIx2
import Derived.Test.YtgolncpnephdcaaIx4
import Derived.Test.YtgolncpnephdcaaIx6
namespace Go.Proofs.Ytgolncpnephdcaa.I
open Go.RowKit Go.Proofs.YtgolncpnephdcaaW.PrintWords Go.Proofs.YtgolncpnephdcaaW.PrintLast Go.Proofs.YtgolncpnephdcaaW.PrintMore
attribute [local go_sem] max2_int min2_int max_two min_two max_three min_three max_four min_four   -- for this text's walks alone
set_option linter.unusedVariables false
set_option linter.unusedSimpArgs false

/-! ### laws_eqIntS: function 28 -/
def laws_eqIntS.l0 : Nat → List Int → List Int → Int → Option (Bool)
  | 0, _, _, _ => none
  | k + 1, x0, x1, x5 => if x5 < (x0.length : Int) then (if 0 ≤ x5 then (if x5 < (x1.length : Int) then (if (rd x0 x5) = (rd x1 x5) then (laws_eqIntS.l0 k x0 x1 (wrap64 (x5 + 1))) else (some false)) else (none)) else (none)) else (some true)
def laws_eqIntS.f (k : Nat) (l0 : List Int) (l1 : List Int) : Option (Bool) := if (l0.length : Int) = (l1.length : Int) then (laws_eqIntS.l0 k l0 l1 0) else (some false)
theorem laws_eqIntS.mono_l : ∀ k, (∀ y0 y1 y2, LeO (laws_eqIntS.l0 k y0 y1 y2) (laws_eqIntS.l0 (k + 1) y0 y1 y2))
  | 0 => fun _ _ _ r h => by simp [laws_eqIntS.l0] at h
  | k + 1 => by
    have ih0 := laws_eqIntS.mono_l k
    · intro y0 y1 y2
      unfold laws_eqIntS.l0
      repeat' first
      | (with_reducible exact ih0 _ _ _)
      | (with_reducible exact LeO.refl _)
      | (with_reducible exact LeO.none _)
      | (with_reducible refine LeO.ite ?_ ?_)
      | (with_reducible refine LeO.bind ?_ (fun _ => ?_))
      | exact ih0 _ _ _
      | exact LeO.none _
      | refine LeO.ite ?_ ?_
      | refine LeO.bind ?_ (fun _ => ?_)
theorem laws_eqIntS.mono : ∀ a0 a1 k, LeO (laws_eqIntS.f k a0 a1) (laws_eqIntS.f (k + 1) a0 a1) := by
  intro a0 a1 k
  have ih0 := laws_eqIntS.mono_l k
  unfold laws_eqIntS.f
  repeat' first
      | (with_reducible exact ih0 _ _ _)
      | (with_reducible exact LeO.refl _)
      | (with_reducible exact LeO.none _)
      | (with_reducible refine LeO.ite ?_ ?_)
      | (with_reducible refine LeO.bind ?_ (fun _ => ?_))
      | exact ih0 _ _ _
      | exact LeO.none _
      | refine LeO.ite ?_ ?_
      | refine LeO.bind ?_ (fun _ => ?_)
set_option maxHeartbeats 8000000 in
set_option maxRecDepth 100000 in
theorem laws_eqIntS.calls (k : Nat) (A0 : Option Addr) (c0 : Nat) (l0 : List Int) (A1 : Option Addr) (c1 : Nat) (l1 : List Int) (r : Bool) (w : World) (hr0 : Kd.C (Kd.int .i64) w A0 l0.length l0) (hc0 : l0.length ≤ c0) (hr1 : Kd.C (Kd.int .i64) w A1 l1.length l1) (hc1 : l1.length ≤ c1) (h : laws_eqIntS.f k l0 l1 = some r) :
    Calls Try.prog 28 #[.slice A0 l0.length c0, .slice A1 l1.length c1] w fun e w' => e = .returned (.bool r) ∧ Drawn0 w w' := by
  have HR0 := Aside0.mk hr0
  have HC0 := Aside0.mk hc0
  clear hr0 hc0
  have HR1 := Aside0.mk hr1
  have HC1 := Aside0.mk hc1
  clear hr1 hc1
  have H : (if (l0.length : Int) = (l1.length : Int) then (laws_eqIntS.l0 k l0 l1 0) else (some false)) = some r := h
  clear h
  by_cases c3 : (l0.length : Int) = (l1.length : Int)
  · rw [if_pos c3] at H
    have c3b0 : ((l0.length : Int) == (l1.length : Int)) = true := beq_iff_eq.mpr c3
    have c3b1 : ((l0.length : Int) != (l1.length : Int)) = false := bne_eq_false_iff_eq.mpr c3
    have c3b2 : (l0.length == l1.length) = true := by first | simpa using c3 | (simp at c3 ⊢; omega)
    clear c3
    have H' := Aside0.mk H
    clear H
    go_enter Try.func28, Try.ntmps28
    go_wp2
    repeat (go_quiet (fail); try go_wp2)
    go_loopg [5] k (fun kq v5 w' => ∃ (x5_1 : Int), v5 = .int .i64 x5_1 ∧ Aside0 (laws_eqIntS.l0 kq l0 l1 x5_1 = some r) ∧ Aside0 (kq ≤ k) ∧ Drawn0 w w')
    case atStart => exact ⟨(0), (by first | rfl | (simp; done) | (simp [*]; done)), H', ⟨Nat.le_refl _⟩, by repeat (first | exact Drawn0.refl _ | apply Drawn0.step)⟩
    case round =>
      clear H'
      try clear c1
      try clear c2
      try clear p2
      try clear c3
      try clear c3b0
      try clear c3b1
      try clear c3b2
      obtain ⟨x5_1, rfl, HA, HK1, ⟨m1, rfl⟩⟩ := hrel
      cases gk with
      | zero => exact absurd HA.out (by simp [laws_eqIntS.l0])
      | succ k1 =>
        have H := HA.out
        clear HA
        simp only [laws_eqIntS.l0] at H
        by_cases c4 : x5_1 < (l0.length : Int)
        · rw [if_pos c4] at H
          have c4b0 : decide (x5_1 < (l0.length : Int)) = true := decide_eq_true c4
          clear c4
          by_cases c5 : 0 ≤ x5_1
          · rw [if_pos c5] at H
            have c5b0 : decide (0 ≤ x5_1) = true := decide_eq_true c5
            clear c5
            by_cases c6 : x5_1 < (l1.length : Int)
            · rw [if_pos c6] at H
              have c6b0 : decide (x5_1 < (l1.length : Int)) = true := decide_eq_true c6
              clear c6
              by_cases c7 : (rd l0 x5_1) = (rd l1 x5_1)
              · rw [if_pos c7] at H
                have c7b0 : ((rd l0 x5_1) == (rd l1 x5_1)) = true := beq_iff_eq.mpr c7
                have c7b1 : ((rd l0 x5_1) != (rd l1 x5_1)) = false := bne_eq_false_iff_eq.mpr c7
                clear c7
                have H' := Aside0.mk H
                clear H
                have p198 : 0 ≤ (x5_1 : Int) := of_decide_eq_true (by first | (with_reducible assumption) | assumption)
                have q198 : x5_1 < (l0.length : Int) := of_decide_eq_true (by first | (with_reducible assumption) | assumption)
                obtain ⟨ad198, e198, hx198_0⟩ := Kd.at_int HR0.out x5_1 p198 q198
                cases e198
                replace p198 := eq_true p198
                replace q198 := eq_true q198
                have p199 : 0 ≤ (x5_1 : Int) := of_decide_eq_true (by first | (with_reducible assumption) | assumption)
                have q199 : x5_1 < (l1.length : Int) := of_decide_eq_true (by first | (with_reducible assumption) | assumption)
                obtain ⟨ad199, e199, hx199_0⟩ := Kd.at_int HR1.out x5_1 p199 q199
                cases e199
                replace p199 := eq_true p199
                replace q199 := eq_true q199
                go_wp2
                repeat (go_quiet (fail); try go_wp2)
                go_roundg k1
                case measure => have := HK1.out; omega
                case rel => exact ⟨(wrap64 (x5_1 + 1)), (by first | rfl | (simp; done) | (simp [*]; done)), H', ⟨by have := HK1.out; omega⟩, by repeat (first | exact Drawn0.refl _ | apply Drawn0.step)⟩
              · rw [if_neg c7] at H
                have c7b0 : ((rd l0 x5_1) == (rd l1 x5_1)) = false := beq_eq_false_iff_ne.mpr c7
                have c7b1 : ((rd l0 x5_1) != (rd l1 x5_1)) = true := bne_iff_ne.mpr c7
                obtain rfl := Option.some.inj H
                have p198 : 0 ≤ (x5_1 : Int) := of_decide_eq_true (by first | (with_reducible assumption) | assumption)
                have q198 : x5_1 < (l0.length : Int) := of_decide_eq_true (by first | (with_reducible assumption) | assumption)
                obtain ⟨ad198, e198, hx198_0⟩ := Kd.at_int HR0.out x5_1 p198 q198
                cases e198
                replace p198 := eq_true p198
                replace q198 := eq_true q198
                have p199 : 0 ≤ (x5_1 : Int) := of_decide_eq_true (by first | (with_reducible assumption) | assumption)
                have q199 : x5_1 < (l1.length : Int) := of_decide_eq_true (by first | (with_reducible assumption) | assumption)
                obtain ⟨ad199, e199, hx199_0⟩ := Kd.at_int HR1.out x5_1 p199 q199
                cases e199
                replace p199 := eq_true p199
                replace q199 := eq_true q199
                go_wp2
                repeat (go_quiet (fail); try go_wp2)
                go_ret
                exact ⟨by first | rfl | (simp; done) | (simp [*]; done), by repeat (first | exact Drawn0.refl _ | apply Drawn0.step)⟩
            · rw [if_neg c6] at H
              exact absurd H (by simp)
          · rw [if_neg c5] at H
            exact absurd H (by simp)
        · rw [if_neg c4] at H
          have c4b0 : decide (x5_1 < (l0.length : Int)) = false := decide_eq_false c4
          clear c4
          obtain rfl := Option.some.inj H
          go_wp2
          repeat (go_quiet (fail); try go_wp2)
          go_ret
          exact ⟨by first | rfl | (simp; done) | (simp [*]; done), by repeat (first | exact Drawn0.refl _ | apply Drawn0.step)⟩
  · rw [if_neg c3] at H
    have c3b0 : ((l0.length : Int) == (l1.length : Int)) = false := beq_eq_false_iff_ne.mpr c3
    have c3b1 : ((l0.length : Int) != (l1.length : Int)) = true := bne_iff_ne.mpr c3
    have c3b2 : (l0.length == l1.length) = false := by first | simpa using c3 | (simp at c3 ⊢; omega)
    obtain rfl := Option.some.inj H
    go_enter Try.func28, Try.ntmps28
    go_wp2
    repeat (go_quiet (fail); try go_wp2)
    go_ret
    exact ⟨by first | rfl | (simp; done) | (simp [*]; done), by repeat (first | exact Drawn0.refl _ | apply Drawn0.step)⟩

/-! ### laws_markKindTestS: function 29 -/
def laws_markKindTestS.l0 : Nat → List (S65) → Int → Int → Option (Int × (List (S65)))
  | 0, _, _, _ => none
  | k + 1, x0, x1, x5 => if x5 < (x0.length : Int) then (if 0 ≤ x5 then ((some (x0.set (x5 : Int).toNat (⟨((Int.tmod x1 3) == 0), (rd_T65 x0 x5).f1, (rd_T65 x0 x5).f2⟩ : S65) : List (S65))).bind fun y200 => ((some (y200.set (x5 : Int).toNat (⟨(rd_T65 y200 x5).f0, wrap64 (x1 + 1), (rd_T65 y200 x5).f2⟩ : S65) : List (S65))).bind fun y201 => (laws_markKindTestS.l0 k (y201.set (x5 : Int).toNat (⟨(rd_T65 y201 x5).f0, (rd_T65 y201 x5).f1, ((Int.tmod (wrap64 ((wrap64 (x1 + 1)) + 1)) 3) == 0)⟩ : S65)) (wrap64 ((wrap64 ((wrap64 (x1 + 1)) + 1)) + 1)) (wrap64 (x5 + 1))))) else (none)) else (some (x1, x0))
def laws_markKindTestS.f (k : Nat) (l0 : List (S65)) (a1 : Int) : Option (Int × (List (S65))) := laws_markKindTestS.l0 k l0 a1 0
theorem laws_markKindTestS.mono_l : ∀ k, (∀ y0 y1 y2, LeO (laws_markKindTestS.l0 k y0 y1 y2) (laws_markKindTestS.l0 (k + 1) y0 y1 y2))
  | 0 => fun _ _ _ r h => by simp [laws_markKindTestS.l0] at h
  | k + 1 => by
    have ih0 := laws_markKindTestS.mono_l k
    · intro y0 y1 y2
      unfold laws_markKindTestS.l0
      repeat' first
      | (with_reducible exact ih0 _ _ _)
      | (with_reducible exact LeO.refl _)
      | (with_reducible exact LeO.none _)
      | (with_reducible refine LeO.ite ?_ ?_)
      | (with_reducible refine LeO.bind ?_ (fun _ => ?_))
      | exact ih0 _ _ _
      | exact LeO.none _
      | refine LeO.ite ?_ ?_
      | refine LeO.bind ?_ (fun _ => ?_)
theorem laws_markKindTestS.mono : ∀ a0 a1 k, LeO (laws_markKindTestS.f k a0 a1) (laws_markKindTestS.f (k + 1) a0 a1) := by
  intro a0 a1 k
  have ih0 := laws_markKindTestS.mono_l k
  unfold laws_markKindTestS.f
  repeat' first
      | (with_reducible exact ih0 _ _ _)
      | (with_reducible exact LeO.refl _)
      | (with_reducible exact LeO.none _)
      | (with_reducible refine LeO.ite ?_ ?_)
      | (with_reducible refine LeO.bind ?_ (fun _ => ?_))
      | exact ih0 _ _ _
      | exact LeO.none _
      | refine LeO.ite ?_ ?_
      | refine LeO.bind ?_ (fun _ => ?_)
set_option maxHeartbeats 8000000 in
set_option maxRecDepth 100000 in
theorem laws_markKindTestS.calls (k : Nat) (P0_ : Nat → Prop) (u9000_ : Value) (l0 : List (S65)) (a1 : Int) (r1 : Int) (r2 : List (S65)) (w0 w : World) (hB : Below w0.heap.size w0 w) (ho0 : Kd.R k65 65 w w0.heap.size P0_ u9000_ l0) (h : laws_markKindTestS.f k l0 a1 = some (r1, r2)) :
    Calls Try.prog 29 #[u9000_, .int .i64 a1] w fun e w' => e = .returned (.int .i64 r1) ∧ Kd.R k65 65 w' w0.heap.size (fun k_ => (P0_ k_ ∨ w.heap.size ≤ k_)) u9000_ r2 ∧ Below w0.heap.size w0 w' ∧ Kept w w' (fun k_ => P0_ k_) := by
  have HO0 := Aside0.mk (show Kd.R k65 65 w w0.heap.size (fun k_ => (P0_ k_ ∨ w.heap.size ≤ k_)) u9000_ l0 from Kd.R_mono ho0 (fun k_ hk => (.inl hk)))
  have HK := Aside0.mk (Kept.refl w (fun k_ => P0_ k_))
  have HW0 := Aside0.mk hB.size
  have HB := Aside0.mk hB
  clear hB
  have H : (laws_markKindTestS.l0 k l0 a1 0) = some (r1, r2) := h
  clear h
  have H' := Aside0.mk H
  clear H
  go_enter Try.func29, Try.ntmps29
  go_wp2
  go_loopg [1, 5] k (fun kq v1 v5 w' => ∃ (x0_1 : List (S65)) (x1_1 : Int) (x5_1 : Int), v1 = .int .i64 x1_1 ∧ v5 = .int .i64 x5_1 ∧ Aside0 (laws_markKindTestS.l0 kq x0_1 x1_1 x5_1 = some (r1, r2)) ∧ Aside0 (kq ≤ k) ∧ Aside0 (Kd.R k65 65 w' w0.heap.size (fun k_ => (P0_ k_ ∨ w.heap.size ≤ k_)) u9000_ x0_1) ∧ Aside0 (Kept w w' (fun k_ => P0_ k_)) ∧ Aside0 (Below w0.heap.size w0 w'))
  case atStart => exact ⟨(l0), (a1), (0), (by first | rfl | (simp; done) | (simp [*]; done)), (by first | rfl | (simp; done) | (simp [*]; done)), H', ⟨Nat.le_refl _⟩, ⟨by (with_reducible repeat (first | apply Kd.R_alloc | apply Kd.R_drewN | apply Kd.R_drew)); exact HO0.out⟩, ⟨by repeat (first | (with_reducible first | exact HK.out | apply Kept.alloc | apply Kept.drewN | apply Kept.drew) | exact HK.out)⟩, ⟨by repeat (first | (with_reducible first | exact HB.out | apply below_alloc | apply pw_below_drewN | apply below_drew1) | exact HB.out)⟩⟩
  case round =>
    clear H'
    try clear c2
    try clear p2
    obtain ⟨x0_1, x1_1, x5_1, rfl, rfl, HA, HK1, HO_0, HK, HB⟩ := hrel
    cases gk with
    | zero => exact absurd HA.out (by simp [laws_markKindTestS.l0])
    | succ k1 =>
      have H := HA.out
      clear HA
      simp only [laws_markKindTestS.l0] at H
      by_cases c3 : x5_1 < (x0_1.length : Int)
      · rw [if_pos c3] at H
        have c3b0 : decide (x5_1 < (x0_1.length : Int)) = true := decide_eq_true c3
        clear c3
        by_cases c4 : 0 ≤ x5_1
        · rw [if_pos c4] at H
          have c4b0 : decide (0 ≤ x5_1) = true := decide_eq_true c4
          clear c4
          obtain ⟨y200, hy200⟩ : ∃ y_ : List (S65), y_ = (x0_1.set (x5_1 : Int).toNat (⟨((Int.tmod x1_1 3) == 0), (rd_T65 x0_1 x5_1).f1, (rd_T65 x0_1 x5_1).f2⟩ : S65)) := ⟨_, rfl⟩
          replace H : ((some (y200.set (x5_1 : Int).toNat (⟨(rd_T65 y200 x5_1).f0, wrap64 (x1_1 + 1), (rd_T65 y200 x5_1).f2⟩ : S65) : List (S65))).bind fun y201 => (laws_markKindTestS.l0 k1 (y201.set (x5_1 : Int).toNat (⟨(rd_T65 y201 x5_1).f0, (rd_T65 y201 x5_1).f1, ((Int.tmod (wrap64 ((wrap64 (x1_1 + 1)) + 1)) 3) == 0)⟩ : S65)) (wrap64 ((wrap64 ((wrap64 (x1_1 + 1)) + 1)) + 1)) (wrap64 (x5_1 + 1)))) = some (r1, r2) := by first | (rw [hy200]; with_reducible exact H) | (have H2_ := (Option.bind_some _ _).symm.trans H; rw [hy200]; with_reducible exact H2_) | (have H2_ := (Option.bind_some _ _).symm.trans H; with_reducible exact H2_) | with_reducible exact H | (rw [hy200]; exact H) | exact H
          have Ny200 := Aside0.mk hy200
          clear hy200
          obtain ⟨y201, hy201⟩ : ∃ y_ : List (S65), y_ = (y200.set (x5_1 : Int).toNat (⟨(rd_T65 y200 x5_1).f0, wrap64 (x1_1 + 1), (rd_T65 y200 x5_1).f2⟩ : S65)) := ⟨_, rfl⟩
          replace H : (laws_markKindTestS.l0 k1 (y201.set (x5_1 : Int).toNat (⟨(rd_T65 y201 x5_1).f0, (rd_T65 y201 x5_1).f1, ((Int.tmod (wrap64 ((wrap64 (x1_1 + 1)) + 1)) 3) == 0)⟩ : S65)) (wrap64 ((wrap64 ((wrap64 (x1_1 + 1)) + 1)) + 1)) (wrap64 (x5_1 + 1))) = some (r1, r2) := by first | (rw [hy201]; with_reducible exact H) | (have H2_ := (Option.bind_some _ _).symm.trans H; rw [hy201]; with_reducible exact H2_) | (have H2_ := (Option.bind_some _ _).symm.trans H; with_reducible exact H2_) | with_reducible exact H | (rw [hy201]; exact H) | exact H
          have Ny201 := Aside0.mk hy201
          clear hy201
          obtain ⟨y202, hy202⟩ : ∃ y_ : List (S65), y_ = (y201.set (x5_1 : Int).toNat (⟨(rd_T65 y201 x5_1).f0, (rd_T65 y201 x5_1).f1, ((Int.tmod (wrap64 ((wrap64 (x1_1 + 1)) + 1)) 3) == 0)⟩ : S65)) := ⟨_, rfl⟩
          replace H : (laws_markKindTestS.l0 k1 y202 (wrap64 ((wrap64 ((wrap64 (x1_1 + 1)) + 1)) + 1)) (wrap64 (x5_1 + 1))) = some (r1, r2) := by first | (rw [hy202]; with_reducible exact H) | (have H2_ := (Option.bind_some _ _).symm.trans H; rw [hy202]; with_reducible exact H2_) | (have H2_ := (Option.bind_some _ _).symm.trans H; with_reducible exact H2_) | with_reducible exact H | (rw [hy202]; exact H) | exact H
          have Ny202 := Aside0.mk hy202
          clear hy202
          have H' := Aside0.mk H
          clear H
          obtain ⟨Ao8, co8, eo8⟩ := Kd.R_slice HO_0.out
          subst eo8
          have p5 : 0 ≤ (x5_1 : Int) := of_decide_eq_true (by first | (with_reducible assumption) | assumption)
          have q5 : (x5_1 : Int) < ((x0_1.length : Int) : Int) := of_decide_eq_true (by first | (with_reducible assumption) | assumption)
          obtain ⟨go5, co5, eo5, gb5, gl5, cl5, HG5⟩ := Kd.R_form HO_0.out (by omega)
          (first | cases eo5 | (injection eo5 with ea_ en_ ec_; (first | subst ea_ | (injection ea_ with ea_; subst ea_)); subst ec_; clear en_))
          have GB5 := Aside0.mk gb5
          have GG5 := Aside0.mk HG5
          clear gb5 gl5 HG5
          have HMgo5 := Aside0.mk (show (P0_ go5 ∨ w.heap.size ≤ go5) from (HO_0.out.1 _ rfl))
          obtain ⟨ce5, hcl5, hM5, hcc5, hfr5⟩ := Kd.R_elem HO_0.out z65 (x5_1 : Int) p5 q5
          obtain rfl := k65_openM hM5
          have hx5_0 : wr.cell? ⟨go5, (x5_1 : Int).toNat * 3, none⟩ = some (.bool ((rd_T65 x0_1 x5_1).f0)) := hcc5 0 _ rfl
          have hx5_1 : wr.cell? ⟨go5, (x5_1 : Int).toNat * 3 + 1, none⟩ = some (.int .i64 ((rd_T65 x0_1 x5_1).f1)) := hcc5 1 _ rfl
          have hx5_2 : wr.cell? ⟨go5, (x5_1 : Int).toNat * 3 + 2, none⟩ = some (.bool ((rd_T65 x0_1 x5_1).f2)) := hcc5 2 _ rfl
          have hf5_0 : wr.frozen? ⟨go5, (x5_1 : Int).toNat * 3, none⟩ = false := hfr5 0
          have hf5_1 : wr.frozen? ⟨go5, (x5_1 : Int).toNat * 3 + 1, none⟩ = false := hfr5 1
          have hf5_2 : wr.frozen? ⟨go5, (x5_1 : Int).toNat * 3 + 2, none⟩ = false := hfr5 2
          clear hcl5 hcc5 hfr5 hM5
          replace p5 := eq_true p5
          replace q5 := eq_true q5
          have HX9 := Aside0.mk (show Kd.R k65 65 wr w0.heap.size (fun k_ => (P0_ k_ ∨ w.heap.size ≤ k_)) (.slice (some ⟨go5, 0, none⟩) x0_1.length co8) x0_1 from (by (with_reducible repeat (first | apply Kd.R_alloc | apply Kd.R_drewN | apply Kd.R_drew)); exact HO_0.out))
          obtain ⟨ce9, hcl9, hM9, hcc9, hfr9⟩ := Kd.R_elem HX9.out z65 (x5_1 : Int) (of_decide_eq_true (by first | (with_reducible assumption) | assumption)) (by have h_ : (x5_1 : Int) < ((x0_1.length : Int) : Int) := of_decide_eq_true (by first | (with_reducible assumption) | assumption); first | exact h_ | (have e_ := (Kd.R_reads' HO_0.out).1; omega) | simpa using h_)
          obtain rfl := k65_openM hM9
          have HP9 := Kd.R_seg HX9.out (x5_1 : Int) (of_decide_eq_true (by first | (with_reducible assumption) | assumption)) (by have h_ : (x5_1 : Int) < ((x0_1.length : Int) : Int) := of_decide_eq_true (by first | (with_reducible assumption) | assumption); first | exact h_ | (have e_ := (Kd.R_reads' HO_0.out).1; omega) | simpa using h_) (seg := [.bool ((Int.tmod x1_1 3) == 0)]) (j := 0) hcl9 hcc9 (show 1 ≤ 3 from by decide) (x' := (⟨((Int.tmod x1_1 3) == 0), (rd_T65 x0_1 x5_1).f1, (rd_T65 x0_1 x5_1).f2⟩ : S65)) (k65_mkM _ _ _ (⟨((Int.tmod x1_1 3) == 0), (rd_T65 x0_1 x5_1).f1, (rd_T65 x0_1 x5_1).f2⟩ : S65) ) (fun _ hk => hk)
          have hx9_0 := hcc9 0 _ rfl
          (try simp only [show (k65).sz = 3 from rfl, Nat.mul_one, Nat.add_zero] at hx9_0)
          have hf9_0 := hfr9 0
          (try simp only [show (k65).sz = 3 from rfl, Nat.mul_one, Nat.add_zero] at hf9_0)
          clear hcl9 hcc9 hfr9 hM9
          go_wp2_with (first | ((with_reducible refine gate_store (t := 4) (p := 18) rfl ?_); refine store_event (t := 4) (p := 18) (v := ?vo_w10) (w1 := (wr.setCell ⟨go5, (x5_1 : Int).toNat * 3, none⟩ (.bool ((Int.tmod x1_1 3) == 0)))) ?hg ?ho ?hn ?hr ?_; (case ho => rfl); (case hg => rfl); (case hn => rfl); (case hr => first | (go_simp; done) | (go_simp; rfl)); intro w10 hw; have hg : wr.grownBy w10 (some go5) := (by rw [hw]; exact HP9.2); have hp_ : Kd.R k65 65 w10 w0.heap.size (fun k_ => (P0_ k_ ∨ w.heap.size ≤ k_)) (.slice (some ⟨go5, 0, none⟩) x0_1.length co8) y200 := (by rw [hw, Ny200.out]; exact HP9.1); clear HP9; have n0_ := Aside0.mk (hp_); have n1_ := Aside0.mk ((by rw [hw]; exact below_set (HB.out) GB5.out : Below w0.heap.size w0 w10)); have n2_ := Aside0.mk (Kept.of_grown (S := (fun k_ => P0_ k_)) hg (by repeat (first | (with_reducible first | exact HK.out | apply Kept.alloc | apply Kept.drewN | apply Kept.drew) | exact HK.out)) (fun k_ e_ => (HO_0.out.1 k_ e_))); clear HO_0; clear HB; clear HK; have HO_0 := n0_; have HB := n1_; have HK := n2_; clear n0_ n1_ n2_; clear hg hw hp_; have p6 : 0 ≤ (x5_1 : Int) := of_decide_eq_true (by first | (with_reducible assumption) | assumption); have q6 : (x5_1 : Int) < ((x0_1.length : Int) : Int) := of_decide_eq_true (by first | (with_reducible assumption) | assumption); obtain ⟨ce6, hcl6, hM6, hcc6, hfr6⟩ := Kd.R_elem HO_0.out z65 (x5_1 : Int) p6 q6; obtain rfl := k65_openM hM6; have hx6_0 : w10.cell? ⟨go5, (x5_1 : Int).toNat * 3, none⟩ = some (.bool ((rd_T65 y200 x5_1).f0)) := hcc6 0 _ rfl; have hx6_1 : w10.cell? ⟨go5, (x5_1 : Int).toNat * 3 + 1, none⟩ = some (.int .i64 ((rd_T65 y200 x5_1).f1)) := hcc6 1 _ rfl; have hx6_2 : w10.cell? ⟨go5, (x5_1 : Int).toNat * 3 + 2, none⟩ = some (.bool ((rd_T65 y200 x5_1).f2)) := hcc6 2 _ rfl; have hf6_0 : w10.frozen? ⟨go5, (x5_1 : Int).toNat * 3, none⟩ = false := hfr6 0; have hf6_1 : w10.frozen? ⟨go5, (x5_1 : Int).toNat * 3 + 1, none⟩ = false := hfr6 1; have hf6_2 : w10.frozen? ⟨go5, (x5_1 : Int).toNat * 3 + 2, none⟩ = false := hfr6 2; clear hcl6 hcc6 hfr6 hM6; replace p6 := eq_true p6; replace q6 := eq_true q6; have HX11 := Aside0.mk (show Kd.R k65 65 w10 w0.heap.size (fun k_ => (P0_ k_ ∨ w.heap.size ≤ k_)) (.slice (some ⟨go5, 0, none⟩) x0_1.length co8) y200 from (by (with_reducible repeat (first | apply Kd.R_alloc | apply Kd.R_drewN | apply Kd.R_drew)); exact HO_0.out)); obtain ⟨ce11, hcl11, hM11, hcc11, hfr11⟩ := Kd.R_elem HX11.out z65 (x5_1 : Int) (of_decide_eq_true (by first | (with_reducible assumption) | assumption)) (by have h_ : (x5_1 : Int) < ((x0_1.length : Int) : Int) := of_decide_eq_true (by first | (with_reducible assumption) | assumption); first | exact h_ | (have e_ := (Kd.R_reads' HO_0.out).1; omega) | simpa using h_); obtain rfl := k65_openM hM11; have HP11 := Kd.R_seg HX11.out (x5_1 : Int) (of_decide_eq_true (by first | (with_reducible assumption) | assumption)) (by have h_ : (x5_1 : Int) < ((x0_1.length : Int) : Int) := of_decide_eq_true (by first | (with_reducible assumption) | assumption); first | exact h_ | (have e_ := (Kd.R_reads' HO_0.out).1; omega) | simpa using h_) (seg := [.int .i64 (wrap64 (x1_1 + 1))]) (j := 1) hcl11 hcc11 (show 2 ≤ 3 from by decide) (x' := (⟨(rd_T65 y200 x5_1).f0, wrap64 (x1_1 + 1), (rd_T65 y200 x5_1).f2⟩ : S65)) (k65_mkM _ _ _ (⟨(rd_T65 y200 x5_1).f0, wrap64 (x1_1 + 1), (rd_T65 y200 x5_1).f2⟩ : S65) ) (fun _ hk => hk); have hx11_1 := hcc11 1 _ rfl; (try simp only [show (k65).sz = 3 from rfl, Nat.mul_one, Nat.add_zero] at hx11_1); have hf11_1 := hfr11 1; (try simp only [show (k65).sz = 3 from rfl, Nat.mul_one, Nat.add_zero] at hf11_1); clear hcl11 hcc11 hfr11 hM11) | ((with_reducible refine gate_store (t := 3) (p := 25) rfl ?_); refine store_event (t := 3) (p := 25) (v := ?vo_w12) (w1 := (w10.setCell ⟨go5, (x5_1 : Int).toNat * 3 + 1, none⟩ (.int .i64 (wrap64 (x1_1 + 1))))) ?hg ?ho ?hn ?hr ?_; (case ho => rfl); (case hg => rfl); (case hn => rfl); (case hr => first | (go_simp; done) | (go_simp; rfl)); intro w12 hw; have hg : w10.grownBy w12 (some go5) := (by rw [hw]; exact HP11.2); have hp_ : Kd.R k65 65 w12 w0.heap.size (fun k_ => (P0_ k_ ∨ w.heap.size ≤ k_)) (.slice (some ⟨go5, 0, none⟩) x0_1.length co8) y201 := (by rw [hw, Ny201.out]; exact HP11.1); clear HP11; have n0_ := Aside0.mk (hp_); have n1_ := Aside0.mk ((by rw [hw]; exact below_set (HB.out) GB5.out : Below w0.heap.size w0 w12)); have n2_ := Aside0.mk (Kept.of_grown (S := (fun k_ => P0_ k_)) hg (by repeat (first | (with_reducible first | exact HK.out | apply Kept.alloc | apply Kept.drewN | apply Kept.drew) | exact HK.out)) (fun k_ e_ => (HO_0.out.1 k_ e_))); clear HO_0; clear HB; clear HK; have HO_0 := n0_; have HB := n1_; have HK := n2_; clear n0_ n1_ n2_; clear hg hw hp_; have p7 : 0 ≤ (x5_1 : Int) := of_decide_eq_true (by first | (with_reducible assumption) | assumption); have q7 : (x5_1 : Int) < ((x0_1.length : Int) : Int) := of_decide_eq_true (by first | (with_reducible assumption) | assumption); obtain ⟨ce7, hcl7, hM7, hcc7, hfr7⟩ := Kd.R_elem HO_0.out z65 (x5_1 : Int) p7 q7; obtain rfl := k65_openM hM7; have hx7_0 : w12.cell? ⟨go5, (x5_1 : Int).toNat * 3, none⟩ = some (.bool ((rd_T65 y201 x5_1).f0)) := hcc7 0 _ rfl; have hx7_1 : w12.cell? ⟨go5, (x5_1 : Int).toNat * 3 + 1, none⟩ = some (.int .i64 ((rd_T65 y201 x5_1).f1)) := hcc7 1 _ rfl; have hx7_2 : w12.cell? ⟨go5, (x5_1 : Int).toNat * 3 + 2, none⟩ = some (.bool ((rd_T65 y201 x5_1).f2)) := hcc7 2 _ rfl; have hf7_0 : w12.frozen? ⟨go5, (x5_1 : Int).toNat * 3, none⟩ = false := hfr7 0; have hf7_1 : w12.frozen? ⟨go5, (x5_1 : Int).toNat * 3 + 1, none⟩ = false := hfr7 1; have hf7_2 : w12.frozen? ⟨go5, (x5_1 : Int).toNat * 3 + 2, none⟩ = false := hfr7 2; clear hcl7 hcc7 hfr7 hM7; replace p7 := eq_true p7; replace q7 := eq_true q7; have HX13 := Aside0.mk (show Kd.R k65 65 w12 w0.heap.size (fun k_ => (P0_ k_ ∨ w.heap.size ≤ k_)) (.slice (some ⟨go5, 0, none⟩) x0_1.length co8) y201 from (by (with_reducible repeat (first | apply Kd.R_alloc | apply Kd.R_drewN | apply Kd.R_drew)); exact HO_0.out)); obtain ⟨ce13, hcl13, hM13, hcc13, hfr13⟩ := Kd.R_elem HX13.out z65 (x5_1 : Int) (of_decide_eq_true (by first | (with_reducible assumption) | assumption)) (by have h_ : (x5_1 : Int) < ((x0_1.length : Int) : Int) := of_decide_eq_true (by first | (with_reducible assumption) | assumption); first | exact h_ | (have e_ := (Kd.R_reads' HO_0.out).1; omega) | simpa using h_); obtain rfl := k65_openM hM13; have HP13 := Kd.R_seg HX13.out (x5_1 : Int) (of_decide_eq_true (by first | (with_reducible assumption) | assumption)) (by have h_ : (x5_1 : Int) < ((x0_1.length : Int) : Int) := of_decide_eq_true (by first | (with_reducible assumption) | assumption); first | exact h_ | (have e_ := (Kd.R_reads' HO_0.out).1; omega) | simpa using h_) (seg := [.bool ((Int.tmod (wrap64 ((wrap64 (x1_1 + 1)) + 1)) 3) == 0)]) (j := 2) hcl13 hcc13 (show 3 ≤ 3 from by decide) (x' := (⟨(rd_T65 y201 x5_1).f0, (rd_T65 y201 x5_1).f1, ((Int.tmod (wrap64 ((wrap64 (x1_1 + 1)) + 1)) 3) == 0)⟩ : S65)) (k65_mkM _ _ _ (⟨(rd_T65 y201 x5_1).f0, (rd_T65 y201 x5_1).f1, ((Int.tmod (wrap64 ((wrap64 (x1_1 + 1)) + 1)) 3) == 0)⟩ : S65) ) (fun _ hk => hk); have hx13_2 := hcc13 2 _ rfl; (try simp only [show (k65).sz = 3 from rfl, Nat.mul_one, Nat.add_zero] at hx13_2); have hf13_2 := hfr13 2; (try simp only [show (k65).sz = 3 from rfl, Nat.mul_one, Nat.add_zero] at hf13_2); clear hcl13 hcc13 hfr13 hM13) | ((with_reducible refine gate_store (t := 4) (p := 34) rfl ?_); refine store_event (t := 4) (p := 34) (v := ?vo_w14) (w1 := (w12.setCell ⟨go5, (x5_1 : Int).toNat * 3 + 2, none⟩ (.bool ((Int.tmod (wrap64 ((wrap64 (x1_1 + 1)) + 1)) 3) == 0)))) ?hg ?ho ?hn ?hr ?_; (case ho => rfl); (case hg => rfl); (case hn => rfl); (case hr => first | (go_simp; done) | (go_simp; rfl)); intro w14 hw; have hg : w12.grownBy w14 (some go5) := (by rw [hw]; exact HP13.2); have hp_ : Kd.R k65 65 w14 w0.heap.size (fun k_ => (P0_ k_ ∨ w.heap.size ≤ k_)) (.slice (some ⟨go5, 0, none⟩) x0_1.length co8) y202 := (by rw [hw, Ny202.out]; exact HP13.1); clear HP13; have n0_ := Aside0.mk (hp_); have n1_ := Aside0.mk ((by rw [hw]; exact below_set (HB.out) GB5.out : Below w0.heap.size w0 w14)); have n2_ := Aside0.mk (Kept.of_grown (S := (fun k_ => P0_ k_)) hg (by repeat (first | (with_reducible first | exact HK.out | apply Kept.alloc | apply Kept.drewN | apply Kept.drew) | exact HK.out)) (fun k_ e_ => (HO_0.out.1 k_ e_))); clear HO_0; clear HB; clear HK; have HO_0 := n0_; have HB := n1_; have HK := n2_; clear n0_ n1_ n2_; clear hg hw hp_))
          go_roundg k1
          case measure => have := HK1.out; omega
          case rel => exact ⟨(y202), (wrap64 ((wrap64 ((wrap64 (x1_1 + 1)) + 1)) + 1)), (wrap64 (x5_1 + 1)), (by first | rfl | (simp; done) | (simp [*]; done)), (by first | rfl | (simp; done) | (simp [*]; done)), H', ⟨by have := HK1.out; omega⟩, ⟨by (with_reducible repeat (first | apply Kd.R_alloc | apply Kd.R_drewN | apply Kd.R_drew)); exact HO_0.out⟩, ⟨by repeat (first | (with_reducible first | exact HK.out | apply Kept.alloc | apply Kept.drewN | apply Kept.drew) | exact HK.out)⟩, ⟨by repeat (first | (with_reducible first | exact HB.out | apply below_alloc | apply pw_below_drewN | apply below_drew1) | exact HB.out)⟩⟩
        · rw [if_neg c4] at H
          exact absurd H (by simp)
      · rw [if_neg c3] at H
        have c3b0 : decide (x5_1 < (x0_1.length : Int)) = false := decide_eq_false c3
        clear c3
        simp only [Option.some.injEq, Prod.mk.injEq] at H
        obtain ⟨rfl, rfl⟩ := H
        obtain ⟨Ao15, co15, eo15⟩ := Kd.R_slice HO_0.out
        subst eo15
        go_wp2
        go_ret
        exact ⟨by first | rfl | (simp [errW_none, errW_some] <;> rfl) | (simp [*, errW_none, errW_some] <;> rfl), by (with_reducible repeat (first | apply Kd.R_alloc | apply Kd.R_drewN | apply Kd.R_drew)); exact HO_0.out, by repeat (first | (with_reducible first | exact HB.out | apply below_alloc | apply pw_below_drewN | apply below_drew1) | exact HB.out), by repeat (first | (with_reducible first | exact HK.out | apply Kept.alloc | apply Kept.drewN | apply Kept.drew) | exact HK.out)⟩

/-! ### laws_markIntS: function 30 -/
def laws_markIntS.l0 : Nat → List Int → Int → Int → Option (Int × List Int)
  | 0, _, _, _ => none
  | k + 1, x0, x1, x5 => if x5 < (x0.length : Int) then (if 0 ≤ x5 then (laws_markIntS.l0 k (x0.set (x5 : Int).toNat x1) (wrap64 (x1 + 1)) (wrap64 (x5 + 1))) else (none)) else (some (x1, x0))
def laws_markIntS.f (k : Nat) (l0 : List Int) (a1 : Int) : Option (Int × List Int) := laws_markIntS.l0 k l0 a1 0
theorem laws_markIntS.mono_l : ∀ k, (∀ y0 y1 y2, LeO (laws_markIntS.l0 k y0 y1 y2) (laws_markIntS.l0 (k + 1) y0 y1 y2))
  | 0 => fun _ _ _ r h => by simp [laws_markIntS.l0] at h
  | k + 1 => by
    have ih0 := laws_markIntS.mono_l k
    · intro y0 y1 y2
      unfold laws_markIntS.l0
      repeat' first
      | (with_reducible exact ih0 _ _ _)
      | (with_reducible exact LeO.refl _)
      | (with_reducible exact LeO.none _)
      | (with_reducible refine LeO.ite ?_ ?_)
      | (with_reducible refine LeO.bind ?_ (fun _ => ?_))
      | exact ih0 _ _ _
      | exact LeO.none _
      | refine LeO.ite ?_ ?_
      | refine LeO.bind ?_ (fun _ => ?_)
theorem laws_markIntS.mono : ∀ a0 a1 k, LeO (laws_markIntS.f k a0 a1) (laws_markIntS.f (k + 1) a0 a1) := by
  intro a0 a1 k
  have ih0 := laws_markIntS.mono_l k
  unfold laws_markIntS.f
  repeat' first
      | (with_reducible exact ih0 _ _ _)
      | (with_reducible exact LeO.refl _)
      | (with_reducible exact LeO.none _)
      | (with_reducible refine LeO.ite ?_ ?_)
      | (with_reducible refine LeO.bind ?_ (fun _ => ?_))
      | exact ih0 _ _ _
      | exact LeO.none _
      | refine LeO.ite ?_ ?_
      | refine LeO.bind ?_ (fun _ => ?_)
set_option maxHeartbeats 8000000 in
set_option maxRecDepth 100000 in
theorem laws_markIntS.calls (k : Nat) (P0_ : Nat → Prop) (u9000_ : Value) (l0 : List Int) (a1 : Int) (r1 : Int) (r2 : List Int) (w0 w : World) (hB : Below w0.heap.size w0 w) (ho0 : Kd.R (Kd.int .i64) 3 w w0.heap.size P0_ u9000_ l0) (h : laws_markIntS.f k l0 a1 = some (r1, r2)) :
    Calls Try.prog 30 #[u9000_, .int .i64 a1] w fun e w' => e = .returned (.int .i64 r1) ∧ Kd.R (Kd.int .i64) 3 w' w0.heap.size (fun k_ => (P0_ k_ ∨ w.heap.size ≤ k_)) u9000_ r2 ∧ Below w0.heap.size w0 w' ∧ Kept w w' (fun k_ => P0_ k_) := by
  have HO0 := Aside0.mk (show Kd.R (Kd.int .i64) 3 w w0.heap.size (fun k_ => (P0_ k_ ∨ w.heap.size ≤ k_)) u9000_ l0 from Kd.R_mono ho0 (fun k_ hk => (.inl hk)))
  have HK := Aside0.mk (Kept.refl w (fun k_ => P0_ k_))
  have HW0 := Aside0.mk hB.size
  have HB := Aside0.mk hB
  clear hB
  have H : (laws_markIntS.l0 k l0 a1 0) = some (r1, r2) := h
  clear h
  have H' := Aside0.mk H
  clear H
  go_enter Try.func30, Try.ntmps30
  go_wp2
  go_loopg [1, 5] k (fun kq v1 v5 w' => ∃ (x0_1 : List Int) (x1_1 : Int) (x5_1 : Int), v1 = .int .i64 x1_1 ∧ v5 = .int .i64 x5_1 ∧ Aside0 (laws_markIntS.l0 kq x0_1 x1_1 x5_1 = some (r1, r2)) ∧ Aside0 (kq ≤ k) ∧ Aside0 (Kd.R (Kd.int .i64) 3 w' w0.heap.size (fun k_ => (P0_ k_ ∨ w.heap.size ≤ k_)) u9000_ x0_1) ∧ Aside0 (Kept w w' (fun k_ => P0_ k_)) ∧ Aside0 (Below w0.heap.size w0 w'))
  case atStart => exact ⟨(l0), (a1), (0), (by first | rfl | (simp; done) | (simp [*]; done)), (by first | rfl | (simp; done) | (simp [*]; done)), H', ⟨Nat.le_refl _⟩, ⟨by (with_reducible repeat (first | apply Kd.R_alloc | apply Kd.R_drewN | apply Kd.R_drew)); exact HO0.out⟩, ⟨by repeat (first | (with_reducible first | exact HK.out | apply Kept.alloc | apply Kept.drewN | apply Kept.drew) | exact HK.out)⟩, ⟨by repeat (first | (with_reducible first | exact HB.out | apply below_alloc | apply pw_below_drewN | apply below_drew1) | exact HB.out)⟩⟩
  case round =>
    clear H'
    try clear p2
    obtain ⟨x0_1, x1_1, x5_1, rfl, rfl, HA, HK1, HO_0, HK, HB⟩ := hrel
    cases gk with
    | zero => exact absurd HA.out (by simp [laws_markIntS.l0])
    | succ k1 =>
      have H := HA.out
      clear HA
      simp only [laws_markIntS.l0] at H
      by_cases c3 : x5_1 < (x0_1.length : Int)
      · rw [if_pos c3] at H
        have c3b0 : decide (x5_1 < (x0_1.length : Int)) = true := decide_eq_true c3
        clear c3
        by_cases c4 : 0 ≤ x5_1
        · rw [if_pos c4] at H
          have c4b0 : decide (0 ≤ x5_1) = true := decide_eq_true c4
          clear c4
          obtain ⟨y203, hy203⟩ : ∃ y_ : List Int, y_ = (x0_1.set (x5_1 : Int).toNat x1_1) := ⟨_, rfl⟩
          replace H : (laws_markIntS.l0 k1 y203 (wrap64 (x1_1 + 1)) (wrap64 (x5_1 + 1))) = some (r1, r2) := by first | (rw [hy203]; with_reducible exact H) | (have H2_ := (Option.bind_some _ _).symm.trans H; rw [hy203]; with_reducible exact H2_) | (have H2_ := (Option.bind_some _ _).symm.trans H; with_reducible exact H2_) | with_reducible exact H | (rw [hy203]; exact H) | exact H
          have Ny203 := Aside0.mk hy203
          clear hy203
          have H' := Aside0.mk H
          clear H
          obtain ⟨Ao6, co6, eo6⟩ := Kd.R_slice HO_0.out
          subst eo6
          have p5 : 0 ≤ (x5_1 : Int) := of_decide_eq_true (by first | (with_reducible assumption) | assumption)
          have q5 : (x5_1 : Int) < ((x0_1.length : Int) : Int) := of_decide_eq_true (by first | (with_reducible assumption) | assumption)
          obtain ⟨go5, co5, eo5, gb5, gl5, cl5, HG5⟩ := Kd.R_form HO_0.out (by omega)
          (first | cases eo5 | (injection eo5 with ea_ en_ ec_; (first | subst ea_ | (injection ea_ with ea_; subst ea_)); subst ec_; clear en_))
          have GB5 := Aside0.mk gb5
          have GG5 := Aside0.mk HG5
          clear gb5 gl5 HG5
          have HMgo5 := Aside0.mk (show (P0_ go5 ∨ w.heap.size ≤ go5) from (HO_0.out.1 _ rfl))
          obtain ⟨hx5_0, hf5_0⟩ := Kd.R_celln 0 HO_0.out (x5_1 : Int) p5 q5
          replace p5 := eq_true p5
          replace q5 := eq_true q5
          have HP7 := Kd.R_putg HO_0.out (x5_1 : Int) x1_1
          go_wp2_with (first | ((with_reducible refine gate_store (t := 3) (p := 15) rfl ?_); refine store_event (t := 3) (p := 15) (v := ?vo_w8) (w1 := (wr.setCell ⟨go5, (x5_1 : Int).toNat, none⟩ (.int .i64 x1_1))) ?hg ?ho ?hn ?hr ?_; (case ho => rfl); (case hg => rfl); (case hn => rfl); (case hr => first | (go_simp; done) | (go_simp; rfl)); intro w8 hw; have hg : wr.grownBy w8 (some go5) := (by rw [hw]; exact HP7.2); have hp_ : Kd.R (Kd.int .i64) 3 w8 w0.heap.size (fun k_ => (P0_ k_ ∨ w.heap.size ≤ k_)) (.slice (some ⟨go5, 0, none⟩) x0_1.length co6) y203 := (by rw [hw, Ny203.out]; exact HP7.1); clear HP7; have n0_ := Aside0.mk (hp_); have n1_ := Aside0.mk ((by rw [hw]; exact below_set (HB.out) GB5.out : Below w0.heap.size w0 w8)); have n2_ := Aside0.mk (Kept.of_grown (S := (fun k_ => P0_ k_)) hg (by repeat (first | (with_reducible first | exact HK.out | apply Kept.alloc | apply Kept.drewN | apply Kept.drew) | exact HK.out)) (fun k_ e_ => (HO_0.out.1 k_ e_))); clear HO_0; clear HB; clear HK; have HO_0 := n0_; have HB := n1_; have HK := n2_; clear n0_ n1_ n2_; clear hg hw hp_))
          go_roundg k1
          case measure => have := HK1.out; omega
          case rel => exact ⟨(y203), (wrap64 (x1_1 + 1)), (wrap64 (x5_1 + 1)), (by first | rfl | (simp; done) | (simp [*]; done)), (by first | rfl | (simp; done) | (simp [*]; done)), H', ⟨by have := HK1.out; omega⟩, ⟨by (with_reducible repeat (first | apply Kd.R_alloc | apply Kd.R_drewN | apply Kd.R_drew)); exact HO_0.out⟩, ⟨by repeat (first | (with_reducible first | exact HK.out | apply Kept.alloc | apply Kept.drewN | apply Kept.drew) | exact HK.out)⟩, ⟨by repeat (first | (with_reducible first | exact HB.out | apply below_alloc | apply pw_below_drewN | apply below_drew1) | exact HB.out)⟩⟩
        · rw [if_neg c4] at H
          exact absurd H (by simp)
      · rw [if_neg c3] at H
        have c3b0 : decide (x5_1 < (x0_1.length : Int)) = false := decide_eq_false c3
        clear c3
        simp only [Option.some.injEq, Prod.mk.injEq] at H
        obtain ⟨rfl, rfl⟩ := H
        obtain ⟨Ao9, co9, eo9⟩ := Kd.R_slice HO_0.out
        subst eo9
        go_wp2
        go_ret
        exact ⟨by first | rfl | (simp [errW_none, errW_some] <;> rfl) | (simp [*, errW_none, errW_some] <;> rfl), by (with_reducible repeat (first | apply Kd.R_alloc | apply Kd.R_drewN | apply Kd.R_drew)); exact HO_0.out, by repeat (first | (with_reducible first | exact HB.out | apply below_alloc | apply pw_below_drewN | apply below_drew1) | exact HB.out), by repeat (first | (with_reducible first | exact HK.out | apply Kept.alloc | apply Kept.drewN | apply Kept.drew) | exact HK.out)⟩

/-! ### laws_heldIntS: function 31 -/
def laws_heldIntS.l0 : Nat → List Int → Int → Int → Option (Int)
  | 0, _, _, _ => none
  | k + 1, x0, x1, x5 => if x5 < (x0.length : Int) then (if 0 ≤ x5 then (if (rd x0 x5) = x1 then (laws_heldIntS.l0 k x0 (wrap64 (x1 + 1)) (wrap64 (x5 + 1))) else (some (-1))) else (none)) else (some x1)
def laws_heldIntS.f (k : Nat) (l0 : List Int) (a1 : Int) : Option (Int) := laws_heldIntS.l0 k l0 a1 0
theorem laws_heldIntS.mono_l : ∀ k, (∀ y0 y1 y2, LeO (laws_heldIntS.l0 k y0 y1 y2) (laws_heldIntS.l0 (k + 1) y0 y1 y2))
  | 0 => fun _ _ _ r h => by simp [laws_heldIntS.l0] at h
  | k + 1 => by
    have ih0 := laws_heldIntS.mono_l k
    · intro y0 y1 y2
      unfold laws_heldIntS.l0
      repeat' first
      | (with_reducible exact ih0 _ _ _)
      | (with_reducible exact LeO.refl _)
      | (with_reducible exact LeO.none _)
      | (with_reducible refine LeO.ite ?_ ?_)
      | (with_reducible refine LeO.bind ?_ (fun _ => ?_))
      | exact ih0 _ _ _
      | exact LeO.none _
      | refine LeO.ite ?_ ?_
      | refine LeO.bind ?_ (fun _ => ?_)
theorem laws_heldIntS.mono : ∀ a0 a1 k, LeO (laws_heldIntS.f k a0 a1) (laws_heldIntS.f (k + 1) a0 a1) := by
  intro a0 a1 k
  have ih0 := laws_heldIntS.mono_l k
  unfold laws_heldIntS.f
  repeat' first
      | (with_reducible exact ih0 _ _ _)
      | (with_reducible exact LeO.refl _)
      | (with_reducible exact LeO.none _)
      | (with_reducible refine LeO.ite ?_ ?_)
      | (with_reducible refine LeO.bind ?_ (fun _ => ?_))
      | exact ih0 _ _ _
      | exact LeO.none _
      | refine LeO.ite ?_ ?_
      | refine LeO.bind ?_ (fun _ => ?_)
set_option maxHeartbeats 8000000 in
set_option maxRecDepth 100000 in
theorem laws_heldIntS.calls (k : Nat) (A0 : Option Addr) (c0 : Nat) (l0 : List Int) (a1 : Int) (r : Int) (w : World) (hr0 : Kd.C (Kd.int .i64) w A0 l0.length l0) (hc0 : l0.length ≤ c0) (h : laws_heldIntS.f k l0 a1 = some r) :
    Calls Try.prog 31 #[.slice A0 l0.length c0, .int .i64 a1] w fun e w' => e = .returned (.int .i64 r) ∧ Drawn0 w w' := by
  have HR0 := Aside0.mk hr0
  have HC0 := Aside0.mk hc0
  clear hr0 hc0
  have H : (laws_heldIntS.l0 k l0 a1 0) = some r := h
  clear h
  have H' := Aside0.mk H
  clear H
  go_enter Try.func31, Try.ntmps31
  go_wp2
  go_loopg [1, 5] k (fun kq v1 v5 w' => ∃ (x1_1 : Int) (x5_1 : Int), v1 = .int .i64 x1_1 ∧ v5 = .int .i64 x5_1 ∧ Aside0 (laws_heldIntS.l0 kq l0 x1_1 x5_1 = some r) ∧ Aside0 (kq ≤ k) ∧ Drawn0 w w')
  case atStart => exact ⟨(a1), (0), (by first | rfl | (simp; done) | (simp [*]; done)), (by first | rfl | (simp; done) | (simp [*]; done)), H', ⟨Nat.le_refl _⟩, by repeat (first | exact Drawn0.refl _ | apply Drawn0.step)⟩
  case round =>
    clear H'
    try clear p2
    obtain ⟨x1_1, x5_1, rfl, rfl, HA, HK1, ⟨m1, rfl⟩⟩ := hrel
    cases gk with
    | zero => exact absurd HA.out (by simp [laws_heldIntS.l0])
    | succ k1 =>
      have H := HA.out
      clear HA
      simp only [laws_heldIntS.l0] at H
      by_cases c3 : x5_1 < (l0.length : Int)
      · rw [if_pos c3] at H
        have c3b0 : decide (x5_1 < (l0.length : Int)) = true := decide_eq_true c3
        clear c3
        by_cases c4 : 0 ≤ x5_1
        · rw [if_pos c4] at H
          have c4b0 : decide (0 ≤ x5_1) = true := decide_eq_true c4
          clear c4
          by_cases c5 : (rd l0 x5_1) = x1_1
          · rw [if_pos c5] at H
            have c5b0 : ((rd l0 x5_1) == x1_1) = true := beq_iff_eq.mpr c5
            have c5b1 : ((rd l0 x5_1) != x1_1) = false := bne_eq_false_iff_eq.mpr c5
            clear c5
            have H' := Aside0.mk H
            clear H
            have p204 : 0 ≤ (x5_1 : Int) := of_decide_eq_true (by first | (with_reducible assumption) | assumption)
            have q204 : x5_1 < (l0.length : Int) := of_decide_eq_true (by first | (with_reducible assumption) | assumption)
            obtain ⟨ad204, e204, hx204_0⟩ := Kd.at_int HR0.out x5_1 p204 q204
            cases e204
            replace p204 := eq_true p204
            replace q204 := eq_true q204
            go_wp2
            go_roundg k1
            case measure => have := HK1.out; omega
            case rel => exact ⟨(wrap64 (x1_1 + 1)), (wrap64 (x5_1 + 1)), (by first | rfl | (simp; done) | (simp [*]; done)), (by first | rfl | (simp; done) | (simp [*]; done)), H', ⟨by have := HK1.out; omega⟩, by repeat (first | exact Drawn0.refl _ | apply Drawn0.step)⟩
          · rw [if_neg c5] at H
            have c5b0 : ((rd l0 x5_1) == x1_1) = false := beq_eq_false_iff_ne.mpr c5
            have c5b1 : ((rd l0 x5_1) != x1_1) = true := bne_iff_ne.mpr c5
            obtain rfl := Option.some.inj H
            have p204 : 0 ≤ (x5_1 : Int) := of_decide_eq_true (by first | (with_reducible assumption) | assumption)
            have q204 : x5_1 < (l0.length : Int) := of_decide_eq_true (by first | (with_reducible assumption) | assumption)
            obtain ⟨ad204, e204, hx204_0⟩ := Kd.at_int HR0.out x5_1 p204 q204
            cases e204
            replace p204 := eq_true p204
            replace q204 := eq_true q204
            go_wp2
            go_ret
            exact ⟨by first | rfl | (simp; done) | (simp [*]; done), by repeat (first | exact Drawn0.refl _ | apply Drawn0.step)⟩
        · rw [if_neg c4] at H
          exact absurd H (by simp)
      · rw [if_neg c3] at H
        have c3b0 : decide (x5_1 < (l0.length : Int)) = false := decide_eq_false c3
        clear c3
        obtain rfl := Option.some.inj H
        go_wp2
        go_ret
        exact ⟨by first | rfl | (simp; done) | (simp [*]; done), by repeat (first | exact Drawn0.refl _ | apply Drawn0.step)⟩

-- FOR laws.FnExactIdleKindTests
theorem toTrueIdleKindTests (F F' L : List S65) (l0 : List S67) (W : World) (A : Option Addr) (n c : Nat) (h0 : l0.length = 0 → F' = []) (h2 : l0.length ≠ 0 → F' = F) (hL : F.take l0.length = L) (hLl : L.length = l0.length) (hLF : L.length ≤ F.length) (q1 : F'.length ≤ c) (q2 : Kd.C k65 W A F'.length F') (hn : n = l0.length ∨ F' = [] ∧ n = 0) :
    n = L.length ∧ Kd.C k65 W A L.length L ∧ L.length ≤ c := by
  by_cases hz : l0.length = 0
  · have h_ := h0 hz
    subst h_
    have hLn : L = [] := List.eq_nil_of_length_eq_zero (hLl.trans hz)
    subst hLn
    refine ⟨?_, q2, Nat.zero_le _⟩
    rcases hn with h_ | ⟨_, h_⟩
    · rw [h_, hz]; rfl
    · exact h_
  · have h_ := h2 hz
    subst h_
    refine ⟨?_, by have h_ := Hw.C_take q2 L.length hLF; rw [hLl, hL, ← hLl] at h_; exact h_, Nat.le_trans hLF q1⟩
    rcases hn with h_ | ⟨h_, h3_⟩
    · exact h_.trans hLl.symm
    · rw [h3_, ← hL, h_]; simp
set_option maxHeartbeats 8000000 in
set_option maxRecDepth 100000 in
theorem hand_FnExactIdleKindTests (k : Nat) (a0 : Int) (A1 : Option Addr) (c1 : Nat) (l1 : List S67) (w : World) (hr : Kd.C k67 w A1 l1.length l1) (hc : l1.length ≤ c1)
    (F F' L Lx : List S65) (t : Int) (G : List Int) (r2 : Bool) (Gm : List Int) (kx m : Int) (s : Int) (hs : laws_szKindTestS.f l1 1000000 = some s) (hs0 : 0 ≤ s)
    (hF : full_toKindTestS.f k l1 false = some F) (hL : F.take l1.length = L) (hLl : L.length = l1.length) (hF' : full_toKindTestS.f k l1 true = some F') (hF2 : l1.length ≠ 0 → F' = F) (hF0 : l1.length = 0 → F' = [])
    (ht : laws_roomBehind.f (l1.length : Int) = some t) (hn : wrap64 ((l1.length : Int) + t) = (F.length : Int)) (he : laws_eqKindTestS.f k F F = some true)
    (h1 : spec_IdleKindTests.f k a0 L = some (G, r2)) (h2 : impl_IdleKindTests.f k a0 L = some (G, r2)) (hq : laws_eqIntS.f k G G = some true) (hmx : laws_markKindTestS.f k L 101 = some (kx, Lx)) (hkx : 0 ≤ kx) (hmg : laws_markIntS.f k G 101 = some (m, Gm)) (hhg : laws_heldIntS.f k Gm 101 = some m) (hm0 : 0 ≤ m) (hGm : Gm.length = G.length) :
    Calls Try.prog 7 #[.int .i64 a0, .slice A1 l1.length c1] w fun e w' => e = .returned (.bool true) ∧ Below w.heap.size w w' := by
  have HR := Aside0.mk hr
  have HC := Aside0.mk hc
  have H0 := Aside0.mk hs
  have HF := Aside0.mk hF
  have HF' := Aside0.mk hF'
  have HT := Aside0.mk ht
  have HN := Aside0.mk hn
  have HE := Aside0.mk he
  have H1 := Aside0.mk h1
  have H2 := Aside0.mk h2
  have HF2 := Aside0.mk hF2
  have HF0 := Aside0.mk hF0
  have HL := Aside0.mk hL
  have HLl := Aside0.mk hLl
  have HQ := Aside0.mk hq
  have HMX := Aside0.mk hmx
  have HMG := Aside0.mk hmg
  have HHG := Aside0.mk hhg
  have HGm := Aside0.mk hGm
  have hs1 : decide (s < 0) = false := decide_eq_false (by omega)
  have dk : decide (kx < 0) = false := decide_eq_false (by omega)
  have dm : decide (m < 0) = false := decide_eq_false (by omega)
  have HL2 : Aside0 (L.length ≤ F.length) := ⟨by rw [← hL, List.length_take]; omega⟩
  have hr2_ : (r2 != r2) = false := by simp
  clear hs0 hkx hm0 hr hc hs hF hF' ht hn he h1 h2 hF2 hF0 hL hLl hq hmx hmg hhg hGm
  go_enter Try.func7, Try.ntmps7
  go_wp2_with fail
  refine (laws_szKindTestS.calls _ _ l1 _ _ _ HR.out HC.out H0.out).mono ?_
  rintro e w1 ⟨rfl, ⟨nd, hnd⟩⟩
  have HB1 : Aside0 (Below w.heap.size w w1) := ⟨by rw [hnd]; exact pw_below_drewN (Below.refl _ _) _⟩
  clear hnd
  go_wp2_with fail
  refine (full_toKindTestS.calls k _ _ l1 false F _ (Kd.C_below HR.out HB1.out) HC.out HF.out).mono ?_
  rintro e w2 hp
  obtain ⟨A2_, n2_, c2_, rfl, hR_, hn2_, hb⟩ := hp
  obtain rfl : n2_ = L.length := (by rcases hn2_ with h_ | ⟨h_, h2_⟩; exact h_.trans HLl.out.symm; exact h2_.trans (by rw [← HL.out, h_]; simp))
  have HB2 : Aside0 (Below w.heap.size w w2) := ⟨below_step HB1.out hb⟩
  have hq_ := Kd.R_reads' hR_
  have HC2 : Aside0 (Kd.C k65 w2 A2_ L.length L) := ⟨by have h_ := Hw.C_take hq_.2.2 L.length HL2.out; rw [HLl.out, HL.out, ← HLl.out] at h_; exact h_⟩
  have HC2' : Aside0 (L.length ≤ c2_) := ⟨Nat.le_trans HL2.out hq_.2.1⟩
  clear HB1 hb hR_ hn2_ hq_
  go_wp2_with fail
  refine (spec_IdleKindTests.calls k a0 _ _ L G r2 w2 HC2.out HC2'.out H1.out).mono ?_
  rintro e w3 ⟨v3, rfl, ho, hb⟩
  obtain ⟨A3_, c3_, rfl⟩ := Kd.R_slice ho
  have HB3 : Aside0 (Below w.heap.size w w3) := ⟨below_step HB2.out hb⟩
  have HW3 : Aside0 (Kd.R (Kd.int .i64) 3 w3 w.heap.size (fun k_ => k_ < w3.heap.size) (.slice A3_ G.length c3_) G) := ⟨Kd.R_mono (Kd.R_bound (Kd.R_lower ho (below_size HB2.out))) (fun k_ hk => hk.2.2.1)⟩
  clear HB2 hb HC2 HC2' ho
  go_wp2_with fail
  refine (full_toKindTestS.calls k _ _ l1 false F _ (Kd.C_below HR.out HB3.out) HC.out HF.out).mono ?_
  rintro e w4 hp
  obtain ⟨A4_, n4_, c4_, rfl, hR_, hn4_, hb⟩ := hp
  obtain rfl : n4_ = L.length := (by rcases hn4_ with h_ | ⟨h_, h2_⟩; exact h_.trans HLl.out.symm; exact h2_.trans (by rw [← HL.out, h_]; simp))
  have HB4 : Aside0 (Below w.heap.size w w4) := ⟨below_step HB3.out hb⟩
  have HW4 : Aside0 (Kd.R (Kd.int .i64) 3 w4 w.heap.size (fun k_ => k_ < w3.heap.size) (.slice A3_ G.length c3_) G) := ⟨Kd.R_below HW3.out hb⟩
  have hq_ := Kd.R_reads' hR_
  have HC4' : Aside0 (F.length ≤ c4_) := ⟨hq_.2.1⟩
  have HY4 : Aside0 (Kd.R k65 65 w4 w.heap.size (fun k_ => w3.heap.size ≤ k_ ∧ k_ < w4.heap.size) (.slice A4_ F.length c4_) F) := ⟨Kd.R_mono (Kd.R_lower (Kd.R_bound hR_) (below_size HB3.out)) (fun k_ hk => ⟨hk.2.1, hk.2.2.1⟩)⟩
  have HX4 : Aside0 (Kd.R k65 65 w4 w.heap.size (fun k_ => w3.heap.size ≤ k_ ∧ k_ < w4.heap.size) (.slice A4_ L.length c4_) L) := ⟨by
    have h_ := Hw.R_take hR_ L.length HL2.out
    rw [HLl.out, HL.out, ← HLl.out] at h_
    exact Kd.R_mono (Kd.R_lower (Kd.R_bound h_) (below_size HB3.out)) (fun k_ hk => ⟨hk.2.1, hk.2.2.1⟩)⟩
  have HS34 : Aside0 (w3.heap.size ≤ w4.heap.size) := ⟨hb.size⟩
  clear HB3 HW3 hb hR_ hn4_ hq_
  go_wp2_with fail
  refine (impl_IdleKindTests.calls k a0 _ _ L G r2 _ (Kd.R_reads' HX4.out).2.2 (Kd.R_reads' HX4.out).2.1 H2.out).mono ?_
  rintro e w5 ⟨v5, rfl, ho, hb⟩
  obtain ⟨A5_, c5_, rfl⟩ := Kd.R_slice ho
  have HB5 : Aside0 (Below w.heap.size w w5) := ⟨below_step HB4.out hb⟩
  have HW5 : Aside0 (Kd.R (Kd.int .i64) 3 w5 w.heap.size (fun k_ => k_ < w3.heap.size) (.slice A3_ G.length c3_) G) := ⟨Kd.R_below HW4.out hb⟩
  have HY5 : Aside0 (Kd.R k65 65 w5 w.heap.size (fun k_ => w3.heap.size ≤ k_ ∧ k_ < w4.heap.size) (.slice A4_ F.length c4_) F) := ⟨Kd.R_below HY4.out hb⟩
  have HX5 : Aside0 (Kd.R k65 65 w5 w.heap.size (fun k_ => w3.heap.size ≤ k_ ∧ k_ < w4.heap.size) (.slice A4_ L.length c4_) L) := ⟨Kd.R_below HX4.out hb⟩
  have HG5 : Aside0 (Kd.R (Kd.int .i64) 3 w5 w.heap.size (fun k_ => w4.heap.size ≤ k_ ∧ k_ < w5.heap.size) (.slice A5_ G.length c5_) G) := ⟨Kd.R_mono (Kd.R_lower (Kd.R_bound ho) (below_size HB4.out)) (fun k_ hk => ⟨hk.2.1, hk.2.2.1⟩)⟩
  have HS45 : Aside0 (w4.heap.size ≤ w5.heap.size) := ⟨hb.size⟩
  clear HB4 HW4 HY4 HX4 hb ho
  go_wp2_with fail
  refine (laws_eqIntS.calls k _ _ G _ _ G true w5 (Kd.R_reads' HG5.out).2.2 (Kd.R_reads' HG5.out).2.1 (Kd.R_reads' HW5.out).2.2 (Kd.R_reads' HW5.out).2.1 HQ.out).mono ?_
  rintro e w6 ⟨rfl, ⟨nd, hnd⟩⟩
  have hb : Below w5.heap.size w5 w6 := by rw [hnd]; exact pw_below_drewN (Below.refl _ _) _
  clear hnd
  have HB6 : Aside0 (Below w.heap.size w w6) := ⟨below_step HB5.out hb⟩
  have HW6 : Aside0 (Kd.R (Kd.int .i64) 3 w6 w.heap.size (fun k_ => k_ < w3.heap.size) (.slice A3_ G.length c3_) G) := ⟨Kd.R_below HW5.out hb⟩
  have HY6 : Aside0 (Kd.R k65 65 w6 w.heap.size (fun k_ => w3.heap.size ≤ k_ ∧ k_ < w4.heap.size) (.slice A4_ F.length c4_) F) := ⟨Kd.R_below HY5.out hb⟩
  have HX6 : Aside0 (Kd.R k65 65 w6 w.heap.size (fun k_ => w3.heap.size ≤ k_ ∧ k_ < w4.heap.size) (.slice A4_ L.length c4_) L) := ⟨Kd.R_below HX5.out hb⟩
  have HG6 : Aside0 (Kd.R (Kd.int .i64) 3 w6 w.heap.size (fun k_ => w4.heap.size ≤ k_ ∧ k_ < w5.heap.size) (.slice A5_ G.length c5_) G) := ⟨Kd.R_below HG5.out hb⟩
  clear HB5 HW5 HY5 HX5 HG5 hb
  go_wp2_with fail
  refine (full_toKindTestS.calls k _ _ l1 false F _ (Kd.C_below HR.out HB6.out) HC.out HF.out).mono ?_
  rintro e w7 hp
  obtain ⟨A7_, n7_, c7_, rfl, hR_, hn7_, hb⟩ := hp
  obtain rfl : n7_ = L.length := (by rcases hn7_ with h_ | ⟨h_, h2_⟩; exact h_.trans HLl.out.symm; exact h2_.trans (by rw [← HL.out, h_]; simp))
  have HB7 : Aside0 (Below w.heap.size w w7) := ⟨below_step HB6.out hb⟩
  have HW7 : Aside0 (Kd.R (Kd.int .i64) 3 w7 w.heap.size (fun k_ => k_ < w3.heap.size) (.slice A3_ G.length c3_) G) := ⟨Kd.R_below HW6.out hb⟩
  have HY7 : Aside0 (Kd.R k65 65 w7 w.heap.size (fun k_ => w3.heap.size ≤ k_ ∧ k_ < w4.heap.size) (.slice A4_ F.length c4_) F) := ⟨Kd.R_below HY6.out hb⟩
  have HX7 : Aside0 (Kd.R k65 65 w7 w.heap.size (fun k_ => w3.heap.size ≤ k_ ∧ k_ < w4.heap.size) (.slice A4_ L.length c4_) L) := ⟨Kd.R_below HX6.out hb⟩
  have HG7 : Aside0 (Kd.R (Kd.int .i64) 3 w7 w.heap.size (fun k_ => w4.heap.size ≤ k_ ∧ k_ < w5.heap.size) (.slice A5_ G.length c5_) G) := ⟨Kd.R_below HG6.out hb⟩
  have HD7 := Aside0.mk (Kd.R_reads' hR_)
  clear HB6 HW6 HY6 HX6 HG6 hb hR_ hn7_
  go_wp2_with fail
  refine (intact_KindTestS k F A4_ A7_ L.length c4_ c7_ t w7 (by rw [HLl.out]; exact HT.out) (by rw [HLl.out]; exact HN.out) HC4'.out HD7.out.2.1 (Kd.R_reads' HY7.out).2.2 HD7.out.2.2 HE.out).mono ?_
  rintro e w8 ⟨rfl, hb⟩
  have HB8 : Aside0 (Below w.heap.size w w8) := ⟨below_step HB7.out hb⟩
  have HW8 : Aside0 (Kd.R (Kd.int .i64) 3 w8 w.heap.size (fun k_ => k_ < w3.heap.size) (.slice A3_ G.length c3_) G) := ⟨Kd.R_below HW7.out hb⟩
  have HY8 : Aside0 (Kd.R k65 65 w8 w.heap.size (fun k_ => w3.heap.size ≤ k_ ∧ k_ < w4.heap.size) (.slice A4_ F.length c4_) F) := ⟨Kd.R_below HY7.out hb⟩
  have HX8 : Aside0 (Kd.R k65 65 w8 w.heap.size (fun k_ => w3.heap.size ≤ k_ ∧ k_ < w4.heap.size) (.slice A4_ L.length c4_) L) := ⟨Kd.R_below HX7.out hb⟩
  have HG8 : Aside0 (Kd.R (Kd.int .i64) 3 w8 w.heap.size (fun k_ => w4.heap.size ≤ k_ ∧ k_ < w5.heap.size) (.slice A5_ G.length c5_) G) := ⟨Kd.R_below HG7.out hb⟩
  clear HB7 HW7 HY7 HX7 HG7 hb HD7
  go_wp2_with fail
  have hs34 := HS34.out
  have hs45 := HS45.out
  refine (laws_markKindTestS.calls k _ _ L 101 kx Lx w w8 HB8.out HX8.out HMX.out).mono ?_
  rintro e w9 ⟨rfl, hx9, hb9, hk⟩
  have HB9 : Aside0 (Below w.heap.size w w9) := ⟨hb9⟩
  have HW9 : Aside0 (Kd.R (Kd.int .i64) 3 w9 w.heap.size (fun k_ => k_ < w3.heap.size) (.slice A3_ G.length c3_) G) := ⟨Kd.R_kept HW8.out hk (fun k_ h1_ h2_ => by omega)⟩
  have HG9 : Aside0 (Kd.R (Kd.int .i64) 3 w9 w.heap.size (fun k_ => w4.heap.size ≤ k_ ∧ k_ < w5.heap.size) (.slice A5_ G.length c5_) G) := ⟨Kd.R_kept HG8.out hk (fun k_ h1_ h2_ => by omega)⟩
  clear HB8 HW8 HY8 HX8 HG8 hx9 hb9 hk
  go_wp2_with fail
  refine (laws_eqIntS.calls k _ _ G _ _ G true w9 (Kd.R_reads' HG9.out).2.2 (Kd.R_reads' HG9.out).2.1 (Kd.R_reads' HW9.out).2.2 (Kd.R_reads' HW9.out).2.1 HQ.out).mono ?_
  rintro e w10 ⟨rfl, ⟨nd, hnd⟩⟩
  have hb : Below w9.heap.size w9 w10 := by rw [hnd]; exact pw_below_drewN (Below.refl _ _) _
  clear hnd
  have HB10 : Aside0 (Below w.heap.size w w10) := ⟨below_step HB9.out hb⟩
  have HW10 : Aside0 (Kd.R (Kd.int .i64) 3 w10 w.heap.size (fun k_ => k_ < w3.heap.size) (.slice A3_ G.length c3_) G) := ⟨Kd.R_below HW9.out hb⟩
  have HG10 : Aside0 (Kd.R (Kd.int .i64) 3 w10 w.heap.size (fun k_ => w4.heap.size ≤ k_ ∧ k_ < w5.heap.size) (.slice A5_ G.length c5_) G) := ⟨Kd.R_below HG9.out hb⟩
  clear HB9 HW9 HG9 hb
  go_wp2_with fail
  refine (laws_markIntS.calls k _ _ G 101 m Gm w w10 HB10.out HG10.out HMG.out).mono ?_
  rintro e w11 ⟨rfl, hx11, hb11, hk⟩
  have HB11 : Aside0 (Below w.heap.size w w11) := ⟨hb11⟩
  have HW11 : Aside0 (Kd.R (Kd.int .i64) 3 w11 w.heap.size (fun k_ => k_ < w3.heap.size) (.slice A3_ G.length c3_) G) := ⟨Kd.R_kept HW10.out hk (fun k_ h1_ h2_ => by omega)⟩
  have HM11 : Aside0 (Kd.R (Kd.int .i64) 3 w11 w.heap.size (fun k_ => (w4.heap.size ≤ k_ ∧ k_ < w5.heap.size) ∨ w10.heap.size ≤ k_) (.slice A5_ G.length c5_) Gm) := ⟨by have h_ := hx11; rw [← HGm.out] at h_ ⊢; exact h_⟩
  clear HB10 HW10 HG10 hx11 hb11 hk
  go_wp2_with fail
  have hcall := laws_heldIntS.calls k A5_ c5_ Gm 101 m w11 (Kd.R_reads' (by have h_ := HM11.out; rw [← HGm.out] at h_; exact h_)).2.2 (Kd.R_reads' (by have h_ := HM11.out; rw [← HGm.out] at h_; exact h_)).2.1 HHG.out
  rw [HGm.out] at hcall
  refine hcall.mono ?_
  clear hcall
  rintro e w12 ⟨rfl, ⟨nd, hnd⟩⟩
  have hb : Below w11.heap.size w11 w12 := by rw [hnd]; exact pw_below_drewN (Below.refl _ _) _
  clear hnd
  have HB12 : Aside0 (Below w.heap.size w w12) := ⟨below_step HB11.out hb⟩
  have HW12 : Aside0 (Kd.R (Kd.int .i64) 3 w12 w.heap.size (fun k_ => k_ < w3.heap.size) (.slice A3_ G.length c3_) G) := ⟨Kd.R_below HW11.out hb⟩
  have HM12 : Aside0 (Kd.R (Kd.int .i64) 3 w12 w.heap.size (fun k_ => (w4.heap.size ≤ k_ ∧ k_ < w5.heap.size) ∨ w10.heap.size ≤ k_) (.slice A5_ G.length c5_) Gm) := ⟨Kd.R_below HM11.out hb⟩
  clear HB11 HW11 HM11 hb
  go_wp2_with fail
  refine (full_toKindTestS.calls k _ _ l1 true F' _ (Kd.C_below HR.out HB12.out) HC.out HF'.out).mono ?_
  rintro e w13 hp
  obtain ⟨A13_, n13_, c13_, rfl, hR_, hn13_, hb⟩ := hp
  have hq_ := Kd.R_reads' hR_
  obtain ⟨rfl, h131, h132⟩ := toTrueIdleKindTests F F' L l1 w13 A13_ n13_ c13_ HF0.out HF2.out HL.out HLl.out HL2.out hq_.2.1 hq_.2.2 hn13_
  have HB13 : Aside0 (Below w.heap.size w w13) := ⟨below_step HB12.out hb⟩
  have HW13 : Aside0 (Kd.R (Kd.int .i64) 3 w13 w.heap.size (fun k_ => k_ < w3.heap.size) (.slice A3_ G.length c3_) G) := ⟨Kd.R_below HW12.out hb⟩
  have HM13 : Aside0 (Kd.R (Kd.int .i64) 3 w13 w.heap.size (fun k_ => (w4.heap.size ≤ k_ ∧ k_ < w5.heap.size) ∨ w10.heap.size ≤ k_) (.slice A5_ G.length c5_) Gm) := ⟨Kd.R_below HM12.out hb⟩
  have H131 := Aside0.mk h131
  have H132 := Aside0.mk h132
  clear HB12 HW12 HM12 hb hR_ hn13_ hq_ h131 h132
  go_wp2_with fail
  refine (impl_IdleKindTests.calls k a0 _ _ L G r2 w13 H131.out H132.out H2.out).mono ?_
  rintro e w14 ⟨v14, rfl, ho, hb⟩
  obtain ⟨A14_, c14_, rfl⟩ := Kd.R_slice ho
  have HB14 : Aside0 (Below w.heap.size w w14) := ⟨below_step HB13.out hb⟩
  have HW14 : Aside0 (Kd.R (Kd.int .i64) 3 w14 w.heap.size (fun k_ => k_ < w3.heap.size) (.slice A3_ G.length c3_) G) := ⟨Kd.R_below HW13.out hb⟩
  have HM14 : Aside0 (Kd.R (Kd.int .i64) 3 w14 w.heap.size (fun k_ => (w4.heap.size ≤ k_ ∧ k_ < w5.heap.size) ∨ w10.heap.size ≤ k_) (.slice A5_ G.length c5_) Gm) := ⟨Kd.R_below HM13.out hb⟩
  have HH14 := Aside0.mk ho
  clear HB13 HW13 HM13 hb ho
  go_wp2_with fail
  refine (laws_eqIntS.calls k _ _ G _ _ G true w14 (Kd.R_reads' HH14.out).2.2 (Kd.R_reads' HH14.out).2.1 (Kd.R_reads' HW14.out).2.2 (Kd.R_reads' HW14.out).2.1 HQ.out).mono ?_
  rintro e w15 ⟨rfl, ⟨nd, hnd⟩⟩
  have hb : Below w14.heap.size w14 w15 := by rw [hnd]; exact pw_below_drewN (Below.refl _ _) _
  clear hnd
  have HB15 : Aside0 (Below w.heap.size w w15) := ⟨below_step HB14.out hb⟩
  have HW15 : Aside0 (Kd.R (Kd.int .i64) 3 w15 w.heap.size (fun k_ => k_ < w3.heap.size) (.slice A3_ G.length c3_) G) := ⟨Kd.R_below HW14.out hb⟩
  have HM15 : Aside0 (Kd.R (Kd.int .i64) 3 w15 w.heap.size (fun k_ => (w4.heap.size ≤ k_ ∧ k_ < w5.heap.size) ∨ w10.heap.size ≤ k_) (.slice A5_ G.length c5_) Gm) := ⟨Kd.R_below HM14.out hb⟩
  clear HB14 HW14 HM14 HH14 hb
  go_wp2_with fail
  have hcall := laws_heldIntS.calls k A5_ c5_ Gm 101 m w15 (Kd.R_reads' (by have h_ := HM15.out; rw [← HGm.out] at h_; exact h_)).2.2 (Kd.R_reads' (by have h_ := HM15.out; rw [← HGm.out] at h_; exact h_)).2.1 HHG.out
  rw [HGm.out] at hcall
  refine hcall.mono ?_
  clear hcall
  rintro e w16 ⟨rfl, ⟨nd, hnd⟩⟩
  have hb : Below w15.heap.size w15 w16 := by rw [hnd]; exact pw_below_drewN (Below.refl _ _) _
  clear hnd
  have HB16 : Aside0 (Below w.heap.size w w16) := ⟨below_step HB15.out hb⟩
  clear hb
  go_wp2
  go_ret
  exact ⟨rfl, HB16.out⟩
set_option maxHeartbeats 8000000 in
set_option maxRecDepth 100000 in
theorem big_FnExactIdleKindTests (a0 : Int) (A1 : Option Addr) (c1 : Nat) (l1 : List S67) (w : World) (hr : Kd.C k67 w A1 l1.length l1) (hc : l1.length ≤ c1) (s : Int) (hs : laws_szKindTestS.f l1 1000000 = some s) (hs0 : s < 0) :
    Calls Try.prog 7 #[.int .i64 a0, .slice A1 l1.length c1] w fun e w' => e = .returned (.bool true) ∧ Below w.heap.size w w' := by
  have HR := Aside0.mk hr
  have HC := Aside0.mk hc
  have H0 := Aside0.mk hs
  have hs1 : decide (s < 0) = true := decide_eq_true hs0
  clear hr hc hs hs0
  go_enter Try.func7, Try.ntmps7
  go_wp2_with fail
  refine (laws_szKindTestS.calls _ _ l1 _ _ _ HR.out HC.out H0.out).mono ?_
  rintro e w1 ⟨rfl, ⟨nd, hnd⟩⟩
  have HB1 : Aside0 (Below w.heap.size w w1) := ⟨by rw [hnd]; exact pw_below_drewN (Below.refl _ _) _⟩
  clear hnd
  go_wp2
  go_ret
  exact ⟨rfl, HB1.out⟩


end Go.Proofs.Ytgolncpnephdcaa.I
