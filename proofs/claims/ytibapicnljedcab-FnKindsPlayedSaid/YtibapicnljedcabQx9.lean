/- Plain Lean functions with the answers of Go functions, and proofs of it: printed by a program of this session (pr.py) over the kit's print, with hand-written parts. -/
import Derived.Test.YtibapicnljedcabQx0
import Derived.Test.YtibapicnljedcabQx1
import Derived.Test.YtibapicnljedcabQx2
import Derived.Test.YtibapicnljedcabQx4
namespace Go.Proofs.Ytibapicnljedcab.Q
open Go.RowKit Go.Proofs.YtibapicnljedcabW.PrintWords Go.Proofs.YtibapicnljedcabW.PrintLast Go.Proofs.YtibapicnljedcabW.PrintMore
attribute [local go_sem] max2_int min2_int max_two min_two max_three min_three max_four min_four   -- for this text's walks alone
set_option linter.unusedVariables false
set_option linter.unusedSimpArgs false

attribute [local go_sem high] eqA43
/-! ### laws_iTests: function 16 -/
def laws_iTests.l0 : Nat → List (S43) → List (S43) → Int → Int → Option (Bool)
  | 0, _, _, _, _ => none
  | k + 1, x0, x1, x12, x13 => if x13 < x12 then (if 0 ≤ x13 then (if x13 < (x0.length : Int) then (if x13 < (x1.length : Int) then (if (!(((rd_T43 x0 x13).f0) == ((rd_T43 x1 x13).f0)) || (!(((rd_T43 x0 x13).f1) == ((rd_T43 x1 x13).f1)) || (!(((rd_T43 x0 x13).f2) == ((rd_T43 x1 x13).f2))))) = true then (some false) else (laws_iTests.l0 k x0 x1 x12 (wrap64 (x13 + 1)))) else (none)) else (none)) else (none)) else (some true)
def laws_iTests.f (k : Nat) (l0 : List (S43)) (l1 : List (S43)) : Option (Bool) := if (l0.length : Int) = (l1.length : Int) then (laws_iTests.l0 k l0 l1 (l0.length : Int) 0) else (some false)
theorem laws_iTests.mono_l : ∀ k, (∀ y0 y1 y2 y3, LeO (laws_iTests.l0 k y0 y1 y2 y3) (laws_iTests.l0 (k + 1) y0 y1 y2 y3))
  | 0 => fun _ _ _ _ r h => by simp [laws_iTests.l0] at h
  | k + 1 => by
    have ih0 := laws_iTests.mono_l k
    · intro y0 y1 y2 y3
      unfold laws_iTests.l0
      repeat' first
      | (with_reducible exact ih0 _ _ _ _)
      | (with_reducible exact LeO.refl _)
      | (with_reducible exact LeO.none _)
      | (with_reducible refine LeO.ite ?_ ?_)
      | (with_reducible refine LeO.bind ?_ (fun _ => ?_))
      | exact ih0 _ _ _ _
      | exact LeO.none _
      | refine LeO.ite ?_ ?_
      | refine LeO.bind ?_ (fun _ => ?_)
theorem laws_iTests.mono : ∀ a0 a1 k, LeO (laws_iTests.f k a0 a1) (laws_iTests.f (k + 1) a0 a1) := by
  intro a0 a1 k
  have ih0 := laws_iTests.mono_l k
  unfold laws_iTests.f
  repeat' first
      | (with_reducible exact ih0 _ _ _ _)
      | (with_reducible exact LeO.refl _)
      | (with_reducible exact LeO.none _)
      | (with_reducible refine LeO.ite ?_ ?_)
      | (with_reducible refine LeO.bind ?_ (fun _ => ?_))
      | exact ih0 _ _ _ _
      | exact LeO.none _
      | refine LeO.ite ?_ ?_
      | refine LeO.bind ?_ (fun _ => ?_)
set_option maxHeartbeats 8000000 in
set_option maxRecDepth 100000 in
theorem laws_iTests.calls (k : Nat) (A0 : Option Addr) (c0 : Nat) (l0 : List (S43)) (A1 : Option Addr) (c1 : Nat) (l1 : List (S43)) (r : Bool) (w : World) (hr0 : Kd.C k43 w A0 l0.length l0) (hc0 : l0.length ≤ c0) (hr1 : Kd.C k43 w A1 l1.length l1) (hc1 : l1.length ≤ c1) (h : laws_iTests.f k l0 l1 = some r) :
    Calls Try.prog 16 #[.slice A0 l0.length c0, .slice A1 l1.length c1] w fun e w' => e = .returned (.bool r) ∧ Drawn0 w w' := by
  have hu43 := Try.underlying43
  have HR0 := Aside0.mk hr0
  have HC0 := Aside0.mk hc0
  clear hr0 hc0
  have HR1 := Aside0.mk hr1
  have HC1 := Aside0.mk hc1
  clear hr1 hc1
  have H : (if (l0.length : Int) = (l1.length : Int) then (laws_iTests.l0 k l0 l1 (l0.length : Int) 0) else (some false)) = some r := h
  clear h
  by_cases c3 : (l0.length : Int) = (l1.length : Int)
  · rw [if_pos c3] at H
    have c3b0 : ((l0.length : Int) == (l1.length : Int)) = true := beq_iff_eq.mpr c3
    have c3b1 : ((l0.length : Int) != (l1.length : Int)) = false := bne_eq_false_iff_eq.mpr c3
    have c3b2 : (l0.length == l1.length) = true := by first | simpa using c3 | (simp at c3 ⊢; omega)
    clear c3
    have H' := Aside0.mk H
    clear H
    go_enter Try.func16, Try.ntmps16
    go_wp2
    repeat (go_quiet (fail); try go_wp2)
    go_loopg [13] k (fun kq v13 w' => ∃ (x13_1 : Int), v13 = .int .i64 x13_1 ∧ Aside0 (laws_iTests.l0 kq l0 l1 (l0.length : Int) x13_1 = some r) ∧ Aside0 (kq ≤ k) ∧ Drawn0 w w')
    case atStart => exact ⟨(0), (by first | rfl | (simp; done) | (simp [*]; done)), H', ⟨Nat.le_refl _⟩, by repeat (first | exact Drawn0.refl _ | apply Drawn0.step)⟩
    case round =>
      clear H'
      try clear c1
      try clear p2
      try clear c3
      try clear c3b0
      try clear c3b1
      try clear c3b2
      obtain ⟨x13_1, rfl, HA, HK1, ⟨m1, rfl⟩⟩ := hrel
      cases gk with
      | zero => exact absurd HA.out (by simp [laws_iTests.l0])
      | succ k1 =>
        have H := HA.out
        clear HA
        simp only [laws_iTests.l0] at H
        by_cases c4 : x13_1 < (l0.length : Int)
        · rw [if_pos c4] at H
          have c4b0 : decide (x13_1 < (l0.length : Int)) = true := decide_eq_true c4
          clear c4
          by_cases c5 : 0 ≤ x13_1
          · rw [if_pos c5] at H
            have c5b0 : decide (0 ≤ x13_1) = true := decide_eq_true c5
            clear c5
            by_cases c6 : x13_1 < (l0.length : Int)
            · rw [if_pos c6] at H
              have c6b0 : decide (x13_1 < (l0.length : Int)) = true := decide_eq_true c6
              clear c6
              by_cases c7 : x13_1 < (l1.length : Int)
              · rw [if_pos c7] at H
                have c7b0 : decide (x13_1 < (l1.length : Int)) = true := decide_eq_true c7
                clear c7
                by_cases c8 : (!(((rd_T43 l0 x13_1).f0) == ((rd_T43 l1 x13_1).f0)) || (!(((rd_T43 l0 x13_1).f1) == ((rd_T43 l1 x13_1).f1)) || (!(((rd_T43 l0 x13_1).f2) == ((rd_T43 l1 x13_1).f2))))) = true
                · rw [if_pos c8] at H
                  have c8b0 : (!(((rd_T43 l0 x13_1).f0) == ((rd_T43 l1 x13_1).f0)) || (!(((rd_T43 l0 x13_1).f1) == ((rd_T43 l1 x13_1).f1)) || (!(((rd_T43 l0 x13_1).f2) == ((rd_T43 l1 x13_1).f2))))) = true := c8
                  clear c8
                  obtain rfl := Option.some.inj H
                  have p258 : 0 ≤ (x13_1 : Int) := of_decide_eq_true (by first | (with_reducible assumption) | assumption)
                  have q258 : x13_1 < (l0.length : Int) := of_decide_eq_true (by first | (with_reducible assumption) | assumption)
                  obtain ⟨ad258, e258, hx258_0, hx258_1, hx258_2⟩ := at_T43 HR0.out x13_1 p258 q258
                  cases e258
                  replace p258 := eq_true p258
                  replace q258 := eq_true q258
                  have p259 : 0 ≤ (x13_1 : Int) := of_decide_eq_true (by first | (with_reducible assumption) | assumption)
                  have q259 : x13_1 < (l1.length : Int) := of_decide_eq_true (by first | (with_reducible assumption) | assumption)
                  obtain ⟨ad259, e259, hx259_0, hx259_1, hx259_2⟩ := at_T43 HR1.out x13_1 p259 q259
                  cases e259
                  replace p259 := eq_true p259
                  replace q259 := eq_true q259
                  go_wp2
                  repeat (go_quiet (fail); try go_wp2)
                  go_ret
                  exact ⟨by first | rfl | (simp; done) | (simp [*]; done), by repeat (first | exact Drawn0.refl _ | apply Drawn0.step)⟩
                · rw [if_neg c8] at H
                  have c8b0 : (!(((rd_T43 l0 x13_1).f0) == ((rd_T43 l1 x13_1).f0)) || (!(((rd_T43 l0 x13_1).f1) == ((rd_T43 l1 x13_1).f1)) || (!(((rd_T43 l0 x13_1).f2) == ((rd_T43 l1 x13_1).f2))))) = false := by simpa using c8
                  clear c8
                  have H' := Aside0.mk H
                  clear H
                  have p258 : 0 ≤ (x13_1 : Int) := of_decide_eq_true (by first | (with_reducible assumption) | assumption)
                  have q258 : x13_1 < (l0.length : Int) := of_decide_eq_true (by first | (with_reducible assumption) | assumption)
                  obtain ⟨ad258, e258, hx258_0, hx258_1, hx258_2⟩ := at_T43 HR0.out x13_1 p258 q258
                  cases e258
                  replace p258 := eq_true p258
                  replace q258 := eq_true q258
                  have p259 : 0 ≤ (x13_1 : Int) := of_decide_eq_true (by first | (with_reducible assumption) | assumption)
                  have q259 : x13_1 < (l1.length : Int) := of_decide_eq_true (by first | (with_reducible assumption) | assumption)
                  obtain ⟨ad259, e259, hx259_0, hx259_1, hx259_2⟩ := at_T43 HR1.out x13_1 p259 q259
                  cases e259
                  replace p259 := eq_true p259
                  replace q259 := eq_true q259
                  go_wp2
                  repeat (go_quiet (fail); try go_wp2)
                  go_roundg k1
                  case measure => have := HK1.out; omega
                  case rel => exact ⟨(wrap64 (x13_1 + 1)), (by first | rfl | (simp; done) | (simp [*]; done)), H', ⟨by have := HK1.out; omega⟩, by repeat (first | exact Drawn0.refl _ | apply Drawn0.step)⟩
              · rw [if_neg c7] at H
                exact absurd H (by simp)
            · rw [if_neg c6] at H
              exact absurd H (by simp)
          · rw [if_neg c5] at H
            exact absurd H (by simp)
        · rw [if_neg c4] at H
          have c4b0 : decide (x13_1 < (l0.length : Int)) = false := decide_eq_false c4
          clear c4
          obtain rfl := Option.some.inj H
          go_wp2
          repeat (go_quiet (fail); try go_wp2)
          go_ret
          exact ⟨by first | rfl | (simp; done) | (simp [*]; done), by repeat (first | exact Drawn0.refl _ | apply Drawn0.step)⟩
  · rw [if_neg c3] at H
    have c3b0 : ((l0.length : Int) == (l1.length : Int)) = false := beq_eq_false_iff_ne.mpr c3
    have c3b1 : ((l0.length : Int) != (l1.length : Int)) = true := bne_iff_ne.mpr c3
    have c3b2 : (l0.length == l1.length) = false := by first | simpa using c3 | (simp at c3 ⊢; omega)
    obtain rfl := Option.some.inj H
    go_enter Try.func16, Try.ntmps16
    go_wp2
    repeat (go_quiet (fail); try go_wp2)
    go_ret
    exact ⟨by first | rfl | (simp; done) | (simp [*]; done), by repeat (first | exact Drawn0.refl _ | apply Drawn0.step)⟩

/-! ### impl_isEggs: function 68 -/
def impl_isEggs.f (a0 : Int) : Option (Bool) := (impl_within.f a0 1 10).bind fun t260 => (some t260)
set_option maxHeartbeats 8000000 in
set_option maxRecDepth 100000 in
theorem impl_isEggs.calls (a0 : Int) (r : Bool) (w : World) (h : impl_isEggs.f a0 = some r) :
    Calls Try.prog 68 #[.int .i64 a0] w fun e w' => e = .returned (.bool r) ∧ Drawn0 w w' := by
  have H : ((impl_within.f a0 1 10).bind fun t260 => (some t260)) = some r := h
  clear h
  replace H := Option.bind_eq_some_iff.mp H
  obtain ⟨t260, A20, H⟩ := H
  replace H : (some t260) = some r := H
  have A2 := Aside0.mk A20
  clear A20
  obtain rfl := Option.some.inj H
  go_enter Try.func68, Try.ntmps68
  go_wp2_with (first | ((with_reducible refine gate_callee (f := 53) rfl ?_); refine goesL_ (some 4) rfl rfl Try.func53 (by kernel_rfl) rfl #[.int .i64 a0, .int .i64 1, .int .i64 10] rfl (by (try simp only [List.map_toArray, List.map_cons, List.map_nil]); first | done | rfl | (simp only [List.length_drop, List.length_take]; rfl)) ?_; (with_reducible refine (impl_within.calls a0 1 10 t260 _ A2.out).mono ?_); rintro e w' ⟨rfl, ⟨nd, rfl⟩⟩; refine ⟨_, rfl, ?_⟩))
  go_ret
  exact ⟨by first | rfl | (simp; done) | (simp [*]; done), by repeat (first | exact Drawn0.refl _ | apply Drawn0.step)⟩

/-! ### impl_isFloors: function 69 -/
def impl_isFloors.f (a0 : Int) : Option (Bool) := (impl_within.f a0 0 1000).bind fun t261 => (some t261)
set_option maxHeartbeats 8000000 in
set_option maxRecDepth 100000 in
theorem impl_isFloors.calls (a0 : Int) (r : Bool) (w : World) (h : impl_isFloors.f a0 = some r) :
    Calls Try.prog 69 #[.int .i64 a0] w fun e w' => e = .returned (.bool r) ∧ Drawn0 w w' := by
  have H : ((impl_within.f a0 0 1000).bind fun t261 => (some t261)) = some r := h
  clear h
  replace H := Option.bind_eq_some_iff.mp H
  obtain ⟨t261, A20, H⟩ := H
  replace H : (some t261) = some r := H
  have A2 := Aside0.mk A20
  clear A20
  obtain rfl := Option.some.inj H
  go_enter Try.func69, Try.ntmps69
  go_wp2_with (first | ((with_reducible refine gate_callee (f := 53) rfl ?_); refine goesL_ (some 4) rfl rfl Try.func53 (by kernel_rfl) rfl #[.int .i64 a0, .int .i64 0, .int .i64 1000] rfl (by (try simp only [List.map_toArray, List.map_cons, List.map_nil]); first | done | rfl | (simp only [List.length_drop, List.length_take]; rfl)) ?_; (with_reducible refine (impl_within.calls a0 0 1000 t261 _ A2.out).mono ?_); rintro e w' ⟨rfl, ⟨nd, rfl⟩⟩; refine ⟨_, rfl, ?_⟩))
  go_ret
  exact ⟨by first | rfl | (simp; done) | (simp [*]; done), by repeat (first | exact Drawn0.refl _ | apply Drawn0.step)⟩

/-! ### impl_isHouse: function 42 -/
def impl_isHouse.f (a0 : Int) (a1 : Int) : Option (Bool) := (impl_isEggs.f a0).bind fun t262 => (if t262 = true then ((impl_isFloors.f a1).bind fun t263 => (some t263)) else (some false))
set_option maxHeartbeats 8000000 in
set_option maxRecDepth 100000 in
theorem impl_isHouse.calls (a0 : Int) (a1 : Int) (r : Bool) (w : World) (h : impl_isHouse.f a0 a1 = some r) :
    Calls Try.prog 42 #[.int .i64 a0, .int .i64 a1] w fun e w' => e = .returned (.bool r) ∧ Drawn0 w w' := by
  have H : ((impl_isEggs.f a0).bind fun t262 => (if t262 = true then ((impl_isFloors.f a1).bind fun t263 => (some t263)) else (some false))) = some r := h
  clear h
  replace H := Option.bind_eq_some_iff.mp H
  obtain ⟨t262, A30, H⟩ := H
  replace H : (if t262 = true then ((impl_isFloors.f a1).bind fun t263 => (some t263)) else (some false)) = some r := H
  have A3 := Aside0.mk A30
  clear A30
  by_cases c4 : t262 = true
  · subst c4
    have H1 : ((impl_isFloors.f a1).bind fun t263 => (some t263)) = some r := by rw [if_pos rfl] at H; exact H
    clear H
    have H := H1
    clear H1
    replace H := Option.bind_eq_some_iff.mp H
    obtain ⟨t263, A50, H⟩ := H
    replace H : (some t263) = some r := H
    have A5 := Aside0.mk A50
    clear A50
    obtain rfl := Option.some.inj H
    go_enter Try.func42, Try.ntmps42
    go_wp2_with (first | ((with_reducible refine gate_callee (f := 68) rfl ?_); refine goesL_ (some 6) rfl rfl Try.func68 (by kernel_rfl) rfl #[.int .i64 a0] rfl (by (try simp only [List.map_toArray, List.map_cons, List.map_nil]); first | done | rfl | (simp only [List.length_drop, List.length_take]; rfl)) ?_; (with_reducible refine (impl_isEggs.calls a0 true _ A3.out).mono ?_); rintro e w' ⟨rfl, ⟨nd, rfl⟩⟩; refine ⟨_, rfl, ?_⟩) | (go_at_call 69; (with_reducible refine (impl_isFloors.calls a1 t263 _ A5.out).mono ?_); rintro e w' ⟨rfl, ⟨nd, rfl⟩⟩))
    go_ret
    exact ⟨by first | rfl | (simp; done) | (simp [*]; done), by repeat (first | exact Drawn0.refl _ | apply Drawn0.step)⟩
  · replace c4 := Bool.eq_false_iff.mpr c4
    subst c4
    have H1 : (some false) = some r := by rw [if_neg (show ¬ (false = true) by decide)] at H; exact H
    clear H
    have H := H1
    clear H1
    obtain rfl := Option.some.inj H
    go_enter Try.func42, Try.ntmps42
    go_wp2_with (first | ((with_reducible refine gate_callee (f := 68) rfl ?_); refine goesL_ (some 6) rfl rfl Try.func68 (by kernel_rfl) rfl #[.int .i64 a0] rfl (by (try simp only [List.map_toArray, List.map_cons, List.map_nil]); first | done | rfl | (simp only [List.length_drop, List.length_take]; rfl)) ?_; (with_reducible refine (impl_isEggs.calls a0 false _ A3.out).mono ?_); rintro e w' ⟨rfl, ⟨nd, rfl⟩⟩; refine ⟨_, rfl, ?_⟩))
    go_ret
    exact ⟨by first | rfl | (simp; done) | (simp [*]; done), by repeat (first | exact Drawn0.refl _ | apply Drawn0.step)⟩

-- FOR impl.newReaches
def reachAt : Nat → Nat → Int
  | 0, _ => 0
  | _ + 1, 0 => 0
  | t + 1, e + 1 => min 1000000001 (reachAt t e + reachAt t (e + 1) + 1)
theorem reachAt_lo (t e : Nat) : 0 ≤ reachAt t e := by
  induction t generalizing e with
  | zero => simp [reachAt]
  | succ t ih => cases e with
    | zero => simp [reachAt]
    | succ e => have := ih e; have := ih (e + 1); unfold reachAt; omega
theorem reachAt_hi (t e : Nat) : reachAt t e ≤ 1000000001 := by
  cases t with
  | zero => simp [reachAt]
  | succ t => cases e with
    | zero => simp [reachAt]
    | succ e => unfold reachAt; omega
def rCur (t e i j : Nat) : Int := if i < t ∨ i = t ∧ j < e then reachAt i j else 0
def RTab (cs : Array Value) (t e : Nat) : Prop := cs.size = 11011 ∧ ∀ i j, i < 1001 → j < 11 → cs[i * 11 + j]? = some (.int .i64 (rCur t e i j))
theorem RTab_zero : RTab (Array.replicate 11011 (.int .i64 0)) 1 1 := by
  refine ⟨by simp, fun i j hi hj => ?_⟩
  rw [Array.getElem?_replicate, if_pos (by omega)]
  unfold rCur
  split
  · rename_i h
    have : reachAt i j = 0 := by
      rcases i with _ | i
      · simp [reachAt]
      · have : j = 0 := by omega
        subst this; simp [reachAt]
    rw [this]
  · rfl
theorem RTab_row {cs : Array Value} {t : Nat} (h : RTab cs t 11) : RTab cs (t + 1) 1 := by
  refine ⟨h.1, fun i j hi hj => ?_⟩
  rw [h.2 i j hi hj]
  unfold rCur
  by_cases h1 : i < t ∨ i = t ∧ j < 11
  · rw [if_pos h1, if_pos (by omega)]
  · rw [if_neg h1]
    split
    · have : j = 0 := by omega
      subst this
      have : i = t + 1 := by omega
      subst this; simp [reachAt]
    · rfl
theorem RTab_get {cs : Array Value} {t e : Nat} (h : RTab cs t e) (i j : Nat) (hi : i < 1001) (hj : j < 11) (hd : i < t ∨ i = t ∧ j < e) : cs[i * 11 + j]? = some (.int .i64 (reachAt i j)) := by
  rw [h.2 i j hi hj]; unfold rCur; rw [if_pos hd]
theorem RTab_set {cs : Array Value} {t e : Nat} (h : RTab cs (t + 1) (e + 1)) (ht : t < 1000) (he : e < 10) : RTab (cs.setIfInBounds ((t + 1) * 11 + (e + 1)) (.int .i64 (min 1000000001 (reachAt t e + reachAt t (e + 1) + 1)))) (t + 1) (e + 2) := by
  refine ⟨by simp [h.1], fun i j hi hj => ?_⟩
  rw [Array.getElem?_setIfInBounds]
  by_cases h1 : (t + 1) * 11 + (e + 1) = i * 11 + j
  · have : i = t + 1 := by omega
    subst this
    have : j = e + 1 := by omega
    subst this
    rw [if_pos rfl, if_pos (by rw [h.1]; omega)]
    unfold rCur
    rw [if_pos (by omega)]
    rfl
  · rw [if_neg h1, h.2 i j hi hj]
    unfold rCur
    by_cases h2 : i < t + 1 ∨ i = t + 1 ∧ j < e + 1
    · rw [if_pos h2, if_pos (by omega)]
    · rw [if_neg h2, if_neg (by omega)]
def RchT (w : World) (b t e : Nat) : Prop := ∃ cs, w.heap[b]? = some (.cells cs 97 (0, 0)) ∧ RTab cs t e
def Rch (w : World) (b : Nat) : Prop := RchT w b 1001 1
set_option maxHeartbeats 8000000 in
set_option maxRecDepth 1000000 in
theorem newReaches.calls (w : World) :
    Calls Try.prog 43 #[] w fun e w' => e = .returned (.pointer (some ⟨w.heap.size, 0, none⟩)) ∧ Rch w' w.heap.size ∧ Below w.heap.size w w' := by
  obtain ⟨hz, hsz⟩ := zero_of_info (P := Try.prog) (t := 97) (v := .agg (Array.replicate 11011 (.int .i64 0))) (n := 11011) (by kernel_rfl)
  obtain ⟨Z, hZ⟩ : ∃ Z : Array Value, Z = Array.replicate 11011 (.int .i64 0) := ⟨_, rfl⟩
  rw [← hZ] at hz
  have HZ := Aside0.mk (show RTab Z 1 1 by rw [hZ]; exact RTab_zero)
  clear hZ
  have zs : ∀ w, Sem.run Try.prog (sizeOf 95) w = .ok 11 w := by
    have h13 : (Try.prog.info? 95).map (fun i => (i.zero, i.size)) = some (some (.agg (Array.replicate 11 (.int .i64 0))), 11) := by kernel_rfl
    intro w
    obtain ⟨_, h_⟩ := zero_of_info h13
    cases hq : Try.prog.info? 95 with
    | none => simp [hq] at h_
    | some i =>
      have h2_ : i.size = 11 := by simpa [hq] using h_
      simp [sizeOf, typeInfo, hq, h2_]
  go_enter Try.func43, Try.ntmps43
  go_wp2
  go_loopg [2] 1000 (fun n v w' => ∃ T : Int, v = .int .i64 T ∧ Aside0 (1 ≤ T ∧ T + n = 1001) ∧ Aside0 (RchT w' w.heap.size T.toNat 1) ∧ Aside0 (Below w.heap.size w w'))
  case atStart => exact ⟨1, rfl, ⟨by omega⟩, ⟨⟨Z, blk_new _ _, HZ.out⟩⟩, ⟨below_alloc (Below.refl _ _) _⟩⟩
  case round =>
    obtain ⟨T, rfl, HK, HT, HB⟩ := hrel
    by_cases hlt : T ≤ 1000
    · have h2 : decide (T ≤ 1000) = true := decide_eq_true (by omega)
      have HL := Aside0.mk hlt
      clear hlt
      go_wp2
      go_loopg [3] 10 (fun n v w' => ∃ e : Int, v = .int .i64 e ∧ Aside0 (1 ≤ e ∧ e + n = 11) ∧ Aside0 (RchT w' w.heap.size T.toNat e.toNat) ∧ Aside0 (Below w.heap.size w w'))
      case atStart => exact ⟨1, rfl, ⟨by omega⟩, HT, HB⟩
      case round =>
        clear HT HB
        obtain ⟨E, rfl, HK2, HT, HB⟩ := hrel
        by_cases hle : E ≤ 10
        · have h3 : decide (E ≤ 10) = true := decide_eq_true (by omega)
          have HL2 := Aside0.mk hle
          clear hle
          obtain ⟨t, ht⟩ : ∃ t : Nat, T = (t : Int) + 1 := ⟨(T - 1).toNat, by have := HK.out; omega⟩
          obtain ⟨ee, he⟩ : ∃ e : Nat, E = (e : Int) + 1 := ⟨(E - 1).toNat, by have := HK2.out; omega⟩
          obtain ⟨T1, hT1⟩ : ∃ T1 : Int, T1 = T - 1 := ⟨_, rfl⟩
          obtain ⟨E1, hE1⟩ : ∃ E1 : Int, E1 = E - 1 := ⟨_, rfl⟩
          obtain ⟨cs, hcs, hR⟩ := HT.out
          have hk := HK.out
          have hk2 := HK2.out
          have hl := HL.out
          have hl2 := HL2.out
          have hR' : RTab cs (t + 1) (ee + 1) := by rw [show T.toNat = t + 1 by omega, show E.toNat = ee + 1 by omega] at hR; exact hR
          have g0 : wr.cell? ⟨w.heap.size, T1.toNat * 11 + E1.toNat, none⟩ = some (.int .i64 (reachAt t ee)) := by rw [show T1.toNat = t by omega, show E1.toNat = ee by omega]; exact (blk_cell hcs (t * 11 + ee)).trans (RTab_get hR' t ee (by omega) (by omega) (by omega))
          have g1 : wr.cell? ⟨w.heap.size, T1.toNat * 11 + E.toNat, none⟩ = some (.int .i64 (reachAt t (ee + 1))) := by rw [show T1.toNat = t by omega, show E.toNat = ee + 1 by omega]; exact (blk_cell hcs (t * 11 + (ee + 1))).trans (RTab_get hR' t (ee + 1) (by omega) (by omega) (by omega))
          have g2 : wr.cell? ⟨w.heap.size, T.toNat * 11 + E.toNat, none⟩ = some (.int .i64 (rCur (t + 1) (ee + 1) (t + 1) (ee + 1))) := by rw [show T.toNat = t + 1 by omega, show E.toNat = ee + 1 by omega]; exact (blk_cell hcs ((t + 1) * 11 + (ee + 1))).trans (hR'.2 (t + 1) (ee + 1) (by omega) (by omega))
          have f2 : wr.frozen? ⟨w.heap.size, T.toNat * 11 + E.toNat, none⟩ = false := blk_frozen hcs _
          have w1 : IntKind.i64.wrap (T - 1) = T1 := by rw [hT1]; exact Hw.wrap_w (by omega) (by omega)
          have w2 : IntKind.i64.wrap (E - 1) = E1 := by rw [hE1]; exact Hw.wrap_w (by omega) (by omega)
          have d1 : decide (0 ≤ T1) = true := decide_eq_true (by omega)
          have d2 : decide (T1 < 1001) = true := decide_eq_true (by omega)
          have d3 : decide (0 ≤ E1) = true := decide_eq_true (by omega)
          have d4 : decide (E1 < 11) = true := decide_eq_true (by omega)
          have d5 : decide (0 ≤ T) = true := decide_eq_true (by omega)
          have d6 : decide (T < 1001) = true := decide_eq_true (by omega)
          have d7 : decide (0 ≤ E) = true := decide_eq_true (by omega)
          have d8 : decide (E < 11) = true := decide_eq_true (by omega)
          have e1 : 0 ≤ T1 := by omega
          have e2 : T1 < 1001 := by omega
          have e3 : 0 ≤ E1 := by omega
          have e4 : E1 < 11 := by omega
          have e5 : 0 ≤ T := by omega
          have e6 : T < 1001 := by omega
          have e7 : 0 ≤ E := by omega
          have e8 : E < 11 := by omega
          have n1 : Aside0 ((⟨w.heap.size, T.toNat * 11 + E.toNat, none⟩ : Addr) ≠ ⟨w.heap.size, T1.toNat * 11 + E1.toNat, none⟩) := ⟨fun h => by injection h; omega⟩
          have n2 : Aside0 ((⟨w.heap.size, T.toNat * 11 + E.toNat, none⟩ : Addr) ≠ ⟨w.heap.size, T1.toNat * 11 + E.toNat, none⟩) := ⟨fun h => by injection h; omega⟩
          have r1 := reachAt_lo t ee
          have r2 := reachAt_lo t (ee + 1)
          have r3 := reachAt_hi t ee
          have r4 := reachAt_hi t (ee + 1)
          obtain ⟨s1, hs1⟩ : ∃ s1 : Int, s1 = reachAt t ee + reachAt t (ee + 1) := ⟨_, rfl⟩
          obtain ⟨s2, hs2⟩ : ∃ s2 : Int, s2 = s1 + 1 := ⟨_, rfl⟩
          have w3 : IntKind.i64.wrap (reachAt t ee + reachAt t (ee + 1)) = s1 := by rw [hs1]; exact Hw.wrap_w (by omega) (by omega)
          have w4 : IntKind.i64.wrap (s1 + 1) = s2 := by rw [hs2]; exact Hw.wrap_w (by omega) (by omega)
          have A3 := Aside0.mk (And.intro hs1 hs2)
          clear hs1 hs2 r1 r2 r3 r4
          have A1 := Aside0.mk (And.intro hT1 (And.intro hE1 (And.intro ht he)))
          have A2 := Aside0.mk (And.intro hcs hR')
          clear hT1 hE1 hcs hR hR' hk hk2 hl hl2 ht he
          go_wp2
          go_region_held3 (fun w' => w'.cell? ⟨w.heap.size, T1.toNat * 11 + E1.toNat, none⟩ = some (.int .i64 (reachAt t ee)) ∧ w'.cell? ⟨w.heap.size, T1.toNat * 11 + E.toNat, none⟩ = some (.int .i64 (reachAt t (ee + 1)))) (first | exact ⟨g0, g1⟩ | exact ⟨(World.cell?_setCell_other _ _ _ _ n1.out).trans g0, (World.cell?_setCell_other _ _ _ _ n2.out).trans g1⟩) (fail)
          have w5 : IntKind.i64.wrap (E + 1) = E + 1 := Hw.wrap_w (by omega) (by omega)
          go_wp2
          all_goals
            go_roundg (10 - E).toNat
            case measure => have := HK2.out; omega
            case rel =>
              refine ⟨E + 1, rfl, ⟨by have := HK2.out; omega⟩, ⟨?_⟩, ⟨below_drew1 (below_set HB.out (Nat.le_refl _))⟩⟩
              obtain ⟨hcs, hR⟩ := A2.out
              obtain ⟨q1, q2, q3, q4⟩ := A1.out
              have q5 := A3.out
              refine ⟨_, blk_drew (blk_set hcs _ _), ?_⟩
              rw [show T.toNat = t + 1 by omega, show E.toNat = ee + 1 by omega, show (E + 1).toNat = ee + 2 by omega]
              refine cast (congrArg (fun z => RTab (cs.setIfInBounds ((t + 1) * 11 + (ee + 1)) (.int .i64 z)) (t + 1) (ee + 2)) ?_) (RTab_set hR (by omega) (by omega))
              omega
        · have h3 : decide (E ≤ 10) = false := decide_eq_false (by omega)
          have hE : E = 11 := by have := HK2.out; omega
          have w5 : IntKind.i64.wrap (T + 1) = T + 1 := Hw.wrap_w (by have := HK.out; omega) (by have := HL.out; omega)
          have HT2 : Aside0 (RchT wr w.heap.size (T + 1).toNat 1) := ⟨by
            obtain ⟨cs, hcs, hR⟩ := HT.out
            refine ⟨cs, hcs, ?_⟩
            rw [hE] at hR
            have := HK.out
            rw [show (T + 1).toNat = T.toNat + 1 by omega]
            exact RTab_row hR⟩
          clear hE HT hle
          go_wp2
          go_roundg (1000 - T).toNat
          case measure => have := HK.out; have := HL.out; omega
          case rel => exact ⟨T + 1, rfl, ⟨by have := HK.out; have := HL.out; omega⟩, HT2, HB⟩
    · have h2 : decide (T ≤ 1000) = false := decide_eq_false (by omega)
      have hT : T = 1001 := by have := HK.out; omega
      clear hlt
      go_wp2
      go_ret
      refine ⟨rfl, ?_, HB.out⟩
      have h_ := HT.out
      rw [hT] at h_
      exact h_


-- FOR (*impl.reaches).fewest
-- CALLS impl.newReaches
theorem reachAt_le_succ (t e : Nat) : reachAt t e ≤ reachAt (t + 1) e := by
  cases e with
  | zero => cases t <;> simp [reachAt]
  | succ e => have := reachAt_lo t e; have := reachAt_hi t (e + 1); rw [reachAt.eq_3]; omega
theorem reachAt_mono (e : Nat) {t t' : Nat} (h : t ≤ t') : reachAt t e ≤ reachAt t' e := by
  induction t' with
  | zero => rw [show t = 0 by omega]; exact Int.le_refl _
  | succ n ih =>
    rcases Nat.lt_or_ge n t with h1 | h1
    · rw [show t = n + 1 by omega]; exact Int.le_refl _
    · exact Int.le_trans (ih h1) (reachAt_le_succ n e)
def fewFrom (e : Nat) (fl : Int) : Nat → Nat → Nat
  | t, 0 => t
  | t, n + 1 => if fl ≤ reachAt t e then t else fewFrom e fl (t + 1) n
def few (e : Nat) (fl : Int) : Nat := fewFrom e fl 0 1000
theorem fewFrom_is (e : Nat) (fl : Int) (r : Nat) (n t : Nat) (h1 : t ≤ r) (h2 : r ≤ t + n) (h3 : ∀ s, s < r → reachAt s e < fl) (h4 : r = t + n ∨ fl ≤ reachAt r e) : fewFrom e fl t n = r := by
  induction n generalizing t with
  | zero => unfold fewFrom; omega
  | succ n ih =>
    unfold fewFrom
    split
    · rename_i h5
      rcases Nat.lt_or_ge t r with h6 | h6
      · have := h3 t h6; omega
      · omega
    · rename_i h5
      have : t ≠ r := by
        intro h6; subst h6
        rcases h4 with h4 | h4
        · omega
        · exact h5 h4
      exact ih (t + 1) (by omega) (by omega) (by rcases h4 with h4 | h4; exact .inl (by omega); exact .inr h4)
theorem few_is (e : Nat) (fl : Int) (r : Nat) (h2 : r ≤ 1000) (h3 : ∀ s, s < r → reachAt s e < fl) (h4 : r = 1000 ∨ fl ≤ reachAt r e) : few e fl = r :=
  fewFrom_is e fl r 1000 0 (by omega) (by omega) h3 (by rcases h4 with h4 | h4; exact .inl (by omega); exact .inr h4)
theorem size11 : ∀ w, Sem.run Try.prog (sizeOf 95) w = .ok 11 w := by
  have h13 : (Try.prog.info? 95).map (fun i => (i.zero, i.size)) = some (some (.agg (Array.replicate 11 (.int .i64 0))), 11) := by kernel_rfl
  intro w
  obtain ⟨_, h_⟩ := zero_of_info h13
  cases hq : Try.prog.info? 95 with
  | none => simp [hq] at h_
  | some i =>
    have h2_ : i.size = 11 := by simpa [hq] using h_
    simp [sizeOf, typeInfo, hq, h2_]
theorem Rch_cell {w : World} {b : Nat} (h : Rch w b) (t e : Int) (h1 : t < 1001) (h2 : e < 11) : w.cell? ⟨b, t.toNat * 11 + e.toNat, none⟩ = some (.int .i64 (reachAt t.toNat e.toNat)) := by
  obtain ⟨cs, hcs, hR⟩ := h
  exact (blk_cell hcs _).trans (RTab_get hR t.toNat e.toNat (by omega) (by omega) (by omega))
set_option maxHeartbeats 8000000 in
set_option maxRecDepth 1000000 in
theorem fewest.calls (w : World) (b : Nat) (e fl : Int) (hR : Rch w b) (he0 : 0 ≤ e) (he1 : e ≤ 10) :
    Calls Try.prog 44 #[.pointer (some ⟨b, 0, none⟩), .int .i64 e, .int .i64 fl] w fun en w' => en = .returned (.int .i64 (few e.toNat fl : Nat)) ∧ w' = w := by
  have zs := size11
  have HR := Aside0.mk hR
  have HE := Aside0.mk (And.intro he0 he1)
  have k1 : 0 ≤ e := he0
  have k2 : e < 11 := by omega
  clear hR he0 he1
  go_enter Try.func44, Try.ntmps44
  go_wp2
  go_loopg [7, 8] 1000 (fun n v7 v8 w' => ∃ lo hi : Int, v7 = .int .i64 lo ∧ v8 = .int .i64 hi ∧ w' = w ∧ Aside0 (0 ≤ lo ∧ lo ≤ hi ∧ hi ≤ 1000 ∧ hi - lo = n) ∧ Aside0 ((∀ s : Nat, s < lo.toNat → reachAt s e.toNat < fl) ∧ (hi = 1000 ∨ fl ≤ reachAt hi.toNat e.toNat)))
  case atStart => exact ⟨0, 1000, rfl, rfl, rfl, ⟨by omega⟩, ⟨fun s hs => absurd hs (by simp), .inl rfl⟩⟩
  case round =>
    obtain ⟨lo, hi, rfl, rfl, rfl, HK, HI⟩ := hrel
    by_cases hlt : lo < hi
    · have d1 : decide (lo < hi) = true := decide_eq_true hlt
      obtain ⟨sm, hsm⟩ : ∃ sm : Int, sm = lo + hi := ⟨_, rfl⟩
      obtain ⟨m, hm⟩ : ∃ m : Int, m = sm.tdiv 2 := ⟨_, rfl⟩
      have hm' : m = sm / 2 := by rw [hm]; exact Int.tdiv_eq_ediv_of_nonneg (by have := HK.out; omega)
      have w1 : IntKind.i64.wrap (lo + hi) = sm := by rw [hsm]; exact Hw.wrap_w (by have := HK.out; omega) (by have := HK.out; omega)
      have w2 : IntKind.i64.wrap (sm.tdiv 2) = m := by rw [← hm]; exact Hw.wrap_w (by have := HK.out; omega) (by have := HK.out; omega)
      have k3 : 0 ≤ m := by have := HK.out; omega
      have k4 : m < 1001 := by have := HK.out; omega
      have g0 := Rch_cell HR.out m e k4 k2
      have HM := Aside0.mk (And.intro hsm (And.intro hm' hlt))
      clear hsm hm hm' hlt
      by_cases hc : fl ≤ reachAt m.toNat e.toNat
      · have d2 : decide (fl ≤ reachAt m.toNat e.toNat) = true := decide_eq_true hc
        have HC := Aside0.mk hc
        clear hc
        go_wp2
        go_roundg (m - lo).toNat
        case measure => have := HK.out; have := HM.out; omega
        case rel => exact ⟨lo, m, rfl, rfl, rfl, ⟨by have := HK.out; have := HM.out; omega⟩, ⟨HI.out.1, .inr HC.out⟩⟩
      · have d2 : decide (fl ≤ reachAt m.toNat e.toNat) = false := decide_eq_false hc
        have HC := Aside0.mk hc
        have w3 : IntKind.i64.wrap (m + 1) = m + 1 := Hw.wrap_w (by omega) (by omega)
        clear hc
        go_wp2
        go_roundg (hi - (m + 1)).toNat
        case measure => have := HK.out; have := HM.out; omega
        case rel => exact ⟨m + 1, hi, rfl, rfl, rfl, ⟨by have := HK.out; have := HM.out; omega⟩, ⟨fun s hs => Int.lt_of_le_of_lt (reachAt_mono e.toNat (show s ≤ m.toNat by omega)) (by have := HC.out; omega), HI.out.2⟩⟩
    · have d1 : decide (lo < hi) = false := decide_eq_false hlt
      have HS : Aside0 (few e.toNat fl = lo.toNat) := ⟨few_is _ _ _ (by have := HK.out; omega) HI.out.1 (by have := HK.out; have := HI.out.2; have h_ : lo = hi := by omega
                                                                                                            rw [h_]; rcases this with h | h; exact .inl (by omega); exact .inr h)⟩
      have HLo := Aside0.mk hlt
      clear hlt
      go_wp2
      go_ret
      exact ⟨by rw [HS.out]; have := HK.out; exact congrArg (fun z => Ending.returned (.int .i64 z)) (by omega), rfl⟩


-- FOR impl.FewestTests
-- KIND rounds=0 making=1
-- CALLS impl.newReaches ; (*impl.reaches).fewest ; impl.isHouse
def hAsk (a0 a1 : Int) : Bool := decide (1 ≤ a0 ∧ a0 ≤ 10 ∧ 0 ≤ a1 ∧ a1 ≤ 1000)
theorem isHouse_is (a0 a1 : Int) : impl_isHouse.f a0 a1 = some (hAsk a0 a1) := by
  unfold impl_isHouse.f impl_isEggs.f impl_isFloors.f impl_within.f hAsk
  by_cases h1 : a0 ≥ 1 <;> by_cases h2 : a0 ≤ 10 <;> by_cases h3 : a1 ≥ 0 <;> by_cases h4 : a1 ≤ 1000 <;> simp [h1, h2, h3, h4] <;> omega
def impl_FewestTests.f (a0 a1 : Int) : Option (Int × Bool) := some (if hAsk a0 a1 then ((few a0.toNat a1 : Nat), true) else (0, false))
set_option maxHeartbeats 8000000 in
set_option maxRecDepth 100000 in
theorem impl_FewestTests.calls (a0 : Int) (a1 : Int) (r1 : Int) (r2 : Bool) (w : World) (h : impl_FewestTests.f a0 a1 = some (r1, r2)) :
    Calls Try.prog 17 #[.int .i64 a0, .int .i64 a1] w fun e w' => e = .returned (.tuple #[.int .i64 r1, .bool r2]) ∧ Below w.heap.size w w' := by
  have HB := Aside0.mk (Below.refl w.heap.size w)
  obtain ⟨b1, hb1⟩ : ∃ b, b = hAsk a0 a1 := ⟨_, rfl⟩
  have e1 := isHouse_is a0 a1
  unfold impl_FewestTests.f at h
  rw [← hb1] at e1 h
  have HC := Aside0.mk e1
  have HC1 := Aside0.mk hb1
  clear e1 hb1
  cases b1 with
  | false =>
    simp only [Bool.false_eq_true, if_false, Option.some.injEq, Prod.mk.injEq] at h
    obtain ⟨rfl, rfl⟩ := h
    go_enter Try.func17, Try.ntmps17
    go_wp2_with (first | (go_at_call 42; refine (impl_isHouse.calls _ _ _ _ HC.out).mono ?_; rintro e_ w_1 ⟨rfl, hd_⟩; have hb_ := hd_.below; clear hd_; have n0_ : Aside0 (Below w.heap.size w w_1) := ⟨Hx.bb_below hb_ (by first | exact HB.out | exact below_drew1 HB.out | exact pw_below_drewN HB.out _)⟩; (try clear HB); have HB := n0_; clear n0_; clear hb_))
    go_ret2
    exact ⟨rfl, HB.out⟩
  | true =>
    simp only [if_true, Option.some.injEq, Prod.mk.injEq] at h
    obtain ⟨rfl, rfl⟩ := h
    have HA : Aside0 (1 ≤ a0 ∧ a0 ≤ 10 ∧ 0 ≤ a1 ∧ a1 ≤ 1000) := ⟨of_decide_eq_true (HC1.out.symm)⟩
    go_enter Try.func17, Try.ntmps17
    go_wp2_with (first | (go_at_call 42; refine (impl_isHouse.calls _ _ _ _ HC.out).mono ?_; rintro e_ w_1 ⟨rfl, hd_⟩; have hb_ := hd_.below; clear hd_; have n0_ : Aside0 (Below w.heap.size w w_1) := ⟨Hx.bb_below hb_ (by first | exact HB.out | exact below_drew1 HB.out | exact pw_below_drewN HB.out _)⟩; (try clear HB); have HB := n0_; clear n0_; clear hb_) | (go_at_call 43; refine (newReaches.calls _).mono ?_; rintro e_ w_2 ⟨rfl, hr_, hb_⟩; have HR := Aside0.mk hr_; have n0_ : Aside0 (Below w.heap.size w w_2) := ⟨Hx.bb_below hb_ (by first | exact HB.out | exact below_drew1 HB.out | exact pw_below_drewN HB.out _)⟩; (try clear HB); have HB := n0_; clear n0_; clear hb_ hr_) | (go_at_call 44; refine (fewest.calls _ _ a0 a1 HR.out (by have := HA.out; omega) (by have := HA.out; omega)).mono ?_; rintro e_ w_3 ⟨rfl, rfl⟩))
    go_ret2
    exact ⟨rfl, HB.out⟩


-- FOR slices.ContainsFunc[[]impl.KindTest,impl.KindTest]
set_option maxHeartbeats 4000000 in
set_option maxRecDepth 100000 in
theorem anyKindTest.calls (p : S43 → Bool) (F : Nat) (fn : Func) (cap : Array Value) (A : Option Addr) (c : Nat) (l : List S43) (w : World) (hr : Kd.C k43 w A l.length l)
    (hF : Try.prog.funcs[F]? = some fn) (hname : (fn.name == "runtime.NumGoroutine") = false) (hb : fn.body.isSome = true)
    (hf : ∀ (x : S43) (W : World), x ∈ l → Below w.heap.size w W → Calls Try.prog F (#[.agg #[.bool x.f0, .int .i64 x.f1, .bool x.f2]] ++ cap) W fun e W' => e = .returned (.bool (p x)) ∧ Below W.heap.size W W') :
    Calls Try.prog 70 #[.slice A l.length c, .func (.func F) #[] cap] w fun e w' => e = .returned (.bool (l.any p)) ∧ Below w.heap.size w w' := by
  have HR := Aside0.mk (idxKindTest.calls p F fn cap A c l w hr hF hname hb hf)
  have HA := Aside0.mk (Hw.idxFrom_any p l 0 (by omega))
  clear hr hname hF hb hf
  go_enter Try.func70, Try.ntmps70
  go_wp2_with (first | (go_at_call 66; refine HR.out.mono ?_; rintro e w1 ⟨rfl, hb1⟩))
  go_ret
  exact ⟨congrArg (fun z => Ending.returned (.bool z)) HA.out, hb1⟩


-- FOR impl.AreKindTests
-- KIND rounds=0 making=1
-- CALLS impl.isKindFloors ; impl.within ; slices.ContainsFunc[[]impl.KindTest,impl.KindTest]
def inFl (fl : Int) (x : S43) : Bool := decide (1 ≤ x.f1) && decide (x.f1 ≤ fl)
theorem ki_within {a b c : Int} : impl_within.f a b c = some (decide (b ≤ a) && decide (a ≤ c)) := by
  unfold impl_within.f
  split
  · rename_i h; rw [decide_eq_true (show b ≤ a from h), Bool.true_and]
  · rename_i h; rw [decide_eq_false (show ¬ b ≤ a from h), Bool.false_and]
set_option maxHeartbeats 4000000 in
set_option maxRecDepth 100000 in
theorem areKind1.calls (fl : Int) (g : Nat) (x : S43) (W : World) (h0 : W.cell? ⟨g, 0, none⟩ = some (.int .i64 fl)) :
    Calls Try.prog 71 #[.agg #[.bool x.f0, .int .i64 x.f1, .bool x.f2], .pointer (some ⟨g, 0, none⟩)] W fun e W' => e = .returned (.bool (!inFl fl x)) ∧ Below W.heap.size W W' := by
  have HC : Aside0 (impl_within.f x.f1 1 fl = some (inFl fl x)) := ⟨ki_within⟩
  have h1 := World.block_lt_of_cell? W _ h0
  go_enter Try.func71, Try.ntmps71
  go_wp2_with (first | (go_at_call 53; refine (impl_within.calls _ _ _ _ _ HC.out).mono ?_; rintro e w1 ⟨rfl, ⟨nd, rfl⟩⟩))
  go_ret
  exact ⟨rfl, pw_below_drewN ((Below.refl _ _).alloc (Nat.le_refl _) _) _⟩
def impl_AreKindTests.f (a0 : Int) (l1 : List S43) : Option Bool := some (decide (0 ≤ a0) && decide (a0 ≤ 6) && decide (l1.length ≤ 40) && l1.all (inFl a0))
theorem kindFloors_some (a : Int) : impl_isKindFloors.f a = some (decide (0 ≤ a) && decide (a ≤ 6)) := by
  unfold impl_isKindFloors.f
  rw [ki_within]
  rfl
set_option maxHeartbeats 4000000 in
set_option maxRecDepth 100000 in
theorem impl_AreKindTests.calls (a0 : Int) (A1 : Option Addr) (c1 : Nat) (l1 : List S43) (r : Bool) (w : World) (hr1 : Kd.C k43 w A1 l1.length l1) (hc1 : l1.length ≤ c1) (h : impl_AreKindTests.f a0 l1 = some r) :
    Calls Try.prog 45 #[.int .i64 a0, .slice A1 l1.length c1] w fun e w' => e = .returned (.bool r) ∧ Below w.heap.size w w' := by
  obtain rfl := Option.some.inj h
  clear h
  have HH := Aside0.mk (kindFloors_some a0)
  have HR := Aside0.mk (Kd.C_below hr1 ((Below.refl w.heap.size w).alloc (Nat.le_refl _) (.cells #[.int .i64 a0] 3 (0, 0))))
  have hm := Kd.C_max hr1
  clear hr1
  cases h1 : (decide (0 ≤ a0) && decide (a0 ≤ 6)) with
  | false =>
    rw [h1] at HH
    clear h1
    go_enter Try.func45, Try.ntmps45
    go_wp2_with (first | (go_at_call 54; refine (impl_isKindFloors.calls _ _ _ HH.out).mono ?_; rintro e w1 ⟨rfl, ⟨nd, rfl⟩⟩))
    go_ret
    exact ⟨by simp, pw_below_drewN ((Below.refl _ _).alloc (Nat.le_refl _) _) _⟩
  | true =>
    rw [h1] at HH
    clear h1
    by_cases h2 : l1.length ≤ 40
    · have h2' : decide ((l1.length : Int) ≤ 40) = true := decide_eq_true (by omega)
      have h3' : decide (l1.length ≤ 40) = true := decide_eq_true h2
      have HX : Aside0 (∀ nd, Calls Try.prog 70 #[.slice A1 l1.length c1, .func (.func 71) #[] #[.pointer (some ⟨w.heap.size, 0, none⟩)]] ((w.alloc (.cells #[.int .i64 a0] 3 (0, 0))).drewN nd) fun e w' => e = .returned (.bool (l1.any fun x => !inFl a0 x)) ∧ Below (w.heap.size + 1) ((w.alloc (.cells #[.int .i64 a0] 3 (0, 0))).drewN nd) w') := by
        refine ⟨fun nd => (anyKindTest.calls (fun x => !inFl a0 x) 71 _ #[.pointer (some ⟨w.heap.size, 0, none⟩)] A1 c1 l1 _ (Kd.C_below HR.out (pw_below_drewN (Below.refl _ _) _)) Try.func71 (by kernel_rfl) rfl ?_).mono fun e w' hh => ⟨hh.1, hh.2.mono (by simp)⟩⟩
        intro x W _ hb
        exact areKind1.calls a0 w.heap.size x W ((hb.cell (p := ⟨w.heap.size, 0, none⟩) (by simp)).trans (by rw [show ∀ (V : World) (p : Addr), (V.drewN nd).cell? p = V.cell? p from fun _ _ => rfl, World.cell?_alloc_at _ _ _ _ rfl]; rfl))
      go_enter Try.func45, Try.ntmps45
      go_wp2_with (first | (go_at_call 54; refine (impl_isKindFloors.calls _ _ _ HH.out).mono ?_; rintro e w1 ⟨rfl, ⟨nd, rfl⟩⟩) | (go_at_call 70; refine (HX.out _).mono ?_; rintro e w1 ⟨rfl, hb1⟩))
      go_ret
      exact ⟨by simp [h3', Hw.all_not_any], (pw_below_drewN ((Below.refl _ _).alloc (Nat.le_refl _) _) _).trans (hb1.mono (by simp))⟩
    · have h2' : decide ((l1.length : Int) ≤ 40) = false := decide_eq_false (by omega)
      have h3' : decide (l1.length ≤ 40) = false := decide_eq_false h2
      go_enter Try.func45, Try.ntmps45
      go_wp2_with (first | (go_at_call 54; refine (impl_isKindFloors.calls _ _ _ HH.out).mono ?_; rintro e w1 ⟨rfl, ⟨nd, rfl⟩⟩))
      go_ret
      exact ⟨by simp [h3'], pw_below_drewN ((Below.refl _ _).alloc (Nat.le_refl _) _) _⟩


-- FOR impl.fitsAll
-- KIND rounds=0 making=1
-- CALLS (impl.KindTest).fits ; slices.ContainsFunc[[]impl.KindTest,impl.KindTest]
def kfits (wk st : Int) (x : S43) : Bool := (impl_KindTest_fits.f x.f0 x.f1 x.f2 wk st).getD false
theorem kfits_some (a b c d e) : impl_KindTest_fits.f a b c d e = some ((impl_KindTest_fits.f a b c d e).getD false) := by
  have h : ∃ r, impl_KindTest_fits.f a b c d e = some r := by
    unfold impl_KindTest_fits.f
    repeat (first | exact ⟨_, rfl⟩ | split | simp only [Option.bind_some])
  obtain ⟨r, h⟩ := h
  rw [h]; rfl
set_option maxHeartbeats 4000000 in
set_option maxRecDepth 100000 in
theorem fitsAll1.calls (wk st : Int) (g1 g2 : Nat) (x : S43) (W : World) (h1 : W.cell? ⟨g1, 0, none⟩ = some (.int .i64 wk)) (h2 : W.cell? ⟨g2, 0, none⟩ = some (.int .i64 st)) :
    Calls Try.prog 76 #[.agg #[.bool x.f0, .int .i64 x.f1, .bool x.f2], .pointer (some ⟨g1, 0, none⟩), .pointer (some ⟨g2, 0, none⟩)] W fun e W' => e = .returned (.bool (!kfits wk st x)) ∧ Below W.heap.size W W' := by
  have HC : Aside0 (impl_KindTest_fits.f x.f0 x.f1 x.f2 wk st = some (kfits wk st x)) := ⟨kfits_some _ _ _ _ _⟩
  have l1 := World.block_lt_of_cell? W _ h1
  have l2 := World.block_lt_of_cell? W _ h2
  go_enter Try.func76, Try.ntmps76
  go_wp2_with (first | (go_at_call 55; refine (impl_KindTest_fits.calls _ _ _ _ _ _ _ HC.out).mono ?_; rintro e w1 ⟨rfl, hb1⟩))
  go_ret
  exact ⟨rfl, ((Below.refl _ _).alloc (Nat.le_refl _) _).trans (hb1.mono (by simp))⟩
def impl_fitsAll.f (l0 : List S43) (a1 a2 : Int) : Option Bool := some (l0.all (kfits a1 a2))
set_option maxHeartbeats 4000000 in
set_option maxRecDepth 100000 in
theorem impl_fitsAll.calls (A0 : Option Addr) (c0 : Nat) (l0 : List S43) (a1 a2 : Int) (r : Bool) (w : World) (hr0 : Kd.C k43 w A0 l0.length l0) (hc0 : l0.length ≤ c0) (h : impl_fitsAll.f l0 a1 a2 = some r) :
    Calls Try.prog 72 #[.slice A0 l0.length c0, .int .i64 a1, .int .i64 a2] w fun e w' => e = .returned (.bool r) ∧ Below w.heap.size w w' := by
  obtain rfl := Option.some.inj h
  clear h
  have HR := Aside0.mk hr0
  have HX : Aside0 (∀ (W : World), Below w.heap.size w W → W.cell? ⟨w.heap.size, 0, none⟩ = some (.int .i64 a1) → W.cell? ⟨w.heap.size + 1, 0, none⟩ = some (.int .i64 a2) → Calls Try.prog 70 #[.slice A0 l0.length c0, .func (.func 76) #[] #[.pointer (some ⟨w.heap.size, 0, none⟩), .pointer (some ⟨w.heap.size + 1, 0, none⟩)]] W fun e w' => e = .returned (.bool (l0.any fun x => !kfits a1 a2 x)) ∧ Below W.heap.size W w') := ⟨fun W hb q1 q2 => by
    have l1 := World.block_lt_of_cell? W _ q1
    have l2 := World.block_lt_of_cell? W _ q2
    refine anyKindTest.calls (fun x => !kfits a1 a2 x) 76 _ #[.pointer (some ⟨w.heap.size, 0, none⟩), .pointer (some ⟨w.heap.size + 1, 0, none⟩)] A0 c0 l0 W (Kd.C_below HR.out hb) Try.func76 (by kernel_rfl) rfl ?_
    intro x V _ hv
    exact fitsAll1.calls a1 a2 w.heap.size (w.heap.size + 1) x V ((hv.cell (p := ⟨w.heap.size, 0, none⟩) l1).trans q1) ((hv.cell (p := ⟨w.heap.size + 1, 0, none⟩) l2).trans q2)⟩
  clear hr0
  have h2_ := blk_new (w.alloc (Obj.cells #[Value.int IntKind.i64 a1] 3)) (Obj.cells #[Value.int IntKind.i64 a2] 3)
  rw [World.size_alloc] at h2_
  have HY := Aside0.mk (HX.out ((w.alloc (Obj.cells #[Value.int IntKind.i64 a1] 3)).alloc (Obj.cells #[Value.int IntKind.i64 a2] 3)) (below_alloc (below_alloc (Below.refl _ _) _) _) ((blk_cell (blk_alloc (blk_new _ _) _) 0).trans rfl) ((blk_cell h2_ 0).trans rfl))
  clear h2_
  go_enter Try.func72, Try.ntmps72
  go_wp2_with (first | (go_at_call 70; refine HY.out.mono ?_; rintro e w1 ⟨rfl, hb1⟩))
  go_ret
  exact ⟨by first | rfl | exact congrArg (fun z => Ending.returned (.bool z)) (Hw.all_not_any (kfits a1 a2) l0), below_step (below_alloc (below_alloc (Below.refl _ _) _) _) hb1⟩


/-! ### impl_pairsLeft: function 46 -/
mutual
def impl_pairsLeft.l0 : Nat → Int → List (S43) → List (List Int) → Int → Int → Option ((List (List Int)))
  | 0, _, _, _, _, _ => none
  | k + 1, x0, x1, x5, x10, x11 => if x11 < x10 then (impl_pairsLeft.l1 k x0 x1 x5 x11 x11 x10 x11) else (some x5)
def impl_pairsLeft.l1 : Nat → Int → List (S43) → List (List Int) → Int → Int → Int → Int → Option ((List (List Int)))
  | 0, _, _, _, _, _, _, _ => none
  | k + 1, x0, x1, x5, x6, x7, x10, x11 => if x7 ≤ x0 then ((impl_fitsAll.f x1 x6 x7).bind fun t267 => (if t267 = true then (if x5.length < 5864062014805 then (impl_pairsLeft.l1 k x0 x1 (x5 ++ [(([x6, x7] : List Int))]) x6 (wrap64 (x7 + 1)) x10 x11) else (none)) else (impl_pairsLeft.l1 k x0 x1 x5 x6 (wrap64 (x7 + 1)) x10 x11))) else (impl_pairsLeft.l0 k x0 x1 x5 x10 (wrap64 (x11 + 1)))
end
def impl_pairsLeft.f (k : Nat) (a0 : Int) (l1 : List (S43)) : Option ((List (List Int))) := impl_pairsLeft.l0 k a0 l1 (([] : List (List Int))) (wrap64 (a0 + 1)) 0
theorem impl_pairsLeft.mono_l : ∀ k, (∀ y0 y1 y2 y3 y4, LeO (impl_pairsLeft.l0 k y0 y1 y2 y3 y4) (impl_pairsLeft.l0 (k + 1) y0 y1 y2 y3 y4)) ∧ (∀ y0 y1 y2 y3 y4 y5 y6, LeO (impl_pairsLeft.l1 k y0 y1 y2 y3 y4 y5 y6) (impl_pairsLeft.l1 (k + 1) y0 y1 y2 y3 y4 y5 y6))
  | 0 => ⟨fun _ _ _ _ _ r h => by simp [impl_pairsLeft.l0] at h, fun _ _ _ _ _ _ _ r h => by simp [impl_pairsLeft.l1] at h⟩
  | k + 1 => by
    obtain ⟨ih0, ih1⟩ := impl_pairsLeft.mono_l k
    refine ⟨?_, ?_⟩
    · intro y0 y1 y2 y3 y4
      unfold impl_pairsLeft.l0
      repeat' first
      | (with_reducible exact ih0 _ _ _ _ _)
      | (with_reducible exact ih1 _ _ _ _ _ _ _)
      | (with_reducible exact LeO.refl _)
      | (with_reducible exact LeO.none _)
      | (with_reducible refine LeO.ite ?_ ?_)
      | (with_reducible refine LeO.bind ?_ (fun _ => ?_))
      | exact ih0 _ _ _ _ _
      | exact ih1 _ _ _ _ _ _ _
      | exact LeO.none _
      | refine LeO.ite ?_ ?_
      | refine LeO.bind ?_ (fun _ => ?_)
    · intro y0 y1 y2 y3 y4 y5 y6
      unfold impl_pairsLeft.l1
      repeat' first
      | (with_reducible exact ih0 _ _ _ _ _)
      | (with_reducible exact ih1 _ _ _ _ _ _ _)
      | (with_reducible exact LeO.refl _)
      | (with_reducible exact LeO.none _)
      | (with_reducible refine LeO.ite ?_ ?_)
      | (with_reducible refine LeO.bind ?_ (fun _ => ?_))
      | exact ih0 _ _ _ _ _
      | exact ih1 _ _ _ _ _ _ _
      | exact LeO.none _
      | refine LeO.ite ?_ ?_
      | refine LeO.bind ?_ (fun _ => ?_)
theorem impl_pairsLeft.mono : ∀ a0 a1 k, LeO (impl_pairsLeft.f k a0 a1) (impl_pairsLeft.f (k + 1) a0 a1) := by
  intro a0 a1 k
  obtain ⟨ih0, ih1⟩ := impl_pairsLeft.mono_l k
  unfold impl_pairsLeft.f
  repeat' first
      | (with_reducible exact ih0 _ _ _ _ _)
      | (with_reducible exact ih1 _ _ _ _ _ _ _)
      | (with_reducible exact LeO.refl _)
      | (with_reducible exact LeO.none _)
      | (with_reducible refine LeO.ite ?_ ?_)
      | (with_reducible refine LeO.bind ?_ (fun _ => ?_))
      | exact ih0 _ _ _ _ _
      | exact ih1 _ _ _ _ _ _ _
      | exact LeO.none _
      | refine LeO.ite ?_ ?_
      | refine LeO.bind ?_ (fun _ => ?_)
set_option maxHeartbeats 8000000 in
set_option maxRecDepth 100000 in
theorem impl_pairsLeft.calls (k : Nat) (a0 : Int) (A1 : Option Addr) (c1 : Nat) (l1 : List (S43)) (r : List (List Int)) (w : World) (hr1 : Kd.C k43 w A1 l1.length l1) (hc1 : l1.length ≤ c1) (h : impl_pairsLeft.f k a0 l1 = some r) :
    Calls Try.prog 46 #[.int .i64 a0, .slice A1 l1.length c1] w fun e w' => ∃ v0_ : Value, e = .returned (v0_) ∧ Kd.S (Kd.slice 3 (Kd.int .i64)) 39 w' w.heap.size (fun _ => True) v0_ r ∧ Below w.heap.size w w' := by
  have HR1 := Aside0.mk hr1
  have HC1 := Aside0.mk hc1
  clear hr1 hc1
  have HB := Aside0.mk (Below.refl w.heap.size w)
  have H : (impl_pairsLeft.l0 k a0 l1 (([] : List (List Int))) (wrap64 (a0 + 1)) 0) = some r := h
  clear h
  obtain ⟨y264, hy264⟩ : ∃ y_ : List (List Int), y_ = (([] : List (List Int))) := ⟨_, rfl⟩
  replace H : (impl_pairsLeft.l0 k a0 l1 y264 (wrap64 (a0 + 1)) 0) = some r := by first | (rw [hy264]; with_reducible exact H) | (have H2_ := (Option.bind_some _ _).symm.trans H; rw [hy264]; with_reducible exact H2_) | (have H2_ := (Option.bind_some _ _).symm.trans H; with_reducible exact H2_) | with_reducible exact H | (rw [hy264]; exact H) | exact H
  have Ny264 := Aside0.mk hy264
  clear hy264
  have H' := Aside0.mk H
  clear H
  go_enter Try.func46, Try.ntmps46
  go_wp2_with (first | ((with_reducible refine gate_dst (N := 8) rfl ?_); refine Kd.S_lit (Kd.slice 3 (Kd.int .i64)) _ 39 ?hg (N := 8) ?hd (xs := ([] : List (List Int))) (inner := []) (ok := fun _ => True) (okp := fun _ => True) ?hr ?hp (fun _ hk => hk) trivial (Below.refl _ _) (Nat.le_refl _) (by simp) ?_; (case hd => rfl); (case hg => rfl); (case hr => first | (go_simp; done) | (go_simp; rfl)); (case hp => exact (Reps.none _ _)); intro v265 w3 ho4 hb hg_ hnew_; clear hg_ hnew_; (first | rw [← Ny264.out] at ho4 | (simp only [Int.reduceToNat] at ho4; rw [← Ny264.out] at ho4)); have n0_ := Aside0.mk (Kd.S_lower ho4 (below_size (by repeat (first | (with_reducible first | exact HB.out | apply below_alloc | apply pw_below_drewN | apply below_drew1) | exact HB.out)))); have n1_ := Aside0.mk (below_step (by repeat (first | (with_reducible first | exact HB.out | apply below_alloc | apply pw_below_drewN | apply below_drew1) | exact HB.out)) hb); clear HB; have HO266 := n0_; have HB := n1_; clear n0_ n1_; clear hb ho4))
  go_loopg [5, 11] k (fun kq v5 v11 w' => ∃ (x5_1 : List (List Int)) (x11_1 : Int), v11 = .int .i64 x11_1 ∧ Aside0 (impl_pairsLeft.l0 kq a0 l1 x5_1 (wrap64 (a0 + 1)) x11_1 = some r) ∧ Aside0 (kq ≤ k) ∧ Aside0 (Kd.S (Kd.slice 3 (Kd.int .i64)) 39 w' w.heap.size (fun _ => True) v5 x5_1) ∧ Aside0 (Below w.heap.size w w'))
  case atStart => exact ⟨(y264), (0), (by first | rfl | (simp; done) | (simp [*]; done)), H', ⟨Nat.le_refl _⟩, ⟨by (with_reducible repeat (first | apply Kd.S_alloc | apply Kd.S_drewN | apply Kd.S_drew)); exact HO266.out⟩, ⟨by repeat (first | (with_reducible first | exact HB.out | apply below_alloc | apply pw_below_drewN | apply below_drew1) | exact HB.out)⟩⟩
  case round =>
    clear H'
    try clear c1
    try clear p2
    try clear c4
    obtain ⟨x5_1, x11_1, rfl, HA, HK1, HO_5, HB⟩ := hrel
    cases gk with
    | zero => exact absurd HA.out (by simp [impl_pairsLeft.l0])
    | succ k1 =>
      have H := HA.out
      clear HA
      simp only [impl_pairsLeft.l0] at H
      by_cases c5 : x11_1 < (wrap64 (a0 + 1))
      · rw [if_pos c5] at H
        have c5b0 : decide (x11_1 < (wrap64 (a0 + 1))) = true := decide_eq_true c5
        clear c5
        have H' := Aside0.mk H
        clear H
        go_wp2
        go_loopg [5, 7] k1 (fun kq v5 v7 w' => ∃ (x5_2 : List (List Int)) (x7_2 : Int), v7 = .int .i64 x7_2 ∧ Aside0 (impl_pairsLeft.l1 kq a0 l1 x5_2 x11_1 x7_2 (wrap64 (a0 + 1)) x11_1 = some r) ∧ Aside0 (kq ≤ k1) ∧ Aside0 (Kd.S (Kd.slice 3 (Kd.int .i64)) 39 w' w.heap.size (fun _ => True) v5 x5_2) ∧ Aside0 (Below w.heap.size w w'))
        case atStart => exact ⟨(x5_1), (x11_1), (by first | rfl | (simp; done) | (simp [*]; done)), H', ⟨Nat.le_refl _⟩, ⟨by (with_reducible repeat (first | apply Kd.S_alloc | apply Kd.S_drewN | apply Kd.S_drew)); exact HO_5.out⟩, ⟨by repeat (first | (with_reducible first | exact HB.out | apply below_alloc | apply pw_below_drewN | apply below_drew1) | exact HB.out)⟩⟩
        case round =>
          clear H'
          try clear c1
          try clear p2
          try clear c4
          try clear c5
          try clear c5b0
          try clear p2
          obtain ⟨x5_2, x7_2, rfl, HA, HK2, HO_5, HB⟩ := hrel
          cases gk with
          | zero => exact absurd HA.out (by simp [impl_pairsLeft.l1])
          | succ k2 =>
            have H := HA.out
            clear HA
            simp only [impl_pairsLeft.l1] at H
            by_cases c6 : x7_2 ≤ a0
            · rw [if_pos c6] at H
              have c6b0 : decide (x7_2 ≤ a0) = true := decide_eq_true c6
              clear c6
              replace H := Option.bind_eq_some_iff.mp H
              obtain ⟨t267, A70, H⟩ := H
              replace H : (if t267 = true then (if x5_2.length < 5864062014805 then (impl_pairsLeft.l1 k2 a0 l1 (x5_2 ++ [(([x11_1, x7_2] : List Int))]) x11_1 (wrap64 (x7_2 + 1)) (wrap64 (a0 + 1)) x11_1) else (none)) else (impl_pairsLeft.l1 k2 a0 l1 x5_2 x11_1 (wrap64 (x7_2 + 1)) (wrap64 (a0 + 1)) x11_1)) = some r := H
              have A7 := Aside0.mk A70
              clear A70
              by_cases c8 : t267 = true
              · subst c8
                have H1 : (if x5_2.length < 5864062014805 then (impl_pairsLeft.l1 k2 a0 l1 (x5_2 ++ [(([x11_1, x7_2] : List Int))]) x11_1 (wrap64 (x7_2 + 1)) (wrap64 (a0 + 1)) x11_1) else (none)) = some r := by rw [if_pos rfl] at H; exact H
                clear H
                have H := H1
                clear H1
                obtain ⟨y268, hy268⟩ : ∃ y_ : List Int, y_ = (([x11_1, x7_2] : List Int)) := ⟨_, rfl⟩
                replace H : (if x5_2.length < 5864062014805 then (impl_pairsLeft.l1 k2 a0 l1 (x5_2 ++ [y268]) x11_1 (wrap64 (x7_2 + 1)) (wrap64 (a0 + 1)) x11_1) else (none)) = some r := by first | (rw [hy268]; with_reducible exact H) | (have H2_ := (Option.bind_some _ _).symm.trans H; rw [hy268]; with_reducible exact H2_) | (have H2_ := (Option.bind_some _ _).symm.trans H; with_reducible exact H2_) | with_reducible exact H | (rw [hy268]; exact H) | exact H
                have Ny268 := Aside0.mk hy268
                clear hy268
                by_cases c9 : x5_2.length < 5864062014805
                · rw [if_pos c9] at H
                  have LMc9 := Aside0.mk c9
                  clear c9
                  obtain ⟨y271, hy271⟩ : ∃ y_ : List (List Int), y_ = (x5_2 ++ [y268]) := ⟨_, rfl⟩
                  replace H : (impl_pairsLeft.l1 k2 a0 l1 y271 x11_1 (wrap64 (x7_2 + 1)) (wrap64 (a0 + 1)) x11_1) = some r := by first | (rw [hy271]; with_reducible exact H) | (have H2_ := (Option.bind_some _ _).symm.trans H; rw [hy271]; with_reducible exact H2_) | (have H2_ := (Option.bind_some _ _).symm.trans H; with_reducible exact H2_) | with_reducible exact H | (rw [hy271]; exact H) | exact H
                  have Ny271 := Aside0.mk hy271
                  clear hy271
                  have H' := Aside0.mk H
                  clear H
                  go_wp2_with (first | ((with_reducible refine gate_callee (f := 72) rfl ?_); refine goesL_ (some 23) rfl rfl Try.func72 (by kernel_rfl) rfl #[.slice A1 l1.length c1, .int .i64 x11_1, .int .i64 x7_2] rfl (by (try simp only [List.map_toArray, List.map_cons, List.map_nil]); first | done | rfl | (simp only [List.length_drop, List.length_take]; rfl)) ?_; (with_reducible refine (impl_fitsAll.calls _ _ l1 x11_1 x7_2 true _ ?side1 ?side2 A7.out).mono ?_); (case side1 => repeat (first | exact (Kd.C_below HR1.out HB.out) | (with_reducible refine Kd.C_alloc ?_ _) | (with_reducible refine Kd.C_drewN ?_ _) | (with_reducible refine Kd.C_drew ?_))); (case side2 => exact HC1.out); rintro e w10 ⟨rfl, hb⟩; refine ⟨_, rfl, ?_⟩; have n0_ := Aside0.mk (Kd.S_below (by (with_reducible repeat (first | apply Kd.S_alloc | apply Kd.S_drewN | apply Kd.S_drew)); exact HO_5.out) hb); have n1_ := Aside0.mk (below_step (by repeat (first | (with_reducible first | exact HB.out | apply below_alloc | apply pw_below_drewN | apply below_drew1) | exact HB.out)) hb); clear HO_5; clear HB; have HO_5 := n0_; have HB := n1_; clear n0_ n1_; (try clear hb); (try clear hb2); (try clear hk); (try clear hi)) | ((with_reducible refine gate_dst (N := 27) rfl ?_); refine Kd.R_lit (Kd.int .i64) _ 3 ?hg (N := 27) ?hd (xs := ([x11_1, x7_2] : List Int)) (inner := [.int .i64 x11_1, .int .i64 x7_2]) (ok := fun _ => True) (okp := fun _ => True) ?hr ?hp (fun _ hk => hk) trivial (Below.refl _ _) (Nat.le_refl _) (by simp) ?_; (case hd => rfl); (case hg => rfl); (case hr => first | (go_simp; done) | (go_simp; rfl)); (case hp => exact (Reps.one (show Kd.M (Kd.int .i64) _ _ _ x11_1 [.int .i64 x11_1] from rfl) (Reps.one (show Kd.M (Kd.int .i64) _ _ _ x7_2 [.int .i64 x7_2] from rfl) (Reps.none _ _)))); intro v269 w11 ho12 hb hg_ hnew_; clear hg_ hnew_; (first | rw [← Ny268.out] at ho12 | (simp only [Int.reduceToNat] at ho12; rw [← Ny268.out] at ho12)); have n0_ := Aside0.mk (Kd.S_elder' (by (with_reducible repeat (first | apply Kd.S_alloc | apply Kd.S_drewN | apply Kd.S_drew)); exact HO_5.out) (Kd.R_base ho12) hb); have n1_ := Aside0.mk (Kd.R_lower ho12 (below_size (by repeat (first | (with_reducible first | exact HB.out | apply below_alloc | apply pw_below_drewN | apply below_drew1) | exact HB.out)))); have n2_ := Aside0.mk (below_step (by repeat (first | (with_reducible first | exact HB.out | apply below_alloc | apply pw_below_drewN | apply below_drew1) | exact HB.out)) hb); clear HO_5; clear HB; have HO_5 := n0_; have HO270 := n1_; have HB := n2_; clear n0_ n1_ n2_; clear hb ho12; obtain ⟨Ao14, co14, eo14⟩ := Kd.R_slice HO270.out; subst eo14) | ((with_reducible refine gate_builtin (b := .append) (xs := #[.tmp 24, .tmp 28]) rfl ?_); at_builtin; refine Kd.S_append (Kd.slice 3 (Kd.int .i64)) (w0 := w) w.heap.size rfl (.tmp 24) (.tmp 28) 36 39 (.slice none 0 0) 24 rfl Try.underlying36 info39 rfl (by decide) (by omega) u5 x5_2 y268 [.slice Ao14 y268.length co14] (fun _ => True) (fun k_ => some k_ = (.slice Ao14 y268.length co14 : Value).ownBlock) rfl rfl ?aP (fun k_ hk_ => ((Kd.R_mono (ok' := fun k_ => ((fun _ => True)) k_ ∧ some k_ ≠ (u5 : Value).ownBlock) (Kd.R_apart' (HO270.out) (Kd.S_typed HO_5.out) (by decide)) (fun k_ hk => ⟨trivial, hk.2⟩))).1 k_ hk_.symm) ?aF ?aO ?aB ?aS ?aL ?_; (case aP => exact Kd.M_row (Kd.R_mono (Kd.R_tight rfl (Kd.R_mono (ok' := fun k_ => ((fun _ => True)) k_ ∧ some k_ ≠ (u5 : Value).ownBlock) (Kd.R_apart' (HO270.out) (Kd.S_typed HO_5.out) (by decide)) (fun k_ hk => ⟨trivial, hk.2⟩))) (fun _ h_ => h_))); (case aB => exact (by repeat (first | (with_reducible first | exact HB.out | apply below_alloc | apply pw_below_drewN | apply below_drew1) | exact HB.out))); (case aF => exact (fun _ _ => trivial)); (case aO => exact (by (with_reducible repeat (first | apply Kd.S_alloc | apply Kd.S_drewN | apply Kd.S_drew)); exact Kd.S_mono HO_5.out (fun k_ hk => ⟨trivial, fun e_ => hk.2 e_⟩))); (case aS => exact (below_size (by repeat (first | (with_reducible first | exact HB.out | apply below_alloc | apply pw_below_drewN | apply below_drew1) | exact HB.out)))); (case aL => have := LMc9.out; omega); intro v272 w13 ho hb hg hat; rw [← Ny271.out] at ho; have n0_ := Aside0.mk (hb); have n1_ := Aside0.mk (ho); clear HB; clear HO_5; clear HO270; have HB := n0_; have HO273 := n1_; clear n0_ n1_; clear ho hb hg hat))
                  go_roundg k2
                  case measure => have := HK1.out; have := HK2.out; omega
                  case rel => exact ⟨(y271), (wrap64 (x7_2 + 1)), (by first | rfl | (simp; done) | (simp [*]; done)), H', ⟨by have := HK1.out; have := HK2.out; omega⟩, ⟨by (with_reducible repeat (first | apply Kd.S_alloc | apply Kd.S_drewN | apply Kd.S_drew)); exact HO273.out⟩, ⟨by repeat (first | (with_reducible first | exact HB.out | apply below_alloc | apply pw_below_drewN | apply below_drew1) | exact HB.out)⟩⟩
                · rw [if_neg c9] at H
                  exact absurd H (by simp)
              · replace c8 := Bool.eq_false_iff.mpr c8
                subst c8
                have H1 : (impl_pairsLeft.l1 k2 a0 l1 x5_2 x11_1 (wrap64 (x7_2 + 1)) (wrap64 (a0 + 1)) x11_1) = some r := by rw [if_neg (show ¬ (false = true) by decide)] at H; exact H
                clear H
                have H := H1
                clear H1
                have H' := Aside0.mk H
                clear H
                go_wp2_with (first | ((with_reducible refine gate_callee (f := 72) rfl ?_); refine goesL_ (some 23) rfl rfl Try.func72 (by kernel_rfl) rfl #[.slice A1 l1.length c1, .int .i64 x11_1, .int .i64 x7_2] rfl (by (try simp only [List.map_toArray, List.map_cons, List.map_nil]); first | done | rfl | (simp only [List.length_drop, List.length_take]; rfl)) ?_; (with_reducible refine (impl_fitsAll.calls _ _ l1 x11_1 x7_2 false _ ?side1 ?side2 A7.out).mono ?_); (case side1 => repeat (first | exact (Kd.C_below HR1.out HB.out) | (with_reducible refine Kd.C_alloc ?_ _) | (with_reducible refine Kd.C_drewN ?_ _) | (with_reducible refine Kd.C_drew ?_))); (case side2 => exact HC1.out); rintro e w15 ⟨rfl, hb⟩; refine ⟨_, rfl, ?_⟩; have n0_ := Aside0.mk (Kd.S_below (by (with_reducible repeat (first | apply Kd.S_alloc | apply Kd.S_drewN | apply Kd.S_drew)); exact HO_5.out) hb); have n1_ := Aside0.mk (below_step (by repeat (first | (with_reducible first | exact HB.out | apply below_alloc | apply pw_below_drewN | apply below_drew1) | exact HB.out)) hb); clear HO_5; clear HB; have HO_5 := n0_; have HB := n1_; clear n0_ n1_; (try clear hb); (try clear hb2); (try clear hk); (try clear hi)))
                go_roundg k2
                case measure => have := HK1.out; have := HK2.out; omega
                case rel => exact ⟨(x5_2), (wrap64 (x7_2 + 1)), (by first | rfl | (simp; done) | (simp [*]; done)), H', ⟨by have := HK1.out; have := HK2.out; omega⟩, ⟨by (with_reducible repeat (first | apply Kd.S_alloc | apply Kd.S_drewN | apply Kd.S_drew)); exact HO_5.out⟩, ⟨by repeat (first | (with_reducible first | exact HB.out | apply below_alloc | apply pw_below_drewN | apply below_drew1) | exact HB.out)⟩⟩
            · rw [if_neg c6] at H
              have c6b0 : decide (x7_2 ≤ a0) = false := decide_eq_false c6
              clear c6
              have H' := Aside0.mk H
              clear H
              go_wp2
              go_roundg k2
              case measure => have := HK1.out; have := HK2.out; omega
              case rel => exact ⟨(x5_2), (wrap64 (x11_1 + 1)), (by first | rfl | (simp; done) | (simp [*]; done)), H', ⟨by have := HK1.out; have := HK2.out; omega⟩, ⟨by (with_reducible repeat (first | apply Kd.S_alloc | apply Kd.S_drewN | apply Kd.S_drew)); exact HO_5.out⟩, ⟨by repeat (first | (with_reducible first | exact HB.out | apply below_alloc | apply pw_below_drewN | apply below_drew1) | exact HB.out)⟩⟩
      · rw [if_neg c5] at H
        have c5b0 : decide (x11_1 < (wrap64 (a0 + 1))) = false := decide_eq_false c5
        clear c5
        obtain rfl := Option.some.inj H
        go_wp2
        go_ret
        exact ⟨_, by first | rfl | (simp [errW_none, errW_some] <;> rfl) | (simp [*, errW_none, errW_some] <;> rfl), by (with_reducible repeat (first | apply Kd.S_alloc | apply Kd.S_drewN | apply Kd.S_drew)); exact HO_5.out, by repeat (first | (with_reducible first | exact HB.out | apply below_alloc | apply pw_below_drewN | apply below_drew1) | exact HB.out)⟩

end Go.Proofs.Ytibapicnljedcab.Q
