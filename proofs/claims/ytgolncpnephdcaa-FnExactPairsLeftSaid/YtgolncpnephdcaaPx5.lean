/- Plain Lean functions with the answers of Go functions, and proofs of it: printed by a program of this session (pr.py) over the kit's print, with hand-written parts. -/
import Derived.Test.YtgolncpnephdcaaPx0
import Derived.Test.YtgolncpnephdcaaPx1
import Derived.Test.YtgolncpnephdcaaPx2
import Derived.Test.YtgolncpnephdcaaPx3
import Derived.Test.YtgolncpnephdcaaPx4
namespace Go.Proofs.Ytgolncpnephdcaa.P
open Go.RowKit Go.Proofs.YtgolncpnephdcaaW.PrintWords Go.Proofs.YtgolncpnephdcaaW.PrintLast Go.Proofs.YtgolncpnephdcaaW.PrintMore
attribute [local go_sem] max2_int min2_int max_two min_two max_three min_three max_four min_four   -- for this text's walks alone
set_option linter.unusedVariables false
set_option linter.unusedSimpArgs false

/-! ### laws_heldIntS: function 31 -/
def laws_heldIntS.l0 : Nat → List Int → Int → Int → Option (Int)
  | 0, _, _, _ => none
  | k + 1, x0, x1, x5 => if x5 < (x0.length : Int) then (if 0 ≤ x5 then (if (rd x0 x5) = x1 then (laws_heldIntS.l0 k x0 (wrap64 (x1 + 1)) (wrap64 (x5 + 1))) else (some (-1))) else (none)) else (some x1)
def laws_heldIntS.f (k : Nat) (l0 : List Int) (a1 : Int) : Option (Int) := laws_heldIntS.l0 k l0 a1 0
theorem laws_heldIntS.mono_l : ∀ k, (∀ y0 y1 y2, LeO (laws_heldIntS.l0 k y0 y1 y2) (laws_heldIntS.l0 (k + 1) y0 y1 y2))
  | 0 => fun _ _ _ r h => by simp [laws_heldIntS.l0] at h
  | k + 1 => by
    have ih0 := laws_heldIntS.mono_l k
    · intro y0 y1 y2
      unfold laws_heldIntS.l0
      repeat' first
      | (with_reducible exact ih0 _ _ _)
      | (with_reducible exact LeO.refl _)
      | (with_reducible exact LeO.none _)
      | (with_reducible refine LeO.ite ?_ ?_)
      | (with_reducible refine LeO.bind ?_ (fun _ => ?_))
      | exact ih0 _ _ _
      | exact LeO.none _
      | refine LeO.ite ?_ ?_
      | refine LeO.bind ?_ (fun _ => ?_)
theorem laws_heldIntS.mono : ∀ a0 a1 k, LeO (laws_heldIntS.f k a0 a1) (laws_heldIntS.f (k + 1) a0 a1) := by
  intro a0 a1 k
  have ih0 := laws_heldIntS.mono_l k
  unfold laws_heldIntS.f
  repeat' first
      | (with_reducible exact ih0 _ _ _)
      | (with_reducible exact LeO.refl _)
      | (with_reducible exact LeO.none _)
      | (with_reducible refine LeO.ite ?_ ?_)
      | (with_reducible refine LeO.bind ?_ (fun _ => ?_))
      | exact ih0 _ _ _
      | exact LeO.none _
      | refine LeO.ite ?_ ?_
      | refine LeO.bind ?_ (fun _ => ?_)
set_option maxHeartbeats 8000000 in
set_option maxRecDepth 100000 in
theorem laws_heldIntS.calls (k : Nat) (A0 : Option Addr) (c0 : Nat) (l0 : List Int) (a1 : Int) (r : Int) (w : World) (hr0 : Kd.C (Kd.int .i64) w A0 l0.length l0) (hc0 : l0.length ≤ c0) (h : laws_heldIntS.f k l0 a1 = some r) :
    Calls Try.prog 31 #[.slice A0 l0.length c0, .int .i64 a1] w fun e w' => e = .returned (.int .i64 r) ∧ Drawn0 w w' := by
  have HR0 := Aside0.mk hr0
  have HC0 := Aside0.mk hc0
  clear hr0 hc0
  have H : (laws_heldIntS.l0 k l0 a1 0) = some r := h
  clear h
  have H' := Aside0.mk H
  clear H
  go_enter Try.func31, Try.ntmps31
  go_wp2
  go_loopg [1, 5] k (fun kq v1 v5 w' => ∃ (x1_1 : Int) (x5_1 : Int), v1 = .int .i64 x1_1 ∧ v5 = .int .i64 x5_1 ∧ Aside0 (laws_heldIntS.l0 kq l0 x1_1 x5_1 = some r) ∧ Aside0 (kq ≤ k) ∧ Drawn0 w w')
  case atStart => exact ⟨(a1), (0), (by first | rfl | (simp; done) | (simp [*]; done)), (by first | rfl | (simp; done) | (simp [*]; done)), H', ⟨Nat.le_refl _⟩, by repeat (first | exact Drawn0.refl _ | apply Drawn0.step)⟩
  case round =>
    clear H'
    try clear p2
    obtain ⟨x1_1, x5_1, rfl, rfl, HA, HK1, ⟨m1, rfl⟩⟩ := hrel
    cases gk with
    | zero => exact absurd HA.out (by simp [laws_heldIntS.l0])
    | succ k1 =>
      have H := HA.out
      clear HA
      simp only [laws_heldIntS.l0] at H
      by_cases c3 : x5_1 < (l0.length : Int)
      · rw [if_pos c3] at H
        have c3b0 : decide (x5_1 < (l0.length : Int)) = true := decide_eq_true c3
        clear c3
        by_cases c4 : 0 ≤ x5_1
        · rw [if_pos c4] at H
          have c4b0 : decide (0 ≤ x5_1) = true := decide_eq_true c4
          clear c4
          by_cases c5 : (rd l0 x5_1) = x1_1
          · rw [if_pos c5] at H
            have c5b0 : ((rd l0 x5_1) == x1_1) = true := beq_iff_eq.mpr c5
            have c5b1 : ((rd l0 x5_1) != x1_1) = false := bne_eq_false_iff_eq.mpr c5
            clear c5
            have H' := Aside0.mk H
            clear H
            have p170 : 0 ≤ (x5_1 : Int) := of_decide_eq_true (by first | (with_reducible assumption) | assumption)
            have q170 : x5_1 < (l0.length : Int) := of_decide_eq_true (by first | (with_reducible assumption) | assumption)
            obtain ⟨ad170, e170, hx170_0⟩ := Kd.at_int HR0.out x5_1 p170 q170
            cases e170
            replace p170 := eq_true p170
            replace q170 := eq_true q170
            go_wp2
            go_roundg k1
            case measure => have := HK1.out; omega
            case rel => exact ⟨(wrap64 (x1_1 + 1)), (wrap64 (x5_1 + 1)), (by first | rfl | (simp; done) | (simp [*]; done)), (by first | rfl | (simp; done) | (simp [*]; done)), H', ⟨by have := HK1.out; omega⟩, by repeat (first | exact Drawn0.refl _ | apply Drawn0.step)⟩
          · rw [if_neg c5] at H
            have c5b0 : ((rd l0 x5_1) == x1_1) = false := beq_eq_false_iff_ne.mpr c5
            have c5b1 : ((rd l0 x5_1) != x1_1) = true := bne_iff_ne.mpr c5
            obtain rfl := Option.some.inj H
            have p170 : 0 ≤ (x5_1 : Int) := of_decide_eq_true (by first | (with_reducible assumption) | assumption)
            have q170 : x5_1 < (l0.length : Int) := of_decide_eq_true (by first | (with_reducible assumption) | assumption)
            obtain ⟨ad170, e170, hx170_0⟩ := Kd.at_int HR0.out x5_1 p170 q170
            cases e170
            replace p170 := eq_true p170
            replace q170 := eq_true q170
            go_wp2
            go_ret
            exact ⟨by first | rfl | (simp; done) | (simp [*]; done), by repeat (first | exact Drawn0.refl _ | apply Drawn0.step)⟩
        · rw [if_neg c4] at H
          exact absurd H (by simp)
      · rw [if_neg c3] at H
        have c3b0 : decide (x5_1 < (l0.length : Int)) = false := decide_eq_false c3
        clear c3
        obtain rfl := Option.some.inj H
        go_wp2
        go_ret
        exact ⟨by first | rfl | (simp; done) | (simp [*]; done), by repeat (first | exact Drawn0.refl _ | apply Drawn0.step)⟩

/-! ### laws_heldIntSS: function 36 -/
def laws_heldIntSS.l0 : Nat → List (List Int) → Int → Int → Option (Int)
  | 0, _, _, _ => none
  | k + 1, x0, x1, x5 => if x5 < (x0.length : Int) then (if 0 ≤ x5 then ((laws_heldIntS.f k (rd_L5 x0 x5) x1).bind fun t172 => (if t172 < 0 then (some (-1)) else (laws_heldIntSS.l0 k x0 t172 (wrap64 (x5 + 1))))) else (none)) else (some x1)
def laws_heldIntSS.f (k : Nat) (l0 : List (List Int)) (a1 : Int) : Option (Int) := laws_heldIntSS.l0 k l0 a1 0
theorem laws_heldIntSS.mono_l : ∀ k, (∀ y0 y1 y2, LeO (laws_heldIntSS.l0 k y0 y1 y2) (laws_heldIntSS.l0 (k + 1) y0 y1 y2))
  | 0 => fun _ _ _ r h => by simp [laws_heldIntSS.l0] at h
  | k + 1 => by
    have ih0 := laws_heldIntSS.mono_l k
    · intro y0 y1 y2
      unfold laws_heldIntSS.l0
      repeat' first
      | (with_reducible exact ih0 _ _ _)
      | (with_reducible exact laws_heldIntS.mono _ _ _)
      | (with_reducible exact LeO.refl _)
      | (with_reducible exact LeO.none _)
      | (with_reducible refine LeO.ite ?_ ?_)
      | (with_reducible refine LeO.bind ?_ (fun _ => ?_))
      | exact ih0 _ _ _
      | exact laws_heldIntS.mono _ _ _
      | exact LeO.none _
      | refine LeO.ite ?_ ?_
      | refine LeO.bind ?_ (fun _ => ?_)
theorem laws_heldIntSS.mono : ∀ a0 a1 k, LeO (laws_heldIntSS.f k a0 a1) (laws_heldIntSS.f (k + 1) a0 a1) := by
  intro a0 a1 k
  have ih0 := laws_heldIntSS.mono_l k
  unfold laws_heldIntSS.f
  repeat' first
      | (with_reducible exact ih0 _ _ _)
      | (with_reducible exact laws_heldIntS.mono _ _ _)
      | (with_reducible exact LeO.refl _)
      | (with_reducible exact LeO.none _)
      | (with_reducible refine LeO.ite ?_ ?_)
      | (with_reducible refine LeO.bind ?_ (fun _ => ?_))
      | exact ih0 _ _ _
      | exact laws_heldIntS.mono _ _ _
      | exact LeO.none _
      | refine LeO.ite ?_ ?_
      | refine LeO.bind ?_ (fun _ => ?_)
set_option maxHeartbeats 8000000 in
set_option maxRecDepth 100000 in
theorem laws_heldIntSS.calls (k : Nat) (A0 : Option Addr) (c0 : Nat) (l0 : List (List Int)) (a1 : Int) (r : Int) (w : World) (hr0 : Kd.C (Kd.slice 3 (Kd.int .i64)) w A0 l0.length l0) (hc0 : l0.length ≤ c0) (h : laws_heldIntSS.f k l0 a1 = some r) :
    Calls Try.prog 36 #[.slice A0 l0.length c0, .int .i64 a1] w fun e w' => e = .returned (.int .i64 r) ∧ Drawn0 w w' := by
  have HR0 := Aside0.mk hr0
  have HC0 := Aside0.mk hc0
  clear hr0 hc0
  have H : (laws_heldIntSS.l0 k l0 a1 0) = some r := h
  clear h
  have H' := Aside0.mk H
  clear H
  go_enter Try.func36, Try.ntmps36
  go_wp2
  go_loopg [1, 5] k (fun kq v1 v5 w' => ∃ (x1_1 : Int) (x5_1 : Int), v1 = .int .i64 x1_1 ∧ v5 = .int .i64 x5_1 ∧ Aside0 (laws_heldIntSS.l0 kq l0 x1_1 x5_1 = some r) ∧ Aside0 (kq ≤ k) ∧ Drawn0 w w')
  case atStart => exact ⟨(a1), (0), (by first | rfl | (simp; done) | (simp [*]; done)), (by first | rfl | (simp; done) | (simp [*]; done)), H', ⟨Nat.le_refl _⟩, by repeat (first | exact Drawn0.refl _ | apply Drawn0.step)⟩
  case round =>
    clear H'
    try clear p2
    obtain ⟨x1_1, x5_1, rfl, rfl, HA, HK1, ⟨m1, rfl⟩⟩ := hrel
    cases gk with
    | zero => exact absurd HA.out (by simp [laws_heldIntSS.l0])
    | succ k1 =>
      have H := HA.out
      clear HA
      simp only [laws_heldIntSS.l0] at H
      by_cases c3 : x5_1 < (l0.length : Int)
      · rw [if_pos c3] at H
        have c3b0 : decide (x5_1 < (l0.length : Int)) = true := decide_eq_true c3
        clear c3
        by_cases c4 : 0 ≤ x5_1
        · rw [if_pos c4] at H
          have c4b0 : decide (0 ≤ x5_1) = true := decide_eq_true c4
          clear c4
          replace H := Option.bind_eq_some_iff.mp H
          obtain ⟨t172, A50, H⟩ := H
          replace H : (if t172 < 0 then (some (-1)) else (laws_heldIntSS.l0 k1 l0 t172 (wrap64 (x5_1 + 1)))) = some r := H
          have A5 := Aside0.mk A50
          clear A50
          by_cases c6 : t172 < 0
          · rw [if_pos c6] at H
            have c6b0 : decide (t172 < 0) = true := decide_eq_true c6
            clear c6
            obtain rfl := Option.some.inj H
            have p171 : 0 ≤ (x5_1 : Int) := of_decide_eq_true (by first | (with_reducible assumption) | assumption)
            have q171 : x5_1 < (l0.length : Int) := of_decide_eq_true (by first | (with_reducible assumption) | assumption)
            obtain ⟨ad171, A171_0, c171_0, e171, hx171_0, hl171_0, hi171_0⟩ := at_L5 HR0.out x5_1 p171 q171
            cases e171
            have HR171_0 := Aside0.mk hi171_0
            have HC171_0 := Aside0.mk hl171_0
            clear hi171_0 hl171_0
            replace p171 := eq_true p171
            replace q171 := eq_true q171
            go_wp2_with (first | ((with_reducible refine gate_callee (f := 31) rfl ?_); refine goesL_ (some 17) rfl rfl Try.func31 (by kernel_rfl) rfl #[.slice A171_0 (rd_L5 l0 x5_1).length c171_0, .int .i64 x1_1] rfl (by (try simp only [List.map_toArray, List.map_cons, List.map_nil]); first | done | rfl | (simp only [List.length_drop, List.length_take]; rfl)) ?_; (with_reducible refine (laws_heldIntS.calls k1 _ _ (rd_L5 l0 x5_1) x1_1 t172 _ ?side1 ?side2 A5.out).mono ?_); (case side1 => repeat (first | exact HR171_0.out | (with_reducible refine Kd.C_alloc ?_ _) | (with_reducible refine Kd.C_drewN ?_ _) | (with_reducible refine Kd.C_drew ?_))); (case side2 => exact HC171_0.out); rintro e w' ⟨rfl, ⟨nd, rfl⟩⟩; refine ⟨_, rfl, ?_⟩))
            go_ret
            exact ⟨by first | rfl | (simp; done) | (simp [*]; done), by repeat (first | exact Drawn0.refl _ | apply Drawn0.step)⟩
          · rw [if_neg c6] at H
            have c6b0 : decide (t172 < 0) = false := decide_eq_false c6
            clear c6
            have H' := Aside0.mk H
            clear H
            have p171 : 0 ≤ (x5_1 : Int) := of_decide_eq_true (by first | (with_reducible assumption) | assumption)
            have q171 : x5_1 < (l0.length : Int) := of_decide_eq_true (by first | (with_reducible assumption) | assumption)
            obtain ⟨ad171, A171_0, c171_0, e171, hx171_0, hl171_0, hi171_0⟩ := at_L5 HR0.out x5_1 p171 q171
            cases e171
            have HR171_0 := Aside0.mk hi171_0
            have HC171_0 := Aside0.mk hl171_0
            clear hi171_0 hl171_0
            replace p171 := eq_true p171
            replace q171 := eq_true q171
            go_wp2_with (first | ((with_reducible refine gate_callee (f := 31) rfl ?_); refine goesL_ (some 17) rfl rfl Try.func31 (by kernel_rfl) rfl #[.slice A171_0 (rd_L5 l0 x5_1).length c171_0, .int .i64 x1_1] rfl (by (try simp only [List.map_toArray, List.map_cons, List.map_nil]); first | done | rfl | (simp only [List.length_drop, List.length_take]; rfl)) ?_; (with_reducible refine (laws_heldIntS.calls k1 _ _ (rd_L5 l0 x5_1) x1_1 t172 _ ?side1 ?side2 A5.out).mono ?_); (case side1 => repeat (first | exact HR171_0.out | (with_reducible refine Kd.C_alloc ?_ _) | (with_reducible refine Kd.C_drewN ?_ _) | (with_reducible refine Kd.C_drew ?_))); (case side2 => exact HC171_0.out); rintro e w' ⟨rfl, ⟨nd, rfl⟩⟩; refine ⟨_, rfl, ?_⟩))
            go_roundg k1
            case measure => have := HK1.out; omega
            case rel => exact ⟨(t172), (wrap64 (x5_1 + 1)), (by first | rfl | (simp; done) | (simp [*]; done)), (by first | rfl | (simp; done) | (simp [*]; done)), H', ⟨by have := HK1.out; omega⟩, by repeat (first | exact Drawn0.refl _ | apply Drawn0.step)⟩
        · rw [if_neg c4] at H
          exact absurd H (by simp)
      · rw [if_neg c3] at H
        have c3b0 : decide (x5_1 < (l0.length : Int)) = false := decide_eq_false c3
        clear c3
        obtain rfl := Option.some.inj H
        go_wp2
        go_ret
        exact ⟨by first | rfl | (simp; done) | (simp [*]; done), by repeat (first | exact Drawn0.refl _ | apply Drawn0.step)⟩

-- FOR laws.FnExactPairsLeft
theorem toTruePairsLeft (F F' L : List S65) (l0 : List S67) (W : World) (A : Option Addr) (n c : Nat) (h0 : l0.length = 0 → F' = []) (h2 : l0.length ≠ 0 → F' = F) (hL : F.take l0.length = L) (hLl : L.length = l0.length) (hLF : L.length ≤ F.length) (q1 : F'.length ≤ c) (q2 : Kd.C k65 W A F'.length F') (hn : n = l0.length ∨ F' = [] ∧ n = 0) :
    n = L.length ∧ Kd.C k65 W A L.length L ∧ L.length ≤ c := by
  by_cases hz : l0.length = 0
  · have h_ := h0 hz
    subst h_
    have hLn : L = [] := List.eq_nil_of_length_eq_zero (hLl.trans hz)
    subst hLn
    refine ⟨?_, q2, Nat.zero_le _⟩
    rcases hn with h_ | ⟨_, h_⟩
    · rw [h_, hz]; rfl
    · exact h_
  · have h_ := h2 hz
    subst h_
    refine ⟨?_, by have h_ := Hw.C_take q2 L.length hLF; rw [hLl, hL, ← hLl] at h_; exact h_, Nat.le_trans hLF q1⟩
    rcases hn with h_ | ⟨h_, h3_⟩
    · exact h_.trans hLl.symm
    · rw [h3_, ← hL, h_]; simp
set_option maxHeartbeats 8000000 in
set_option maxRecDepth 100000 in
theorem hand_FnExactPairsLeft (k : Nat) (a0 : Int) (A1 : Option Addr) (c1 : Nat) (l1 : List S67) (w : World) (hr : Kd.C k67 w A1 l1.length l1) (hc : l1.length ≤ c1)
    (F F' L Lx : List S65) (t : Int) (G : List (List Int)) (r2 : Bool) (Gm : List (List Int)) (kx m : Int) (s : Int) (hs : laws_szKindTestS.f l1 1000000 = some s) (hs0 : 0 ≤ s)
    (hF : full_toKindTestS.f k l1 false = some F) (hL : F.take l1.length = L) (hLl : L.length = l1.length) (hF' : full_toKindTestS.f k l1 true = some F') (hF2 : l1.length ≠ 0 → F' = F) (hF0 : l1.length = 0 → F' = [])
    (ht : laws_roomBehind.f (l1.length : Int) = some t) (hn : wrap64 ((l1.length : Int) + t) = (F.length : Int)) (he : laws_eqKindTestS.f k F F = some true)
    (h1 : spec_PairsLeft.f k a0 L = some (G, r2)) (h2 : impl_PairsLeft.f k a0 L = some (G, r2)) (hq : laws_eqIntSS.f k G G = some true) (hmx : laws_markKindTestS.f k L 101 = some (kx, Lx)) (hkx : 0 ≤ kx) (hmg : laws_markIntSS.f k G 101 = some (m, Gm)) (hhg : laws_heldIntSS.f k Gm 101 = some m) (hm0 : 0 ≤ m) (hGm : Gm.length = G.length) :
    Calls Try.prog 8 #[.int .i64 a0, .slice A1 l1.length c1] w fun e w' => e = .returned (.bool true) ∧ Below w.heap.size w w' := by
  have HR := Aside0.mk hr
  have HC := Aside0.mk hc
  have H0 := Aside0.mk hs
  have HF := Aside0.mk hF
  have HF' := Aside0.mk hF'
  have HT := Aside0.mk ht
  have HN := Aside0.mk hn
  have HE := Aside0.mk he
  have H1 := Aside0.mk h1
  have H2 := Aside0.mk h2
  have HF2 := Aside0.mk hF2
  have HF0 := Aside0.mk hF0
  have HL := Aside0.mk hL
  have HLl := Aside0.mk hLl
  have HQ := Aside0.mk hq
  have HMX := Aside0.mk hmx
  have HMG := Aside0.mk hmg
  have HHG := Aside0.mk hhg
  have HGm := Aside0.mk hGm
  have hs1 : decide (s < 0) = false := decide_eq_false (by omega)
  have dk : decide (kx < 0) = false := decide_eq_false (by omega)
  have dm : decide (m < 0) = false := decide_eq_false (by omega)
  have HL2 : Aside0 (L.length ≤ F.length) := ⟨by rw [← hL, List.length_take]; omega⟩
  have hr2_ : (r2 != r2) = false := by simp
  clear hs0 hkx hm0 hr hc hs hF hF' ht hn he h1 h2 hF2 hF0 hL hLl hq hmx hmg hhg hGm
  go_enter Try.func8, Try.ntmps8
  go_wp2_with fail
  refine (laws_szKindTestS.calls _ _ l1 _ _ _ HR.out HC.out H0.out).mono ?_
  rintro e w1 ⟨rfl, ⟨nd, hnd⟩⟩
  have HB1 : Aside0 (Below w.heap.size w w1) := ⟨by rw [hnd]; exact pw_below_drewN (Below.refl _ _) _⟩
  clear hnd
  go_wp2_with fail
  refine (full_toKindTestS.calls k _ _ l1 false F _ (Kd.C_below HR.out HB1.out) HC.out HF.out).mono ?_
  rintro e w2 hp
  obtain ⟨A2_, n2_, c2_, rfl, hR_, hn2_, hb⟩ := hp
  obtain rfl : n2_ = L.length := (by rcases hn2_ with h_ | ⟨h_, h2_⟩; exact h_.trans HLl.out.symm; exact h2_.trans (by rw [← HL.out, h_]; simp))
  have HB2 : Aside0 (Below w.heap.size w w2) := ⟨below_step HB1.out hb⟩
  have hq_ := Kd.R_reads' hR_
  have HC2 : Aside0 (Kd.C k65 w2 A2_ L.length L) := ⟨by have h_ := Hw.C_take hq_.2.2 L.length HL2.out; rw [HLl.out, HL.out, ← HLl.out] at h_; exact h_⟩
  have HC2' : Aside0 (L.length ≤ c2_) := ⟨Nat.le_trans HL2.out hq_.2.1⟩
  clear HB1 hb hR_ hn2_ hq_
  go_wp2_with fail
  refine (spec_PairsLeft.calls k a0 _ _ L G r2 w2 HC2.out HC2'.out H1.out).mono ?_
  rintro e w3 ⟨v3, rfl, ho, hb⟩
  obtain ⟨A3_, c3_, rfl⟩ := Kd.S_slice ho
  have HB3 : Aside0 (Below w.heap.size w w3) := ⟨below_step HB2.out hb⟩
  have HW3 : Aside0 (Kd.S (Kd.slice 3 (Kd.int .i64)) 47 w3 w.heap.size (fun k_ => k_ < w3.heap.size) (.slice A3_ G.length c3_) G) := ⟨Kd.S_mono (Kd.S_bound (Kd.S_lower ho (below_size HB2.out))) (fun k_ hk => hk.2.2.1)⟩
  clear HB2 hb HC2 HC2' ho
  go_wp2_with fail
  refine (full_toKindTestS.calls k _ _ l1 false F _ (Kd.C_below HR.out HB3.out) HC.out HF.out).mono ?_
  rintro e w4 hp
  obtain ⟨A4_, n4_, c4_, rfl, hR_, hn4_, hb⟩ := hp
  obtain rfl : n4_ = L.length := (by rcases hn4_ with h_ | ⟨h_, h2_⟩; exact h_.trans HLl.out.symm; exact h2_.trans (by rw [← HL.out, h_]; simp))
  have HB4 : Aside0 (Below w.heap.size w w4) := ⟨below_step HB3.out hb⟩
  have HW4 : Aside0 (Kd.S (Kd.slice 3 (Kd.int .i64)) 47 w4 w.heap.size (fun k_ => k_ < w3.heap.size) (.slice A3_ G.length c3_) G) := ⟨Kd.S_below HW3.out hb⟩
  have hq_ := Kd.R_reads' hR_
  have HC4' : Aside0 (F.length ≤ c4_) := ⟨hq_.2.1⟩
  have HY4 : Aside0 (Kd.R k65 65 w4 w.heap.size (fun k_ => w3.heap.size ≤ k_ ∧ k_ < w4.heap.size) (.slice A4_ F.length c4_) F) := ⟨Kd.R_mono (Kd.R_lower (Kd.R_bound hR_) (below_size HB3.out)) (fun k_ hk => ⟨hk.2.1, hk.2.2.1⟩)⟩
  have HX4 : Aside0 (Kd.R k65 65 w4 w.heap.size (fun k_ => w3.heap.size ≤ k_ ∧ k_ < w4.heap.size) (.slice A4_ L.length c4_) L) := ⟨by
    have h_ := Hw.R_take hR_ L.length HL2.out
    rw [HLl.out, HL.out, ← HLl.out] at h_
    exact Kd.R_mono (Kd.R_lower (Kd.R_bound h_) (below_size HB3.out)) (fun k_ hk => ⟨hk.2.1, hk.2.2.1⟩)⟩
  have HS34 : Aside0 (w3.heap.size ≤ w4.heap.size) := ⟨hb.size⟩
  clear HB3 HW3 hb hR_ hn4_ hq_
  go_wp2_with fail
  refine (impl_PairsLeft.calls k a0 _ _ L G r2 _ (Kd.R_reads' HX4.out).2.2 (Kd.R_reads' HX4.out).2.1 H2.out).mono ?_
  rintro e w5 ⟨v5, rfl, ho, hb⟩
  obtain ⟨A5_, c5_, rfl⟩ := Kd.S_slice ho
  have HB5 : Aside0 (Below w.heap.size w w5) := ⟨below_step HB4.out hb⟩
  have HW5 : Aside0 (Kd.S (Kd.slice 3 (Kd.int .i64)) 47 w5 w.heap.size (fun k_ => k_ < w3.heap.size) (.slice A3_ G.length c3_) G) := ⟨Kd.S_below HW4.out hb⟩
  have HY5 : Aside0 (Kd.R k65 65 w5 w.heap.size (fun k_ => w3.heap.size ≤ k_ ∧ k_ < w4.heap.size) (.slice A4_ F.length c4_) F) := ⟨Kd.R_below HY4.out hb⟩
  have HX5 : Aside0 (Kd.R k65 65 w5 w.heap.size (fun k_ => w3.heap.size ≤ k_ ∧ k_ < w4.heap.size) (.slice A4_ L.length c4_) L) := ⟨Kd.R_below HX4.out hb⟩
  have HG5 : Aside0 (Kd.S (Kd.slice 3 (Kd.int .i64)) 47 w5 w.heap.size (fun k_ => w4.heap.size ≤ k_ ∧ k_ < w5.heap.size) (.slice A5_ G.length c5_) G) := ⟨Kd.S_mono (Kd.S_lower (Kd.S_bound ho) (below_size HB4.out)) (fun k_ hk => ⟨hk.2.1, hk.2.2.1⟩)⟩
  have HS45 : Aside0 (w4.heap.size ≤ w5.heap.size) := ⟨hb.size⟩
  clear HB4 HW4 HY4 HX4 hb ho
  go_wp2_with fail
  refine (laws_eqIntSS.calls k _ _ G _ _ G true w5 (Kd.S_reads' HG5.out).2.2 (Kd.S_reads' HG5.out).2.1 (Kd.S_reads' HW5.out).2.2 (Kd.S_reads' HW5.out).2.1 HQ.out).mono ?_
  rintro e w6 ⟨rfl, ⟨nd, hnd⟩⟩
  have hb : Below w5.heap.size w5 w6 := by rw [hnd]; exact pw_below_drewN (Below.refl _ _) _
  clear hnd
  have HB6 : Aside0 (Below w.heap.size w w6) := ⟨below_step HB5.out hb⟩
  have HW6 : Aside0 (Kd.S (Kd.slice 3 (Kd.int .i64)) 47 w6 w.heap.size (fun k_ => k_ < w3.heap.size) (.slice A3_ G.length c3_) G) := ⟨Kd.S_below HW5.out hb⟩
  have HY6 : Aside0 (Kd.R k65 65 w6 w.heap.size (fun k_ => w3.heap.size ≤ k_ ∧ k_ < w4.heap.size) (.slice A4_ F.length c4_) F) := ⟨Kd.R_below HY5.out hb⟩
  have HX6 : Aside0 (Kd.R k65 65 w6 w.heap.size (fun k_ => w3.heap.size ≤ k_ ∧ k_ < w4.heap.size) (.slice A4_ L.length c4_) L) := ⟨Kd.R_below HX5.out hb⟩
  have HG6 : Aside0 (Kd.S (Kd.slice 3 (Kd.int .i64)) 47 w6 w.heap.size (fun k_ => w4.heap.size ≤ k_ ∧ k_ < w5.heap.size) (.slice A5_ G.length c5_) G) := ⟨Kd.S_below HG5.out hb⟩
  clear HB5 HW5 HY5 HX5 HG5 hb
  go_wp2_with fail
  refine (full_toKindTestS.calls k _ _ l1 false F _ (Kd.C_below HR.out HB6.out) HC.out HF.out).mono ?_
  rintro e w7 hp
  obtain ⟨A7_, n7_, c7_, rfl, hR_, hn7_, hb⟩ := hp
  obtain rfl : n7_ = L.length := (by rcases hn7_ with h_ | ⟨h_, h2_⟩; exact h_.trans HLl.out.symm; exact h2_.trans (by rw [← HL.out, h_]; simp))
  have HB7 : Aside0 (Below w.heap.size w w7) := ⟨below_step HB6.out hb⟩
  have HW7 : Aside0 (Kd.S (Kd.slice 3 (Kd.int .i64)) 47 w7 w.heap.size (fun k_ => k_ < w3.heap.size) (.slice A3_ G.length c3_) G) := ⟨Kd.S_below HW6.out hb⟩
  have HY7 : Aside0 (Kd.R k65 65 w7 w.heap.size (fun k_ => w3.heap.size ≤ k_ ∧ k_ < w4.heap.size) (.slice A4_ F.length c4_) F) := ⟨Kd.R_below HY6.out hb⟩
  have HX7 : Aside0 (Kd.R k65 65 w7 w.heap.size (fun k_ => w3.heap.size ≤ k_ ∧ k_ < w4.heap.size) (.slice A4_ L.length c4_) L) := ⟨Kd.R_below HX6.out hb⟩
  have HG7 : Aside0 (Kd.S (Kd.slice 3 (Kd.int .i64)) 47 w7 w.heap.size (fun k_ => w4.heap.size ≤ k_ ∧ k_ < w5.heap.size) (.slice A5_ G.length c5_) G) := ⟨Kd.S_below HG6.out hb⟩
  have HD7 := Aside0.mk (Kd.R_reads' hR_)
  clear HB6 HW6 HY6 HX6 HG6 hb hR_ hn7_
  go_wp2_with fail
  refine (intact_KindTestS k F A4_ A7_ L.length c4_ c7_ t w7 (by rw [HLl.out]; exact HT.out) (by rw [HLl.out]; exact HN.out) HC4'.out HD7.out.2.1 (Kd.R_reads' HY7.out).2.2 HD7.out.2.2 HE.out).mono ?_
  rintro e w8 ⟨rfl, hb⟩
  have HB8 : Aside0 (Below w.heap.size w w8) := ⟨below_step HB7.out hb⟩
  have HW8 : Aside0 (Kd.S (Kd.slice 3 (Kd.int .i64)) 47 w8 w.heap.size (fun k_ => k_ < w3.heap.size) (.slice A3_ G.length c3_) G) := ⟨Kd.S_below HW7.out hb⟩
  have HY8 : Aside0 (Kd.R k65 65 w8 w.heap.size (fun k_ => w3.heap.size ≤ k_ ∧ k_ < w4.heap.size) (.slice A4_ F.length c4_) F) := ⟨Kd.R_below HY7.out hb⟩
  have HX8 : Aside0 (Kd.R k65 65 w8 w.heap.size (fun k_ => w3.heap.size ≤ k_ ∧ k_ < w4.heap.size) (.slice A4_ L.length c4_) L) := ⟨Kd.R_below HX7.out hb⟩
  have HG8 : Aside0 (Kd.S (Kd.slice 3 (Kd.int .i64)) 47 w8 w.heap.size (fun k_ => w4.heap.size ≤ k_ ∧ k_ < w5.heap.size) (.slice A5_ G.length c5_) G) := ⟨Kd.S_below HG7.out hb⟩
  clear HB7 HW7 HY7 HX7 HG7 hb HD7
  go_wp2_with fail
  have hs34 := HS34.out
  have hs45 := HS45.out
  refine (laws_markKindTestS.calls k _ _ L 101 kx Lx w w8 HB8.out HX8.out HMX.out).mono ?_
  rintro e w9 ⟨rfl, hx9, hb9, hk⟩
  have HB9 : Aside0 (Below w.heap.size w w9) := ⟨hb9⟩
  have HW9 : Aside0 (Kd.S (Kd.slice 3 (Kd.int .i64)) 47 w9 w.heap.size (fun k_ => k_ < w3.heap.size) (.slice A3_ G.length c3_) G) := ⟨Kd.S_step HW8.out (fun k_ h1_ hlt => hk.2 k_ hlt (fun h2_ => by omega))⟩
  have HG9 : Aside0 (Kd.S (Kd.slice 3 (Kd.int .i64)) 47 w9 w.heap.size (fun k_ => w4.heap.size ≤ k_ ∧ k_ < w5.heap.size) (.slice A5_ G.length c5_) G) := ⟨Kd.S_step HG8.out (fun k_ h1_ hlt => hk.2 k_ hlt (fun h2_ => by omega))⟩
  clear HB8 HW8 HY8 HX8 HG8 hx9 hb9 hk
  go_wp2_with fail
  refine (laws_eqIntSS.calls k _ _ G _ _ G true w9 (Kd.S_reads' HG9.out).2.2 (Kd.S_reads' HG9.out).2.1 (Kd.S_reads' HW9.out).2.2 (Kd.S_reads' HW9.out).2.1 HQ.out).mono ?_
  rintro e w10 ⟨rfl, ⟨nd, hnd⟩⟩
  have hb : Below w9.heap.size w9 w10 := by rw [hnd]; exact pw_below_drewN (Below.refl _ _) _
  clear hnd
  have HB10 : Aside0 (Below w.heap.size w w10) := ⟨below_step HB9.out hb⟩
  have HW10 : Aside0 (Kd.S (Kd.slice 3 (Kd.int .i64)) 47 w10 w.heap.size (fun k_ => k_ < w3.heap.size) (.slice A3_ G.length c3_) G) := ⟨Kd.S_below HW9.out hb⟩
  have HG10 : Aside0 (Kd.S (Kd.slice 3 (Kd.int .i64)) 47 w10 w.heap.size (fun k_ => w4.heap.size ≤ k_ ∧ k_ < w5.heap.size) (.slice A5_ G.length c5_) G) := ⟨Kd.S_below HG9.out hb⟩
  clear HB9 HW9 HG9 hb
  go_wp2_with fail
  refine (laws_markIntSS.calls k _ _ G 101 m Gm w w10 HB10.out HG10.out HMG.out).mono ?_
  rintro e w11 ⟨rfl, hx11, hb11, hk⟩
  have HB11 : Aside0 (Below w.heap.size w w11) := ⟨hb11⟩
  have HW11 : Aside0 (Kd.S (Kd.slice 3 (Kd.int .i64)) 47 w11 w.heap.size (fun k_ => k_ < w3.heap.size) (.slice A3_ G.length c3_) G) := ⟨Kd.S_step HW10.out (fun k_ h1_ hlt => hk.2 k_ hlt (fun h2_ => by omega))⟩
  have HM11 : Aside0 (Kd.S (Kd.slice 3 (Kd.int .i64)) 47 w11 w.heap.size (fun k_ => (w4.heap.size ≤ k_ ∧ k_ < w5.heap.size) ∨ w10.heap.size ≤ k_) (.slice A5_ G.length c5_) Gm) := ⟨by have h_ := hx11; rw [← HGm.out] at h_ ⊢; exact h_⟩
  clear HB10 HW10 HG10 hx11 hb11 hk
  go_wp2_with fail
  have hcall := laws_heldIntSS.calls k A5_ c5_ Gm 101 m w11 (Kd.S_reads' (by have h_ := HM11.out; rw [← HGm.out] at h_; exact h_)).2.2 (Kd.S_reads' (by have h_ := HM11.out; rw [← HGm.out] at h_; exact h_)).2.1 HHG.out
  rw [HGm.out] at hcall
  refine hcall.mono ?_
  clear hcall
  rintro e w12 ⟨rfl, ⟨nd, hnd⟩⟩
  have hb : Below w11.heap.size w11 w12 := by rw [hnd]; exact pw_below_drewN (Below.refl _ _) _
  clear hnd
  have HB12 : Aside0 (Below w.heap.size w w12) := ⟨below_step HB11.out hb⟩
  have HW12 : Aside0 (Kd.S (Kd.slice 3 (Kd.int .i64)) 47 w12 w.heap.size (fun k_ => k_ < w3.heap.size) (.slice A3_ G.length c3_) G) := ⟨Kd.S_below HW11.out hb⟩
  have HM12 : Aside0 (Kd.S (Kd.slice 3 (Kd.int .i64)) 47 w12 w.heap.size (fun k_ => (w4.heap.size ≤ k_ ∧ k_ < w5.heap.size) ∨ w10.heap.size ≤ k_) (.slice A5_ G.length c5_) Gm) := ⟨Kd.S_below HM11.out hb⟩
  clear HB11 HW11 HM11 hb
  go_wp2_with fail
  refine (full_toKindTestS.calls k _ _ l1 true F' _ (Kd.C_below HR.out HB12.out) HC.out HF'.out).mono ?_
  rintro e w13 hp
  obtain ⟨A13_, n13_, c13_, rfl, hR_, hn13_, hb⟩ := hp
  have hq_ := Kd.R_reads' hR_
  obtain ⟨rfl, h131, h132⟩ := toTruePairsLeft F F' L l1 w13 A13_ n13_ c13_ HF0.out HF2.out HL.out HLl.out HL2.out hq_.2.1 hq_.2.2 hn13_
  have HB13 : Aside0 (Below w.heap.size w w13) := ⟨below_step HB12.out hb⟩
  have HW13 : Aside0 (Kd.S (Kd.slice 3 (Kd.int .i64)) 47 w13 w.heap.size (fun k_ => k_ < w3.heap.size) (.slice A3_ G.length c3_) G) := ⟨Kd.S_below HW12.out hb⟩
  have HM13 : Aside0 (Kd.S (Kd.slice 3 (Kd.int .i64)) 47 w13 w.heap.size (fun k_ => (w4.heap.size ≤ k_ ∧ k_ < w5.heap.size) ∨ w10.heap.size ≤ k_) (.slice A5_ G.length c5_) Gm) := ⟨Kd.S_below HM12.out hb⟩
  have H131 := Aside0.mk h131
  have H132 := Aside0.mk h132
  clear HB12 HW12 HM12 hb hR_ hn13_ hq_ h131 h132
  go_wp2_with fail
  refine (impl_PairsLeft.calls k a0 _ _ L G r2 w13 H131.out H132.out H2.out).mono ?_
  rintro e w14 ⟨v14, rfl, ho, hb⟩
  obtain ⟨A14_, c14_, rfl⟩ := Kd.S_slice ho
  have HB14 : Aside0 (Below w.heap.size w w14) := ⟨below_step HB13.out hb⟩
  have HW14 : Aside0 (Kd.S (Kd.slice 3 (Kd.int .i64)) 47 w14 w.heap.size (fun k_ => k_ < w3.heap.size) (.slice A3_ G.length c3_) G) := ⟨Kd.S_below HW13.out hb⟩
  have HM14 : Aside0 (Kd.S (Kd.slice 3 (Kd.int .i64)) 47 w14 w.heap.size (fun k_ => (w4.heap.size ≤ k_ ∧ k_ < w5.heap.size) ∨ w10.heap.size ≤ k_) (.slice A5_ G.length c5_) Gm) := ⟨Kd.S_below HM13.out hb⟩
  have HH14 := Aside0.mk ho
  clear HB13 HW13 HM13 hb ho
  go_wp2_with fail
  refine (laws_eqIntSS.calls k _ _ G _ _ G true w14 (Kd.S_reads' HH14.out).2.2 (Kd.S_reads' HH14.out).2.1 (Kd.S_reads' HW14.out).2.2 (Kd.S_reads' HW14.out).2.1 HQ.out).mono ?_
  rintro e w15 ⟨rfl, ⟨nd, hnd⟩⟩
  have hb : Below w14.heap.size w14 w15 := by rw [hnd]; exact pw_below_drewN (Below.refl _ _) _
  clear hnd
  have HB15 : Aside0 (Below w.heap.size w w15) := ⟨below_step HB14.out hb⟩
  have HW15 : Aside0 (Kd.S (Kd.slice 3 (Kd.int .i64)) 47 w15 w.heap.size (fun k_ => k_ < w3.heap.size) (.slice A3_ G.length c3_) G) := ⟨Kd.S_below HW14.out hb⟩
  have HM15 : Aside0 (Kd.S (Kd.slice 3 (Kd.int .i64)) 47 w15 w.heap.size (fun k_ => (w4.heap.size ≤ k_ ∧ k_ < w5.heap.size) ∨ w10.heap.size ≤ k_) (.slice A5_ G.length c5_) Gm) := ⟨Kd.S_below HM14.out hb⟩
  clear HB14 HW14 HM14 HH14 hb
  go_wp2_with fail
  have hcall := laws_heldIntSS.calls k A5_ c5_ Gm 101 m w15 (Kd.S_reads' (by have h_ := HM15.out; rw [← HGm.out] at h_; exact h_)).2.2 (Kd.S_reads' (by have h_ := HM15.out; rw [← HGm.out] at h_; exact h_)).2.1 HHG.out
  rw [HGm.out] at hcall
  refine hcall.mono ?_
  clear hcall
  rintro e w16 ⟨rfl, ⟨nd, hnd⟩⟩
  have hb : Below w15.heap.size w15 w16 := by rw [hnd]; exact pw_below_drewN (Below.refl _ _) _
  clear hnd
  have HB16 : Aside0 (Below w.heap.size w w16) := ⟨below_step HB15.out hb⟩
  clear hb
  go_wp2
  go_ret
  exact ⟨rfl, HB16.out⟩
set_option maxHeartbeats 8000000 in
set_option maxRecDepth 100000 in
theorem big_FnExactPairsLeft (a0 : Int) (A1 : Option Addr) (c1 : Nat) (l1 : List S67) (w : World) (hr : Kd.C k67 w A1 l1.length l1) (hc : l1.length ≤ c1) (s : Int) (hs : laws_szKindTestS.f l1 1000000 = some s) (hs0 : s < 0) :
    Calls Try.prog 8 #[.int .i64 a0, .slice A1 l1.length c1] w fun e w' => e = .returned (.bool true) ∧ Below w.heap.size w w' := by
  have HR := Aside0.mk hr
  have HC := Aside0.mk hc
  have H0 := Aside0.mk hs
  have hs1 : decide (s < 0) = true := decide_eq_true hs0
  clear hr hc hs hs0
  go_enter Try.func8, Try.ntmps8
  go_wp2_with fail
  refine (laws_szKindTestS.calls _ _ l1 _ _ _ HR.out HC.out H0.out).mono ?_
  rintro e w1 ⟨rfl, ⟨nd, hnd⟩⟩
  have HB1 : Aside0 (Below w.heap.size w w1) := ⟨by rw [hnd]; exact pw_below_drewN (Below.refl _ _) _⟩
  clear hnd
  go_wp2
  go_ret
  exact ⟨rfl, HB1.out⟩


end Go.Proofs.Ytgolncpnephdcaa.P
