/- Plain Lean functions with the answers of Go functions, and proofs of it: printed by a program of this session (pr.py) over the kit's print, with hand-written parts. -/
import Derived.Test.YtoomacelbhojhaaVx0
namespace Go.Proofs.Ytoomacelbhojhaa.V
open Go.RowKit Go.Proofs.YtoomacelbhojhaaW.PrintWords Go.Proofs.YtoomacelbhojhaaW.PrintLast Go.Proofs.YtoomacelbhojhaaW.PrintMore
attribute [local go_sem] max2_int min2_int max_two min_two max_three min_three max_four min_four   -- for this text's walks alone
set_option linter.unusedVariables false
set_option linter.unusedSimpArgs false

/-! ### impl_within: function 99 -/
def impl_within.f (a0 : Int) (a1 : Int) (a2 : Int) : Option (Bool) := if a0 ≥ a1 then (some (decide (a0 ≤ a2))) else (some false)
set_option maxHeartbeats 8000000 in
set_option maxRecDepth 100000 in
theorem impl_within.calls (a0 : Int) (a1 : Int) (a2 : Int) (r : Bool) (w : World) (h : impl_within.f a0 a1 a2 = some r) :
    Calls Try.prog 99 #[.int .i64 a0, .int .i64 a1, .int .i64 a2] w fun e w' => e = .returned (.bool r) ∧ Drawn0 w w' := by
  have H : (if a0 ≥ a1 then (some (decide (a0 ≤ a2))) else (some false)) = some r := h
  clear h
  by_cases c4 : a0 ≥ a1
  · rw [if_pos c4] at H
    have c4b0 : decide (a1 ≤ a0) = true := decide_eq_true c4
    clear c4
    obtain rfl := Option.some.inj H
    go_enter Try.func99, Try.ntmps99
    go_wp2
    go_ret
    exact ⟨by first | rfl | (simp; done) | (simp [*]; done), by repeat (first | exact Drawn0.refl _ | apply Drawn0.step)⟩
  · rw [if_neg c4] at H
    have c4b0 : decide (a1 ≤ a0) = false := decide_eq_false c4
    clear c4
    obtain rfl := Option.some.inj H
    go_enter Try.func99, Try.ntmps99
    go_wp2
    go_ret
    exact ⟨by first | rfl | (simp; done) | (simp [*]; done), by repeat (first | exact Drawn0.refl _ | apply Drawn0.step)⟩

/-! ### impl_isKindFloors: function 100 -/
def impl_isKindFloors.f (a0 : Int) : Option (Bool) := (impl_within.f a0 0 6).bind fun t101 => (some t101)
set_option maxHeartbeats 8000000 in
set_option maxRecDepth 100000 in
theorem impl_isKindFloors.calls (a0 : Int) (r : Bool) (w : World) (h : impl_isKindFloors.f a0 = some r) :
    Calls Try.prog 100 #[.int .i64 a0] w fun e w' => e = .returned (.bool r) ∧ Drawn0 w w' := by
  have H : ((impl_within.f a0 0 6).bind fun t101 => (some t101)) = some r := h
  clear h
  replace H := Option.bind_eq_some_iff.mp H
  obtain ⟨t101, A20, H⟩ := H
  replace H : (some t101) = some r := H
  have A2 := Aside0.mk A20
  clear A20
  obtain rfl := Option.some.inj H
  go_enter Try.func100, Try.ntmps100
  go_wp2_with (first | ((with_reducible refine gate_callee (f := 99) rfl ?_); refine goesL_ (some 4) rfl rfl Try.func99 (by kernel_rfl) rfl #[.int .i64 a0, .int .i64 0, .int .i64 6] rfl (by (try simp only [List.map_toArray, List.map_cons, List.map_nil]); first | done | rfl | (simp only [List.length_drop, List.length_take]; rfl)) ?_; (with_reducible refine (impl_within.calls a0 0 6 t101 _ A2.out).mono ?_); rintro e w' ⟨rfl, ⟨nd, rfl⟩⟩; refine ⟨_, rfl, ?_⟩))
  go_ret
  exact ⟨by first | rfl | (simp; done) | (simp [*]; done), by repeat (first | exact Drawn0.refl _ | apply Drawn0.step)⟩

/-! ### impl_isKindHouse: function 59 -/
def impl_isKindHouse.f (a0 : Int) (a1 : Int) (a2 : Int) : Option (Bool) := (impl_within.f a0 1 3).bind fun t102 => (if t102 = true then ((impl_within.f a1 1 3).bind fun t103 => (if t103 = true then ((impl_isKindFloors.f a2).bind fun t104 => (some t104)) else (some false))) else (some false))
set_option maxHeartbeats 8000000 in
set_option maxRecDepth 100000 in
theorem impl_isKindHouse.calls (a0 : Int) (a1 : Int) (a2 : Int) (r : Bool) (w : World) (h : impl_isKindHouse.f a0 a1 a2 = some r) :
    Calls Try.prog 59 #[.int .i64 a0, .int .i64 a1, .int .i64 a2] w fun e w' => e = .returned (.bool r) ∧ Drawn0 w w' := by
  have H : ((impl_within.f a0 1 3).bind fun t102 => (if t102 = true then ((impl_within.f a1 1 3).bind fun t103 => (if t103 = true then ((impl_isKindFloors.f a2).bind fun t104 => (some t104)) else (some false))) else (some false))) = some r := h
  clear h
  replace H := Option.bind_eq_some_iff.mp H
  obtain ⟨t102, A40, H⟩ := H
  replace H : (if t102 = true then ((impl_within.f a1 1 3).bind fun t103 => (if t103 = true then ((impl_isKindFloors.f a2).bind fun t104 => (some t104)) else (some false))) else (some false)) = some r := H
  have A4 := Aside0.mk A40
  clear A40
  by_cases c5 : t102 = true
  · subst c5
    have H1 : ((impl_within.f a1 1 3).bind fun t103 => (if t103 = true then ((impl_isKindFloors.f a2).bind fun t104 => (some t104)) else (some false))) = some r := by rw [if_pos rfl] at H; exact H
    clear H
    have H := H1
    clear H1
    replace H := Option.bind_eq_some_iff.mp H
    obtain ⟨t103, A60, H⟩ := H
    replace H : (if t103 = true then ((impl_isKindFloors.f a2).bind fun t104 => (some t104)) else (some false)) = some r := H
    have A6 := Aside0.mk A60
    clear A60
    by_cases c7 : t103 = true
    · subst c7
      have H1 : ((impl_isKindFloors.f a2).bind fun t104 => (some t104)) = some r := by rw [if_pos rfl] at H; exact H
      clear H
      have H := H1
      clear H1
      replace H := Option.bind_eq_some_iff.mp H
      obtain ⟨t104, A80, H⟩ := H
      replace H : (some t104) = some r := H
      have A8 := Aside0.mk A80
      clear A80
      obtain rfl := Option.some.inj H
      go_enter Try.func59, Try.ntmps59
      go_wp2_with (first | ((with_reducible refine gate_callee (f := 99) rfl ?_); refine goesL_ (some 8) rfl rfl Try.func99 (by kernel_rfl) rfl #[.int .i64 a0, .int .i64 1, .int .i64 3] rfl (by (try simp only [List.map_toArray, List.map_cons, List.map_nil]); first | done | rfl | (simp only [List.length_drop, List.length_take]; rfl)) ?_; (with_reducible refine (impl_within.calls a0 1 3 true _ A4.out).mono ?_); rintro e w' ⟨rfl, ⟨nd, rfl⟩⟩; refine ⟨_, rfl, ?_⟩) | (go_at_call 99; (with_reducible refine (impl_within.calls a1 1 3 true _ A6.out).mono ?_); rintro e w' ⟨rfl, ⟨nd, rfl⟩⟩) | (go_at_call 100; (with_reducible refine (impl_isKindFloors.calls a2 t104 _ A8.out).mono ?_); rintro e w' ⟨rfl, ⟨nd, rfl⟩⟩))
      go_ret
      exact ⟨by first | rfl | (simp; done) | (simp [*]; done), by repeat (first | exact Drawn0.refl _ | apply Drawn0.step)⟩
    · replace c7 := Bool.eq_false_iff.mpr c7
      subst c7
      have H1 : (some false) = some r := by rw [if_neg (show ¬ (false = true) by decide)] at H; exact H
      clear H
      have H := H1
      clear H1
      obtain rfl := Option.some.inj H
      go_enter Try.func59, Try.ntmps59
      go_wp2_with (first | ((with_reducible refine gate_callee (f := 99) rfl ?_); refine goesL_ (some 8) rfl rfl Try.func99 (by kernel_rfl) rfl #[.int .i64 a0, .int .i64 1, .int .i64 3] rfl (by (try simp only [List.map_toArray, List.map_cons, List.map_nil]); first | done | rfl | (simp only [List.length_drop, List.length_take]; rfl)) ?_; (with_reducible refine (impl_within.calls a0 1 3 true _ A4.out).mono ?_); rintro e w' ⟨rfl, ⟨nd, rfl⟩⟩; refine ⟨_, rfl, ?_⟩) | (go_at_call 99; (with_reducible refine (impl_within.calls a1 1 3 false _ A6.out).mono ?_); rintro e w' ⟨rfl, ⟨nd, rfl⟩⟩))
      go_ret
      exact ⟨by first | rfl | (simp; done) | (simp [*]; done), by repeat (first | exact Drawn0.refl _ | apply Drawn0.step)⟩
  · replace c5 := Bool.eq_false_iff.mpr c5
    subst c5
    have H1 : (some false) = some r := by rw [if_neg (show ¬ (false = true) by decide)] at H; exact H
    clear H
    have H := H1
    clear H1
    obtain rfl := Option.some.inj H
    go_enter Try.func59, Try.ntmps59
    go_wp2_with (first | ((with_reducible refine gate_callee (f := 99) rfl ?_); refine goesL_ (some 8) rfl rfl Try.func99 (by kernel_rfl) rfl #[.int .i64 a0, .int .i64 1, .int .i64 3] rfl (by (try simp only [List.map_toArray, List.map_cons, List.map_nil]); first | done | rfl | (simp only [List.length_drop, List.length_take]; rfl)) ?_; (with_reducible refine (impl_within.calls a0 1 3 false _ A4.out).mono ?_); rintro e w' ⟨rfl, ⟨nd, rfl⟩⟩; refine ⟨_, rfl, ?_⟩))
    go_ret
    exact ⟨by first | rfl | (simp; done) | (simp [*]; done), by repeat (first | exact Drawn0.refl _ | apply Drawn0.step)⟩

/-! ### impl_isPair: function 60 -/
def impl_isPair.f (a0 : Int) (a1 : Int) (a2 : Int) : Option (Bool) := (impl_within.f a1 0 a2).bind fun t105 => (if t105 = true then (some (decide (a2 ≤ a0))) else (some false))
set_option maxHeartbeats 8000000 in
set_option maxRecDepth 100000 in
theorem impl_isPair.calls (a0 : Int) (a1 : Int) (a2 : Int) (r : Bool) (w : World) (h : impl_isPair.f a0 a1 a2 = some r) :
    Calls Try.prog 60 #[.int .i64 a0, .int .i64 a1, .int .i64 a2] w fun e w' => e = .returned (.bool r) ∧ Drawn0 w w' := by
  have H : ((impl_within.f a1 0 a2).bind fun t105 => (if t105 = true then (some (decide (a2 ≤ a0))) else (some false))) = some r := h
  clear h
  replace H := Option.bind_eq_some_iff.mp H
  obtain ⟨t105, A40, H⟩ := H
  replace H : (if t105 = true then (some (decide (a2 ≤ a0))) else (some false)) = some r := H
  have A4 := Aside0.mk A40
  clear A40
  by_cases c5 : t105 = true
  · subst c5
    have H1 : (some (decide (a2 ≤ a0))) = some r := by rw [if_pos rfl] at H; exact H
    clear H
    have H := H1
    clear H1
    obtain rfl := Option.some.inj H
    go_enter Try.func60, Try.ntmps60
    go_wp2_with (first | ((with_reducible refine gate_callee (f := 99) rfl ?_); refine goesL_ (some 9) rfl rfl Try.func99 (by kernel_rfl) rfl #[.int .i64 a1, .int .i64 0, .int .i64 a2] rfl (by (try simp only [List.map_toArray, List.map_cons, List.map_nil]); first | done | rfl | (simp only [List.length_drop, List.length_take]; rfl)) ?_; (with_reducible refine (impl_within.calls a1 0 a2 true _ A4.out).mono ?_); rintro e w' ⟨rfl, ⟨nd, rfl⟩⟩; refine ⟨_, rfl, ?_⟩))
    go_ret
    exact ⟨by first | rfl | (simp; done) | (simp [*]; done), by repeat (first | exact Drawn0.refl _ | apply Drawn0.step)⟩
  · replace c5 := Bool.eq_false_iff.mpr c5
    subst c5
    have H1 : (some false) = some r := by rw [if_neg (show ¬ (false = true) by decide)] at H; exact H
    clear H
    have H := H1
    clear H1
    obtain rfl := Option.some.inj H
    go_enter Try.func60, Try.ntmps60
    go_wp2_with (first | ((with_reducible refine gate_callee (f := 99) rfl ?_); refine goesL_ (some 9) rfl rfl Try.func99 (by kernel_rfl) rfl #[.int .i64 a1, .int .i64 0, .int .i64 a2] rfl (by (try simp only [List.map_toArray, List.map_cons, List.map_nil]); first | done | rfl | (simp only [List.length_drop, List.length_take]; rfl)) ?_; (with_reducible refine (impl_within.calls a1 0 a2 false _ A4.out).mono ?_); rintro e w' ⟨rfl, ⟨nd, rfl⟩⟩; refine ⟨_, rfl, ?_⟩))
    go_ret
    exact ⟨by first | rfl | (simp; done) | (simp [*]; done), by repeat (first | exact Drawn0.refl _ | apply Drawn0.step)⟩

-- NOT PRINTED: function 61 (impl_newSolver)

-- FOR spec.kiTable
-- KIND rounds=1 making=1
-- USES kd int
-- USES info int
/-! ### The fewest tests for two breaks, as plain recursion -/
structure KS where
  a : Int
  b : Int
  c : Int
  d : Int
  w : Int
  s : Int
def KGood (k : KS) : Prop := 0 ≤ k.a ∧ k.a ≤ k.b ∧ k.b ≤ k.d ∧ k.d ≤ 6 ∧ k.a ≤ k.c ∧ k.c ≤ k.d ∧ 0 ≤ k.w ∧ k.w ≤ 3 ∧ 0 ≤ k.s ∧ k.s ≤ 3
def KS.ms (k : KS) : Nat := ((k.b - k.a) + (k.d - k.c)).toNat
def KS.done (k : KS) : Bool := decide (k.a = k.b) && decide (k.c = k.d)
def KS.tight (k : KS) : KS := ⟨k.a, min k.b k.d, max k.c k.a, k.d, k.w, k.s⟩
def KS.aft (k : KS) (st br : Bool) (f : Int) : KS :=
  if st then (if br then KS.tight ⟨k.a, k.b, k.c, f - 1, k.w, k.s - 1⟩ else KS.tight ⟨k.a, k.b, f, k.d, k.w, k.s⟩)
  else (if br then KS.tight ⟨k.a, f - 1, k.c, k.d, k.w - 1, k.s⟩ else KS.tight ⟨f, k.b, k.c, k.d, k.w, k.s⟩)
def kFloors (lo hi : Int) : List Int := (List.range (hi - lo).toNat).map fun i : Nat => lo + 1 + (i : Int)
def KS.tests (k : KS) : List (Bool × Int) :=
  (if 0 < k.w then (kFloors k.a k.b).map (fun f => (false, f)) else []) ++ (if 0 < k.s then (kFloors k.c k.d).map (fun f => (true, f)) else [])
theorem mem_kFloors {lo hi f : Int} : f ∈ kFloors lo hi ↔ lo < f ∧ f ≤ hi := by
  unfold kFloors
  simp only [List.mem_map, List.mem_range]
  constructor
  · rintro ⟨i, hi, rfl⟩; omega
  · intro h; exact ⟨(f - lo - 1).toNat, by omega, by omega⟩
theorem mem_tests {k : KS} {t : Bool × Int} (h : t ∈ k.tests) : (t.1 = false ∧ 0 < k.w ∧ k.a < t.2 ∧ t.2 ≤ k.b) ∨ (t.1 = true ∧ 0 < k.s ∧ k.c < t.2 ∧ t.2 ≤ k.d) := by
  unfold KS.tests at h
  rcases List.mem_append.1 h with h | h
  · split at h
    · rename_i hw
      obtain ⟨f, hf, rfl⟩ := List.mem_map.1 h
      exact .inl ⟨rfl, hw, (mem_kFloors.1 hf).1, (mem_kFloors.1 hf).2⟩
    · cases h
  · split at h
    · rename_i hw
      obtain ⟨f, hf, rfl⟩ := List.mem_map.1 h
      exact .inr ⟨rfl, hw, (mem_kFloors.1 hf).1, (mem_kFloors.1 hf).2⟩
    · cases h
theorem tests_weak {k : KS} {f : Int} (hw : 0 < k.w) (h1 : k.a < f) (h2 : f ≤ k.b) : (false, f) ∈ k.tests := by
  unfold KS.tests
  rw [if_pos hw]
  exact List.mem_append.2 (.inl (List.mem_map.2 ⟨f, mem_kFloors.2 ⟨h1, h2⟩, rfl⟩))
theorem tests_strong {k : KS} {f : Int} (hw : 0 < k.s) (h1 : k.c < f) (h2 : f ≤ k.d) : (true, f) ∈ k.tests := by
  unfold KS.tests
  rw [if_pos hw]
  exact List.mem_append.2 (.inr (List.mem_map.2 ⟨f, mem_kFloors.2 ⟨h1, h2⟩, rfl⟩))
theorem aft_good {k : KS} (hk : KGood k) {t : Bool × Int} (h : t ∈ k.tests) (br : Bool) : KGood (k.aft t.1 br t.2) ∧ (k.aft t.1 br t.2).ms < k.ms := by
  obtain ⟨h1, h2, h3, h4, h5, h6, h7, h8, h9, h10⟩ := hk
  rcases mem_tests h with ⟨e, g1, g2, g3⟩ | ⟨e, g1, g2, g3⟩ <;> rw [e] <;> cases br <;> simp only [KS.aft, KS.tight, KGood, KS.ms, if_true, if_false, Bool.false_eq_true] <;> refine ⟨?_, ?_⟩ <;> omega
def kNever : Int := 1125899906842624
def kFold (g : Bool × Int → Int) (z : Int) (l : List (Bool × Int)) : Int := l.foldl (fun o t => min o (g t)) z
theorem kFold_congr {g g' : Bool × Int → Int} (z : Int) (l : List (Bool × Int)) (h : ∀ t ∈ l, g t = g' t) : kFold g z l = kFold g' z l := by
  unfold kFold
  induction l generalizing z with
  | nil => rfl
  | cons t l ih =>
    rw [List.foldl_cons, List.foldl_cons, h t (by simp)]
    exact ih _ (fun u hu => h u (by simp [hu]))
def kG : Nat → KS → Int
  | 0, _ => 0
  | n + 1, k => if k.done then 0 else kFold (fun t => 1 + max (kG n (k.aft t.1 false t.2)) (kG n (k.aft t.1 true t.2))) kNever k.tests
theorem done_iff (k : KS) : k.done = true ↔ k.a = k.b ∧ k.c = k.d := by unfold KS.done; simp
theorem kG_stable : ∀ (n m : Nat) (k : KS), KGood k → k.ms ≤ n → k.ms ≤ m → kG n k = kG m k := by
  have hz : ∀ (m : Nat) (k : KS), KGood k → k.ms ≤ 0 → kG m k = 0 := by
    intro m k hk h
    cases m with
    | zero => rfl
    | succ m =>
      have hd : k.done = true := (done_iff k).2 (by unfold KGood at hk; unfold KS.ms at h; omega)
      simp [kG, hd]
  intro n
  induction n with
  | zero => intro m k hk h1 h2; rw [hz m k hk h1]; rfl
  | succ n ih =>
    intro m k hk h1 h2
    cases m with
    | zero => rw [hz (n + 1) k hk h2]; rfl
    | succ m =>
      simp only [kG]
      cases k.done with
      | true => rfl
      | false =>
        simp only [Bool.false_eq_true, if_false]
        refine kFold_congr _ _ fun t ht => ?_
        have a0 := aft_good hk ht false
        have a1 := aft_good hk ht true
        rw [ih m _ a0.1 (by omega) (by omega), ih m _ a1.1 (by omega) (by omega)]
def gI (k : KS) : Int := kG k.ms k
def gW (k : KS) (t : Bool × Int) : Int := 1 + max (gI (k.aft t.1 false t.2)) (gI (k.aft t.1 true t.2))
theorem gI_done {k : KS} (h : k.done = true) : gI k = 0 := by
  unfold gI
  cases k.ms <;> simp [kG, h]
theorem gI_eq {k : KS} (hk : KGood k) (h : k.done = false) : gI k = kFold (gW k) kNever k.tests := by
  have h1 : gI k = kG (k.ms + 1) k := kG_stable _ _ _ hk (Nat.le_refl _) (Nat.le_succ _)
  rw [h1]
  simp only [kG, h, Bool.false_eq_true, if_false]
  refine kFold_congr _ _ fun t ht => ?_
  have a0 := aft_good hk ht false
  have a1 := aft_good hk ht true
  unfold gW gI
  rw [kG_stable k.ms _ _ a0.1 (by omega) (Nat.le_refl _), kG_stable k.ms _ _ a1.1 (by omega) (Nat.le_refl _)]
theorem kFold_le (g : Bool × Int → Int) (z : Int) (l : List (Bool × Int)) : kFold g z l ≤ z ∧ ∀ t ∈ l, kFold g z l ≤ g t := by
  unfold kFold
  induction l generalizing z with
  | nil => simp
  | cons t l ih =>
    rw [List.foldl_cons]
    have h := ih (min z (g t))
    refine ⟨by have := h.1; omega, fun u hu => ?_⟩
    rcases List.mem_cons.1 hu with rfl | hu
    · have := h.1; omega
    · exact h.2 u hu
theorem kFold_ge (g : Bool × Int → Int) (z m : Int) (l : List (Bool × Int)) (hz : m ≤ z) (h : ∀ t ∈ l, m ≤ g t) : m ≤ kFold g z l := by
  unfold kFold
  induction l generalizing z with
  | nil => exact hz
  | cons t l ih =>
    rw [List.foldl_cons]
    exact ih _ (by have := h t (by simp); omega) (fun u hu => h u (by simp [hu]))
theorem kFold_at (g : Bool × Int → Int) (z : Int) (l : List (Bool × Int)) : kFold g z l = z ∨ ∃ t ∈ l, g t = kFold g z l := by
  unfold kFold
  induction l generalizing z with
  | nil => exact .inl rfl
  | cons t l ih =>
    rw [List.foldl_cons]
    rcases ih (min z (g t)) with h | ⟨u, hu, h⟩
    · rcases Int.le_total z (g t) with h2 | h2
      · exact .inl (h.trans (by omega))
      · exact .inr ⟨t, by simp, by rw [h]; omega⟩
    · exact .inr ⟨u, by simp [hu], h⟩
theorem kG_lo (n : Nat) (k : KS) : 0 ≤ kG n k := by
  induction n generalizing k with
  | zero => exact Int.le_refl _
  | succ n ih =>
    unfold kG
    split
    · exact Int.le_refl _
    · exact kFold_ge _ _ _ _ (by decide) (fun t _ => by have := ih (k.aft t.1 false t.2); omega)
theorem gI_lo (k : KS) : 0 ≤ gI k := kG_lo _ _
theorem kG_hi (n : Nat) (k : KS) : kG n k ≤ kNever := by
  cases n with
  | zero => exact (by decide : (0 : Int) ≤ kNever)
  | succ n =>
    unfold kG
    split
    · decide
    · exact (kFold_le _ _ _).1
theorem gI_hi (k : KS) : gI k ≤ kNever := kG_hi _ _
theorem gW_lo (k : KS) (t : Bool × Int) : 1 ≤ gW k t := by unfold gW; have := gI_lo (k.aft t.1 false t.2); omega
theorem gW_hi (k : KS) (t : Bool × Int) : gW k t ≤ kNever + 1 := by unfold gW; have := gI_hi (k.aft t.1 false t.2); have := gI_hi (k.aft t.1 true t.2); omega
theorem gI_pos {k : KS} (hk : KGood k) (h : k.done = false) : 1 ≤ gI k := by
  rw [gI_eq hk h]
  exact kFold_ge _ _ _ _ (by decide) (fun t _ => gW_lo k t)
/-- There are eggs for whatever is open. -/
def KAble (k : KS) : Prop := (k.a = k.b ∨ 1 ≤ k.w) ∧ (k.c = k.d ∨ 1 ≤ k.s)
theorem gI_able : ∀ (n : Nat) (k : KS), KGood k → KAble k → k.ms ≤ n → gI k ≤ k.ms
  | 0, k, hk, _, h => by
    have hd : k.done = true := (done_iff k).2 (by unfold KGood at hk; unfold KS.ms at h; omega)
    rw [gI_done hd]; omega
  | n + 1, k, hk, ha, h => by
    cases hd : k.done with
    | true => rw [gI_done hd]; omega
    | false =>
      have hnd : ¬ (k.a = k.b ∧ k.c = k.d) := fun h_ => by rw [(done_iff k).2 h_] at hd; cases hd
      rw [gI_eq hk hd]
      have key : ∀ t ∈ k.tests, KAble (k.aft t.1 false t.2) → KAble (k.aft t.1 true t.2) → kFold (gW k) kNever k.tests ≤ k.ms := by
        intro t ht b0 b1
        have a0 := aft_good hk ht false
        have a1 := aft_good hk ht true
        have i0 := gI_able n _ a0.1 b0 (by omega)
        have i1 := gI_able n _ a1.1 b1 (by omega)
        have h_ := (kFold_le (gW k) kNever k.tests).2 t ht
        unfold gW at h_ ⊢
        omega
      unfold KGood at hk
      unfold KAble at ha
      by_cases h1 : k.a < k.b
      · refine key (false, k.a + 1) (tests_weak (by omega) (by omega) (by omega)) ?_ ?_ <;> simp only [KAble, KS.aft, KS.tight, if_true, if_false, Bool.false_eq_true] <;> omega
      · refine key (true, k.c + 1) (tests_strong (by omega) (by omega) (by omega)) ?_ ?_ <;> simp only [KAble, KS.aft, KS.tight, if_true, if_false, Bool.false_eq_true] <;> omega
/-- The first of the tests with which a plan has the fewest. -/
def kFirst (k : KS) : Bool × Int := (k.tests.find? fun t => decide (gW k t = gI k)).getD (false, 0)
theorem kFirst_is {k : KS} (hk : KGood k) (hd : k.done = false) (hf : gI k < 1000) : kFirst k ∈ k.tests ∧ gW k (kFirst k) = gI k ∧ k.tests.find? (fun t => decide (gW k t = gI k)) = some (kFirst k) := by
  have he := gI_eq hk hd
  rcases kFold_at (gW k) kNever k.tests with h | ⟨t, ht, h⟩
  · rw [← he] at h
    exact absurd h (by have : (1000 : Int) < kNever := by decide
                       omega)
  · rw [← he] at h
    have h1 : (k.tests.find? fun t => decide (gW k t = gI k)).isSome = true := by rw [List.find?_isSome]; exact ⟨t, ht, by simpa using h⟩
    obtain ⟨u, hu⟩ := Option.isSome_iff_exists.1 h1
    have e : kFirst k = u := by unfold kFirst; rw [hu]; rfl
    rw [e]
    exact ⟨List.mem_of_find?_eq_some hu, by simpa using List.find?_some hu, hu⟩
theorem kFirst_aft {k : KS} (hk : KGood k) (hd : k.done = false) (hf : gI k < 1000) (br : Bool) : KGood (k.aft (kFirst k).1 br (kFirst k).2) ∧ (k.aft (kFirst k).1 br (kFirst k).2).ms < k.ms ∧ gI (k.aft (kFirst k).1 br (kFirst k).2) < 1000 := by
  obtain ⟨h1, h2, _⟩ := kFirst_is hk hd hf
  have a := aft_good hk h1 br
  refine ⟨a.1, a.2, ?_⟩
  unfold gW at h2
  cases br <;> omega
def kBreaks (t : Bool × Int) (wk st : Int) : Bool := if t.1 then decide (st < t.2) else decide (wk < t.2)
/-- The tests of a plan. -/
def kPlay (wk st : Int) : Nat → KS → List (Bool × Int × Bool)
  | 0, _ => []
  | n + 1, k => if k.done then [] else ((kFirst k).1, (kFirst k).2, kBreaks (kFirst k) wk st) :: kPlay wk st n (k.aft (kFirst k).1 (kBreaks (kFirst k) wk st) (kFirst k).2)
/-! ### spec_kiTable: function 57 -/
def spec_kiTable.l0 : Nat → List Int → Int → Int → Option (List Int)
  | 0, _, _, _ => none
  | k + 1, x3, x18, x19 => if x19 < x18 then (if 0 ≤ x19 then (if x19 < (x3.length : Int) then (spec_kiTable.l0 k (x3.set (x19 : Int).toNat (-1)) x18 (wrap64 (x19 + 1))) else (none)) else (none)) else (some x3)
def spec_kiTable.f (k : Nat)  : Option (List Int) := if (0 : Int) ≤ (((((7 * 7) * 7) * 7) * 4) * 4) then (if (((((7 * 7) * 7) * 7) * 4) * 4 : Int).toNat ≤ 35184372088832 then ((some (List.replicate (((((7 * 7) * 7) * 7) * 4) * 4 : Int).toNat 0 : List Int)).bind fun y160 => (spec_kiTable.l0 k y160 (y160.length : Int) 0)) else (none)) else (none)
theorem spec_kiTable.mono_l : ∀ k, (∀ y0 y1 y2, LeO (spec_kiTable.l0 k y0 y1 y2) (spec_kiTable.l0 (k + 1) y0 y1 y2))
  | 0 => fun _ _ _ r h => by simp [spec_kiTable.l0] at h
  | k + 1 => by
    have ih0 := spec_kiTable.mono_l k
    · intro y0 y1 y2
      unfold spec_kiTable.l0
      repeat' first
      | (with_reducible exact ih0 _ _ _)
      | (with_reducible exact LeO.refl _)
      | (with_reducible exact LeO.none _)
      | (with_reducible refine LeO.ite ?_ ?_)
      | (with_reducible refine LeO.bind ?_ (fun _ => ?_))
      | exact ih0 _ _ _
      | exact LeO.none _
      | refine LeO.ite ?_ ?_
      | refine LeO.bind ?_ (fun _ => ?_)
theorem spec_kiTable.mono : ∀ k, LeO (spec_kiTable.f k ) (spec_kiTable.f (k + 1) ) := by
  intro  k
  have ih0 := spec_kiTable.mono_l k
  unfold spec_kiTable.f
  repeat' first
      | (with_reducible exact ih0 _ _ _)
      | (with_reducible exact LeO.refl _)
      | (with_reducible exact LeO.none _)
      | (with_reducible refine LeO.ite ?_ ?_)
      | (with_reducible refine LeO.bind ?_ (fun _ => ?_))
      | exact ih0 _ _ _
      | exact LeO.none _
      | refine LeO.ite ?_ ?_
      | refine LeO.bind ?_ (fun _ => ?_)
set_option maxHeartbeats 8000000 in
set_option maxRecDepth 100000 in
theorem spec_kiTable.calls (k : Nat)  (r : List Int) (w : World) (h : spec_kiTable.f k  = some r) :
    Calls Try.prog 57 #[] w fun e w' => ∃ v0_ : Value, e = .returned (v0_) ∧ Kd.R (Kd.int .i64) 3 w' w.heap.size (fun _ => True) v0_ r ∧ Below w.heap.size w w' := by
  have HB := Aside0.mk (Below.refl w.heap.size w)
  have H : (if (0 : Int) ≤ (((((7 * 7) * 7) * 7) * 4) * 4) then (if (((((7 * 7) * 7) * 7) * 4) * 4 : Int).toNat ≤ 35184372088832 then ((some (List.replicate (((((7 * 7) * 7) * 7) * 4) * 4 : Int).toNat 0 : List Int)).bind fun y160 => (spec_kiTable.l0 k y160 (y160.length : Int) 0)) else (none)) else (none)) = some r := h
  clear h
  obtain ⟨ji1, hji1⟩ : ∃ j_ : Int, (((((7 * 7) * 7) * 7) * 4) * 4) = j_ := ⟨_, rfl⟩
  replace H : (if 0 ≤ (ji1) then (if (ji1 : Int).toNat ≤ 35184372088832 then ((some (List.replicate (ji1 : Int).toNat 0 : List Int)).bind fun y160 => (spec_kiTable.l0 k y160 (y160.length : Int) 0)) else (none)) else (none)) = some r := by first | (rw [hji1] at H; exact H) | (simp only [hji1] at H ⊢; exact H)
  by_cases c2 : 0 ≤ (ji1)
  · rw [if_pos c2] at H
    have c2b0 := eq_true c2
    have c2b1 : decide (0 ≤ (ji1)) = true := decide_eq_true c2
    clear c2
    by_cases c3 : (ji1 : Int).toNat ≤ 35184372088832
    · rw [if_pos c3] at H
      have c3b0 := eq_true c3
      have c3b1 : decide ((ji1 : Int).toNat ≤ 35184372088832) = true := decide_eq_true c3
      clear c3
      obtain ⟨y160, hy160⟩ : ∃ y_ : List Int, y_ = (List.replicate (ji1 : Int).toNat 0) := ⟨_, rfl⟩
      replace H : (spec_kiTable.l0 k y160 (y160.length : Int) 0) = some r := by first | (rw [hy160]; with_reducible exact H) | (have H2_ := (Option.bind_some _ _).symm.trans H; rw [hy160]; with_reducible exact H2_) | (have H2_ := (Option.bind_some _ _).symm.trans H; with_reducible exact H2_) | with_reducible exact H | (rw [hy160]; exact H) | exact H
      have Ny160 := Aside0.mk hy160
      clear hy160
      have H' := Aside0.mk H
      clear H
      have hj38 : ji1 = 38416 := by rw [← hji1]; rfl
      clear hji1
      subst hj38
      go_enter Try.func57, Try.ntmps57
      go_wp2_with (first | ((with_reducible refine gate_dst (N := 16) rfl ?_); refine Kd.R_make (Kd.int .i64) _ 3 rfl (N := 16) rfl 46 _ _ rfl (38416 : Int) rfl rfl Try.underlying46 (.int .i64 0) 8 info3 rfl (by decide) (by omega) 0 (ok := fun _ => True) (okp := fun _ => True) rfl (fun _ hk => hk) trivial (of_decide_eq_true (by first | (with_reducible assumption) | assumption)) (Nat.le_trans (Nat.mul_le_mul_right _ (of_decide_eq_true (by first | (with_reducible assumption) | assumption) : (38416 : Int).toNat ≤ 35184372088832)) (by omega)) (Below.refl _ _) (Nat.le_refl _) ?_; intro v161 w4 ho5 hb hg_ hnew_; clear hg_ hnew_; (first | rw [← Ny160.out] at ho5 | (simp only [Int.reduceToNat] at ho5; rw [← Ny160.out] at ho5)); have n0_ := Aside0.mk (Kd.R_lower ho5 (below_size (by repeat (first | (with_reducible first | exact HB.out | apply below_alloc | apply pw_below_drewN | apply below_drew1) | exact HB.out)))); have n1_ := Aside0.mk (below_step (by repeat (first | (with_reducible first | exact HB.out | apply below_alloc | apply pw_below_drewN | apply below_drew1) | exact HB.out)) hb); clear HB; have HO162 := n0_; have HB := n1_; clear n0_ n1_; clear hb ho5; obtain ⟨Ao6, co6, eo6⟩ := Kd.R_slice HO162.out; subst eo6))
      go_loopg [19] k (fun kq v19 w' => ∃ (x3_1 : List Int) (x19_1 : Int), v19 = .int .i64 x19_1 ∧ Aside0 (spec_kiTable.l0 kq x3_1 (y160.length : Int) x19_1 = some r) ∧ Aside0 (kq ≤ k) ∧ Aside0 (Kd.R (Kd.int .i64) 3 w' w.heap.size (fun _ => True) (.slice Ao6 y160.length co6) x3_1) ∧ Aside0 (Below w.heap.size w w'))
      case atStart => exact ⟨(y160), (0), (by first | rfl | (simp; done) | (simp [*]; done)), H', ⟨Nat.le_refl _⟩, ⟨by (with_reducible repeat (first | apply Kd.R_alloc | apply Kd.R_drewN | apply Kd.R_drew)); exact HO162.out⟩, ⟨by repeat (first | (with_reducible first | exact HB.out | apply below_alloc | apply pw_below_drewN | apply below_drew1) | exact HB.out)⟩⟩
      case round =>
        clear H'
        try clear c2
        try clear c2b0
        try clear c2b1
        try clear p2
        try clear c3
        try clear c3b0
        try clear c3b1
        try clear c5
        obtain ⟨x3_1, x19_1, rfl, HA, HK1, HO_3, HB⟩ := hrel
        have hl3_1 := (Kd.R_reads' HO_3.out).1
        rw [hl3_1] at HO_3
        (try simp only [hl3_1])
        cases gk with
        | zero => exact absurd HA.out (by simp [spec_kiTable.l0])
        | succ k1 =>
          have H := HA.out
          clear HA
          simp only [spec_kiTable.l0] at H
          by_cases c7 : x19_1 < (y160.length : Int)
          · rw [if_pos c7] at H
            have c7b0 : decide (x19_1 < (y160.length : Int)) = true := decide_eq_true c7
            clear c7
            by_cases c8 : 0 ≤ x19_1
            · rw [if_pos c8] at H
              have c8b0 : decide (0 ≤ x19_1) = true := decide_eq_true c8
              clear c8
              by_cases c9 : x19_1 < (x3_1.length : Int)
              · rw [if_pos c9] at H
                have c9b0 : decide (x19_1 < (x3_1.length : Int)) = true := decide_eq_true c9
                clear c9
                obtain ⟨y163, hy163⟩ : ∃ y_ : List Int, y_ = (x3_1.set (x19_1 : Int).toNat (-1)) := ⟨_, rfl⟩
                replace H : (spec_kiTable.l0 k1 y163 (y160.length : Int) (wrap64 (x19_1 + 1))) = some r := by first | (rw [hy163]; with_reducible exact H) | (have H2_ := (Option.bind_some _ _).symm.trans H; rw [hy163]; with_reducible exact H2_) | (have H2_ := (Option.bind_some _ _).symm.trans H; with_reducible exact H2_) | with_reducible exact H | (rw [hy163]; exact H) | exact H
                have Ny163 := Aside0.mk hy163
                clear hy163
                have H' := Aside0.mk H
                clear H
                have p10 : 0 ≤ (x19_1 : Int) := of_decide_eq_true (by first | (with_reducible assumption) | assumption)
                have q10 : (x19_1 : Int) < ((x3_1.length : Int) : Int) := of_decide_eq_true (by first | (with_reducible assumption) | assumption)
                obtain ⟨go10, co10, eo10, gb10, gl10, cl10, HG10⟩ := Kd.R_form HO_3.out (by omega)
                (first | cases eo10 | (injection eo10 with ea_ en_ ec_; (first | subst ea_ | (injection ea_ with ea_; subst ea_)); subst ec_; clear en_))
                have GB10 := Aside0.mk gb10
                have GG10 := Aside0.mk HG10
                clear gb10 gl10 HG10
                obtain ⟨hx10_0, hf10_0⟩ := Kd.R_celln 0 HO_3.out (x19_1 : Int) p10 q10
                replace p10 := eq_true p10
                replace q10 := eq_true q10
                have HP11 := Kd.R_putg HO_3.out (x19_1 : Int) (-1)
                go_wp2_with (first | ((with_reducible refine gate_store (t := 3) (p := 24) rfl ?_); refine store_event (t := 3) (p := 24) (v := ?vo_w12) (w1 := (wr.setCell ⟨go10, (x19_1 : Int).toNat, none⟩ (.int .i64 (-1)))) ?hg ?ho ?hn ?hr ?_; (case ho => rfl); (case hg => rfl); (case hn => rfl); (case hr => first | (go_simp; done) | (go_simp; rfl)); intro w12 hw; have hg : wr.grownBy w12 (some go10) := (by rw [hw]; exact HP11.2); have hp_ : Kd.R (Kd.int .i64) 3 w12 w.heap.size (fun _ => True) (.slice (some ⟨go10, 0, none⟩) x3_1.length co6) y163 := (by rw [hw, Ny163.out]; exact HP11.1); clear HP11; have n0_ := Aside0.mk (hp_); have n1_ := Aside0.mk ((by rw [hw]; exact below_set (HB.out) GB10.out : Below w.heap.size w w12)); clear HO_3; clear HB; have HO_3 := n0_; have HB := n1_; clear n0_ n1_; clear hg hw hp_))
                (try simp only [← hl3_1])
                go_roundg k1
                case measure => have := HK1.out; omega
                case rel => exact ⟨(y163), (wrap64 (x19_1 + 1)), (by first | rfl | (simp; done) | (simp [*]; done)), H', ⟨by have := HK1.out; omega⟩, ⟨by (try simp only [hl3_1]); (with_reducible repeat (first | apply Kd.R_alloc | apply Kd.R_drewN | apply Kd.R_drew)); exact HO_3.out⟩, ⟨by repeat (first | (with_reducible first | exact HB.out | apply below_alloc | apply pw_below_drewN | apply below_drew1) | exact HB.out)⟩⟩
              · rw [if_neg c9] at H
                exact absurd H (by simp)
            · rw [if_neg c8] at H
              exact absurd H (by simp)
          · rw [if_neg c7] at H
            have c7b0 : decide (x19_1 < (y160.length : Int)) = false := decide_eq_false c7
            rw [hl3_1] at c7b0
            clear c7
            obtain rfl := Option.some.inj H
            go_wp2
            go_ret
            exact ⟨_, by first | rfl | (simp [errW_none, errW_some] <;> rfl) | (simp [*, errW_none, errW_some] <;> rfl), by (with_reducible repeat (first | apply Kd.R_alloc | apply Kd.R_drewN | apply Kd.R_drew)); exact HO_3.out, by repeat (first | (with_reducible first | exact HB.out | apply below_alloc | apply pw_below_drewN | apply below_drew1) | exact HB.out)⟩
    · rw [if_neg c3] at H
      exact absurd H (by simp)
  · rw [if_neg c2] at H
    exact absurd H (by simp)



end Go.Proofs.Ytoomacelbhojhaa.V
