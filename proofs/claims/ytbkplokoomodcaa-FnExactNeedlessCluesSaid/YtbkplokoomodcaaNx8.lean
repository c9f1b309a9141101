/- Plain Lean functions with the answers of Go functions, and proofs of it: printed by a program of this session (pr.py) over the kit's print, with hand-written parts. -/
import Derived.Test.YtbkplokoomodcaaNx0
import Derived.Test.YtbkplokoomodcaaNx7
namespace Go.Proofs.Ytbkplokoomodcaa.N
open Go.RowKit Go.Proofs.YtbkplokoomodcaaW.PrintWords Go.Proofs.YtbkplokoomodcaaW.PrintLast Go.Proofs.YtbkplokoomodcaaW.PrintMore
attribute [local go_sem] max2_int min2_int max_two min_two max_three min_three max_four min_four   -- for this text's walks alone
set_option linter.unusedVariables false
set_option linter.unusedSimpArgs false

-- FOR impl.IsPuzzle
-- KIND rounds=0 making=1
def isClueB (fl : Int) (x : S25) : Bool := (impl_IsClue.f fl x.f0 x.f1 x.f2).getD false
theorem isClue_some (fl a b c : Int) : impl_IsClue.f fl a b c = some ((impl_IsClue.f fl a b c).getD false) := by
  have h : ∃ r, impl_IsClue.f fl a b c = some r := by
    unfold impl_IsClue.f impl_isHiddenHouse.f impl_isEggs.f impl_isBreak.f impl_within.f
    repeat (first | exact ⟨_, rfl⟩ | split | simp only [Option.bind_some])
  obtain ⟨r, h⟩ := h
  rw [h]; rfl
set_option maxHeartbeats 4000000 in
set_option maxRecDepth 100000 in
theorem isPuzzle1.calls (fl : Int) (g : Nat) (x : S25) (W : World) (h0 : W.cell? ⟨g, 0, none⟩ = some (.int .i64 fl)) :
    Calls Try.prog 82 #[.agg #[.int .i64 x.f0, .int .i64 x.f1, .int .i64 x.f2], .pointer (some ⟨g, 0, none⟩)] W fun e W' => e = .returned (.bool (!isClueB fl x)) ∧ Below W.heap.size W W' := by
  have HC := Aside0.mk (isClue_some fl x.f0 x.f1 x.f2)
  have h1 := World.block_lt_of_cell? W _ h0
  go_enter Try.func82, Try.ntmps82
  go_wp2_with (first | (go_at_call 21; refine (impl_IsClue.calls _ _ _ _ _ _ HC.out).mono ?_; rintro e w1 ⟨rfl, hb1⟩))
  go_ret
  exact ⟨rfl, ((Below.refl _ _).alloc (Nat.le_refl _) _).trans (hb1.mono (by simp))⟩
def impl_IsPuzzle.f (a0_0 : Int) (l0_1 : List S25) : Option Bool := some (decide (1 ≤ a0_0) && decide (a0_0 ≤ 40) && decide (l0_1.length ≤ 6) && l0_1.all (isClueB a0_0))
theorem hidden_some (a : Int) : impl_isHiddenHouse.f a = some (decide (1 ≤ a) && decide (a ≤ 40)) := by
  unfold impl_isHiddenHouse.f impl_within.f
  by_cases h : 1 ≤ a <;> simp [h]
set_option maxHeartbeats 4000000 in
set_option maxRecDepth 100000 in
theorem impl_IsPuzzle.calls (a0_0 : Int) (A0_1 : Option Addr) (c0_1 : Nat) (l0_1 : List S25) (r : Bool) (w : World) (hr0_1 : Kd.C k25 w A0_1 l0_1.length l0_1) (hc0_1 : l0_1.length ≤ c0_1) (h : impl_IsPuzzle.f a0_0 l0_1 = some r) :
    Calls Try.prog 25 #[.agg #[.int .i64 a0_0, .slice A0_1 l0_1.length c0_1]] w fun e w' => e = .returned (.bool r) ∧ Below w.heap.size w w' := by
  obtain rfl := Option.some.inj h
  clear h
  have HH := Aside0.mk (hidden_some a0_0)
  have HR := Aside0.mk (Kd.C_below hr0_1 ((Below.refl w.heap.size w).alloc (Nat.le_refl _) (.cells #[.int .i64 a0_0, .slice A0_1 l0_1.length c0_1] 35 (0, 0))))
  have hm := Kd.C_max hr0_1
  clear hr0_1
  cases h1 : (decide (1 ≤ a0_0) && decide (a0_0 ≤ 40)) with
  | false =>
    rw [h1] at HH
    clear h1
    go_enter Try.func25, Try.ntmps25
    go_wp2_with (first | (go_at_call 74; refine (impl_isHiddenHouse.calls _ _ _ HH.out).mono ?_; rintro e w1 ⟨rfl, ⟨nd, rfl⟩⟩))
    go_ret
    exact ⟨by simp, pw_below_drewN ((Below.refl _ _).alloc (Nat.le_refl _) _) _⟩
  | true =>
    rw [h1] at HH
    clear h1
    by_cases h2 : l0_1.length ≤ 6
    · have h2' : decide ((l0_1.length : Int) ≤ 6) = true := decide_eq_true (by omega)
      have h3' : decide (l0_1.length ≤ 6) = true := decide_eq_true h2
      have HX : Aside0 (∀ nd, Calls Try.prog 81 #[.slice A0_1 l0_1.length c0_1, .func (.func 82) #[] #[.pointer (some ⟨w.heap.size, 0, none⟩)]] ((w.alloc (.cells #[.int .i64 a0_0, .slice A0_1 l0_1.length c0_1] 35 (0, 0))).drewN nd) fun e w' => e = .returned (.bool (l0_1.any fun x => !isClueB a0_0 x)) ∧ Below (w.heap.size + 1) ((w.alloc (.cells #[.int .i64 a0_0, .slice A0_1 l0_1.length c0_1] 35 (0, 0))).drewN nd) w') := by
        refine ⟨fun nd => (anyClue.calls (fun x => !isClueB a0_0 x) 82 _ #[.pointer (some ⟨w.heap.size, 0, none⟩)] A0_1 c0_1 l0_1 _ (Kd.C_below HR.out (pw_below_drewN (Below.refl _ _) _)) Try.func82 (by kernel_rfl) rfl ?_).mono fun e w' hh => ⟨hh.1, hh.2.mono (by simp)⟩⟩
        intro x W _ hb
        exact isPuzzle1.calls a0_0 w.heap.size x W ((hb.cell (p := ⟨w.heap.size, 0, none⟩) (by simp)).trans (by rw [show ∀ (V : World) (p : Addr), (V.drewN nd).cell? p = V.cell? p from fun _ _ => rfl, World.cell?_alloc_at _ _ _ _ rfl]; rfl))
      go_enter Try.func25, Try.ntmps25
      go_wp2_with (first | (go_at_call 74; refine (impl_isHiddenHouse.calls _ _ _ HH.out).mono ?_; rintro e w1 ⟨rfl, ⟨nd, rfl⟩⟩) | (go_at_call 81; refine (HX.out _).mono ?_; rintro e w1 ⟨rfl, hb1⟩))
      go_ret
      exact ⟨by simp [h3', Hw.all_not_any], (pw_below_drewN ((Below.refl _ _).alloc (Nat.le_refl _) _) _).trans (hb1.mono (by simp))⟩
    · have h2' : decide ((l0_1.length : Int) ≤ 6) = false := decide_eq_false (by omega)
      have h3' : decide (l0_1.length ≤ 6) = false := decide_eq_false h2
      go_enter Try.func25, Try.ntmps25
      go_wp2_with (first | (go_at_call 74; refine (impl_isHiddenHouse.calls _ _ _ HH.out).mono ?_; rintro e w1 ⟨rfl, ⟨nd, rfl⟩⟩))
      go_ret
      exact ⟨by simp [h3'], pw_below_drewN ((Below.refl _ _).alloc (Nat.le_refl _) _) _⟩


-- FOR impl.newReaches
def reachAt : Nat → Nat → Int
  | 0, _ => 0
  | _ + 1, 0 => 0
  | t + 1, e + 1 => min 1000000001 (reachAt t e + reachAt t (e + 1) + 1)
theorem reachAt_lo (t e : Nat) : 0 ≤ reachAt t e := by
  induction t generalizing e with
  | zero => simp [reachAt]
  | succ t ih => cases e with
    | zero => simp [reachAt]
    | succ e => have := ih e; have := ih (e + 1); unfold reachAt; omega
theorem reachAt_hi (t e : Nat) : reachAt t e ≤ 1000000001 := by
  cases t with
  | zero => simp [reachAt]
  | succ t => cases e with
    | zero => simp [reachAt]
    | succ e => unfold reachAt; omega
def rCur (t e i j : Nat) : Int := if i < t ∨ i = t ∧ j < e then reachAt i j else 0
def RTab (cs : Array Value) (t e : Nat) : Prop := cs.size = 11011 ∧ ∀ i j, i < 1001 → j < 11 → cs[i * 11 + j]? = some (.int .i64 (rCur t e i j))
theorem RTab_zero : RTab (Array.replicate 11011 (.int .i64 0)) 1 1 := by
  refine ⟨by simp, fun i j hi hj => ?_⟩
  rw [Array.getElem?_replicate, if_pos (by omega)]
  unfold rCur
  split
  · rename_i h
    have : reachAt i j = 0 := by
      rcases i with _ | i
      · simp [reachAt]
      · have : j = 0 := by omega
        subst this; simp [reachAt]
    rw [this]
  · rfl
theorem RTab_row {cs : Array Value} {t : Nat} (h : RTab cs t 11) : RTab cs (t + 1) 1 := by
  refine ⟨h.1, fun i j hi hj => ?_⟩
  rw [h.2 i j hi hj]
  unfold rCur
  by_cases h1 : i < t ∨ i = t ∧ j < 11
  · rw [if_pos h1, if_pos (by omega)]
  · rw [if_neg h1]
    split
    · have : j = 0 := by omega
      subst this
      have : i = t + 1 := by omega
      subst this; simp [reachAt]
    · rfl
theorem RTab_get {cs : Array Value} {t e : Nat} (h : RTab cs t e) (i j : Nat) (hi : i < 1001) (hj : j < 11) (hd : i < t ∨ i = t ∧ j < e) : cs[i * 11 + j]? = some (.int .i64 (reachAt i j)) := by
  rw [h.2 i j hi hj]; unfold rCur; rw [if_pos hd]
theorem RTab_set {cs : Array Value} {t e : Nat} (h : RTab cs (t + 1) (e + 1)) (ht : t < 1000) (he : e < 10) : RTab (cs.setIfInBounds ((t + 1) * 11 + (e + 1)) (.int .i64 (min 1000000001 (reachAt t e + reachAt t (e + 1) + 1)))) (t + 1) (e + 2) := by
  refine ⟨by simp [h.1], fun i j hi hj => ?_⟩
  rw [Array.getElem?_setIfInBounds]
  by_cases h1 : (t + 1) * 11 + (e + 1) = i * 11 + j
  · have : i = t + 1 := by omega
    subst this
    have : j = e + 1 := by omega
    subst this
    rw [if_pos rfl, if_pos (by rw [h.1]; omega)]
    unfold rCur
    rw [if_pos (by omega)]
    rfl
  · rw [if_neg h1, h.2 i j hi hj]
    unfold rCur
    by_cases h2 : i < t + 1 ∨ i = t + 1 ∧ j < e + 1
    · rw [if_pos h2, if_pos (by omega)]
    · rw [if_neg h2, if_neg (by omega)]
def RchT (w : World) (b t e : Nat) : Prop := ∃ cs, w.heap[b]? = some (.cells cs 115 (0, 0)) ∧ RTab cs t e
def Rch (w : World) (b : Nat) : Prop := RchT w b 1001 1
set_option maxHeartbeats 8000000 in
set_option maxRecDepth 1000000 in
theorem newReaches.calls (w : World) :
    Calls Try.prog 86 #[] w fun e w' => e = .returned (.pointer (some ⟨w.heap.size, 0, none⟩)) ∧ Rch w' w.heap.size ∧ Below w.heap.size w w' := by
  obtain ⟨hz, hsz⟩ := zero_of_info (P := Try.prog) (t := 115) (v := .agg (Array.replicate 11011 (.int .i64 0))) (n := 11011) (by kernel_rfl)
  obtain ⟨Z, hZ⟩ : ∃ Z : Array Value, Z = Array.replicate 11011 (.int .i64 0) := ⟨_, rfl⟩
  rw [← hZ] at hz
  have HZ := Aside0.mk (show RTab Z 1 1 by rw [hZ]; exact RTab_zero)
  clear hZ
  have zs : ∀ w, Sem.run Try.prog (sizeOf 113) w = .ok 11 w := by
    have h13 : (Try.prog.info? 113).map (fun i => (i.zero, i.size)) = some (some (.agg (Array.replicate 11 (.int .i64 0))), 11) := by kernel_rfl
    intro w
    obtain ⟨_, h_⟩ := zero_of_info h13
    cases hq : Try.prog.info? 113 with
    | none => simp [hq] at h_
    | some i =>
      have h2_ : i.size = 11 := by simpa [hq] using h_
      simp [sizeOf, typeInfo, hq, h2_]
  go_enter Try.func86, Try.ntmps86
  go_wp2
  go_loopg [2] 1000 (fun n v w' => ∃ T : Int, v = .int .i64 T ∧ Aside0 (1 ≤ T ∧ T + n = 1001) ∧ Aside0 (RchT w' w.heap.size T.toNat 1) ∧ Aside0 (Below w.heap.size w w'))
  case atStart => exact ⟨1, rfl, ⟨by omega⟩, ⟨⟨Z, blk_new _ _, HZ.out⟩⟩, ⟨below_alloc (Below.refl _ _) _⟩⟩
  case round =>
    obtain ⟨T, rfl, HK, HT, HB⟩ := hrel
    by_cases hlt : T ≤ 1000
    · have h2 : decide (T ≤ 1000) = true := decide_eq_true (by omega)
      have HL := Aside0.mk hlt
      clear hlt
      go_wp2
      go_loopg [3] 10 (fun n v w' => ∃ e : Int, v = .int .i64 e ∧ Aside0 (1 ≤ e ∧ e + n = 11) ∧ Aside0 (RchT w' w.heap.size T.toNat e.toNat) ∧ Aside0 (Below w.heap.size w w'))
      case atStart => exact ⟨1, rfl, ⟨by omega⟩, HT, HB⟩
      case round =>
        clear HT HB
        obtain ⟨E, rfl, HK2, HT, HB⟩ := hrel
        by_cases hle : E ≤ 10
        · have h3 : decide (E ≤ 10) = true := decide_eq_true (by omega)
          have HL2 := Aside0.mk hle
          clear hle
          obtain ⟨t, ht⟩ : ∃ t : Nat, T = (t : Int) + 1 := ⟨(T - 1).toNat, by have := HK.out; omega⟩
          obtain ⟨ee, he⟩ : ∃ e : Nat, E = (e : Int) + 1 := ⟨(E - 1).toNat, by have := HK2.out; omega⟩
          obtain ⟨T1, hT1⟩ : ∃ T1 : Int, T1 = T - 1 := ⟨_, rfl⟩
          obtain ⟨E1, hE1⟩ : ∃ E1 : Int, E1 = E - 1 := ⟨_, rfl⟩
          obtain ⟨cs, hcs, hR⟩ := HT.out
          have hk := HK.out
          have hk2 := HK2.out
          have hl := HL.out
          have hl2 := HL2.out
          have hR' : RTab cs (t + 1) (ee + 1) := by rw [show T.toNat = t + 1 by omega, show E.toNat = ee + 1 by omega] at hR; exact hR
          have g0 : wr.cell? ⟨w.heap.size, T1.toNat * 11 + E1.toNat, none⟩ = some (.int .i64 (reachAt t ee)) := by rw [show T1.toNat = t by omega, show E1.toNat = ee by omega]; exact (blk_cell hcs (t * 11 + ee)).trans (RTab_get hR' t ee (by omega) (by omega) (by omega))
          have g1 : wr.cell? ⟨w.heap.size, T1.toNat * 11 + E.toNat, none⟩ = some (.int .i64 (reachAt t (ee + 1))) := by rw [show T1.toNat = t by omega, show E.toNat = ee + 1 by omega]; exact (blk_cell hcs (t * 11 + (ee + 1))).trans (RTab_get hR' t (ee + 1) (by omega) (by omega) (by omega))
          have g2 : wr.cell? ⟨w.heap.size, T.toNat * 11 + E.toNat, none⟩ = some (.int .i64 (rCur (t + 1) (ee + 1) (t + 1) (ee + 1))) := by rw [show T.toNat = t + 1 by omega, show E.toNat = ee + 1 by omega]; exact (blk_cell hcs ((t + 1) * 11 + (ee + 1))).trans (hR'.2 (t + 1) (ee + 1) (by omega) (by omega))
          have f2 : wr.frozen? ⟨w.heap.size, T.toNat * 11 + E.toNat, none⟩ = false := blk_frozen hcs _
          have w1 : IntKind.i64.wrap (T - 1) = T1 := by rw [hT1]; exact Hw.wrap_w (by omega) (by omega)
          have w2 : IntKind.i64.wrap (E - 1) = E1 := by rw [hE1]; exact Hw.wrap_w (by omega) (by omega)
          have d1 : decide (0 ≤ T1) = true := decide_eq_true (by omega)
          have d2 : decide (T1 < 1001) = true := decide_eq_true (by omega)
          have d3 : decide (0 ≤ E1) = true := decide_eq_true (by omega)
          have d4 : decide (E1 < 11) = true := decide_eq_true (by omega)
          have d5 : decide (0 ≤ T) = true := decide_eq_true (by omega)
          have d6 : decide (T < 1001) = true := decide_eq_true (by omega)
          have d7 : decide (0 ≤ E) = true := decide_eq_true (by omega)
          have d8 : decide (E < 11) = true := decide_eq_true (by omega)
          have e1 : 0 ≤ T1 := by omega
          have e2 : T1 < 1001 := by omega
          have e3 : 0 ≤ E1 := by omega
          have e4 : E1 < 11 := by omega
          have e5 : 0 ≤ T := by omega
          have e6 : T < 1001 := by omega
          have e7 : 0 ≤ E := by omega
          have e8 : E < 11 := by omega
          have n1 : Aside0 ((⟨w.heap.size, T.toNat * 11 + E.toNat, none⟩ : Addr) ≠ ⟨w.heap.size, T1.toNat * 11 + E1.toNat, none⟩) := ⟨fun h => by injection h; omega⟩
          have n2 : Aside0 ((⟨w.heap.size, T.toNat * 11 + E.toNat, none⟩ : Addr) ≠ ⟨w.heap.size, T1.toNat * 11 + E.toNat, none⟩) := ⟨fun h => by injection h; omega⟩
          have r1 := reachAt_lo t ee
          have r2 := reachAt_lo t (ee + 1)
          have r3 := reachAt_hi t ee
          have r4 := reachAt_hi t (ee + 1)
          obtain ⟨s1, hs1⟩ : ∃ s1 : Int, s1 = reachAt t ee + reachAt t (ee + 1) := ⟨_, rfl⟩
          obtain ⟨s2, hs2⟩ : ∃ s2 : Int, s2 = s1 + 1 := ⟨_, rfl⟩
          have w3 : IntKind.i64.wrap (reachAt t ee + reachAt t (ee + 1)) = s1 := by rw [hs1]; exact Hw.wrap_w (by omega) (by omega)
          have w4 : IntKind.i64.wrap (s1 + 1) = s2 := by rw [hs2]; exact Hw.wrap_w (by omega) (by omega)
          have A3 := Aside0.mk (And.intro hs1 hs2)
          clear hs1 hs2 r1 r2 r3 r4
          have A1 := Aside0.mk (And.intro hT1 (And.intro hE1 (And.intro ht he)))
          have A2 := Aside0.mk (And.intro hcs hR')
          clear hT1 hE1 hcs hR hR' hk hk2 hl hl2 ht he
          go_wp2
          go_region_held3 (fun w' => w'.cell? ⟨w.heap.size, T1.toNat * 11 + E1.toNat, none⟩ = some (.int .i64 (reachAt t ee)) ∧ w'.cell? ⟨w.heap.size, T1.toNat * 11 + E.toNat, none⟩ = some (.int .i64 (reachAt t (ee + 1)))) (first | exact ⟨g0, g1⟩ | exact ⟨(World.cell?_setCell_other _ _ _ _ n1.out).trans g0, (World.cell?_setCell_other _ _ _ _ n2.out).trans g1⟩) (fail)
          have w5 : IntKind.i64.wrap (E + 1) = E + 1 := Hw.wrap_w (by omega) (by omega)
          go_wp2
          all_goals
            go_roundg (10 - E).toNat
            case measure => have := HK2.out; omega
            case rel =>
              refine ⟨E + 1, rfl, ⟨by have := HK2.out; omega⟩, ⟨?_⟩, ⟨below_drew1 (below_set HB.out (Nat.le_refl _))⟩⟩
              obtain ⟨hcs, hR⟩ := A2.out
              obtain ⟨q1, q2, q3, q4⟩ := A1.out
              have q5 := A3.out
              refine ⟨_, blk_drew (blk_set hcs _ _), ?_⟩
              rw [show T.toNat = t + 1 by omega, show E.toNat = ee + 1 by omega, show (E + 1).toNat = ee + 2 by omega]
              refine cast (congrArg (fun z => RTab (cs.setIfInBounds ((t + 1) * 11 + (ee + 1)) (.int .i64 z)) (t + 1) (ee + 2)) ?_) (RTab_set hR (by omega) (by omega))
              omega
        · have h3 : decide (E ≤ 10) = false := decide_eq_false (by omega)
          have hE : E = 11 := by have := HK2.out; omega
          have w5 : IntKind.i64.wrap (T + 1) = T + 1 := Hw.wrap_w (by have := HK.out; omega) (by have := HL.out; omega)
          have HT2 : Aside0 (RchT wr w.heap.size (T + 1).toNat 1) := ⟨by
            obtain ⟨cs, hcs, hR⟩ := HT.out
            refine ⟨cs, hcs, ?_⟩
            rw [hE] at hR
            have := HK.out
            rw [show (T + 1).toNat = T.toNat + 1 by omega]
            exact RTab_row hR⟩
          clear hE HT hle
          go_wp2
          go_roundg (1000 - T).toNat
          case measure => have := HK.out; have := HL.out; omega
          case rel => exact ⟨T + 1, rfl, ⟨by have := HK.out; have := HL.out; omega⟩, HT2, HB⟩
    · have h2 : decide (T ≤ 1000) = false := decide_eq_false (by omega)
      have hT : T = 1001 := by have := HK.out; omega
      clear hlt
      go_wp2
      go_ret
      refine ⟨rfl, ?_, HB.out⟩
      have h_ := HT.out
      rw [hT] at h_
      exact h_


/-! ### impl_countBroken: function 107 -/
def impl_countBroken.l0 : Nat → Int → List (S121) → Int → Int → Option (Int)
  | 0, _, _, _, _ => none
  | k + 1, x3, x6, x7, x8 => if x8 < x7 then (if 0 ≤ x8 then (if x8 < (x6.length : Int) then (if (rd_T121 x6 x8).f1 = true then (impl_countBroken.l0 k (wrap64 (x3 + 1)) x6 x7 (wrap64 (x8 + 1))) else (impl_countBroken.l0 k x3 x6 x7 (wrap64 (x8 + 1)))) else (none)) else (none)) else (some x3)
def impl_countBroken.f (k : Nat) (l0 : List (S121)) : Option (Int) := impl_countBroken.l0 k 0 l0 (l0.length : Int) 0
theorem impl_countBroken.mono_l : ∀ k, (∀ y0 y1 y2 y3, LeO (impl_countBroken.l0 k y0 y1 y2 y3) (impl_countBroken.l0 (k + 1) y0 y1 y2 y3))
  | 0 => fun _ _ _ _ r h => by simp [impl_countBroken.l0] at h
  | k + 1 => by
    have ih0 := impl_countBroken.mono_l k
    · intro y0 y1 y2 y3
      unfold impl_countBroken.l0
      repeat' first
      | (with_reducible exact ih0 _ _ _ _)
      | (with_reducible exact LeO.refl _)
      | (with_reducible exact LeO.none _)
      | (with_reducible refine LeO.ite ?_ ?_)
      | (with_reducible refine LeO.bind ?_ (fun _ => ?_))
      | exact ih0 _ _ _ _
      | exact LeO.none _
      | refine LeO.ite ?_ ?_
      | refine LeO.bind ?_ (fun _ => ?_)
theorem impl_countBroken.mono : ∀ a0 k, LeO (impl_countBroken.f k a0) (impl_countBroken.f (k + 1) a0) := by
  intro a0 k
  have ih0 := impl_countBroken.mono_l k
  unfold impl_countBroken.f
  repeat' first
      | (with_reducible exact ih0 _ _ _ _)
      | (with_reducible exact LeO.refl _)
      | (with_reducible exact LeO.none _)
      | (with_reducible refine LeO.ite ?_ ?_)
      | (with_reducible refine LeO.bind ?_ (fun _ => ?_))
      | exact ih0 _ _ _ _
      | exact LeO.none _
      | refine LeO.ite ?_ ?_
      | refine LeO.bind ?_ (fun _ => ?_)
set_option maxHeartbeats 8000000 in
set_option maxRecDepth 100000 in
theorem impl_countBroken.calls (k : Nat) (A0 : Option Addr) (c0 : Nat) (l0 : List (S121)) (r : Int) (w : World) (hr0 : Kd.C k121 w A0 l0.length l0) (hc0 : l0.length ≤ c0) (h : impl_countBroken.f k l0 = some r) :
    Calls Try.prog 107 #[.slice A0 l0.length c0] w fun e w' => e = .returned (.int .i64 r) ∧ Below w.heap.size w w' := by
  have hu121 := Try.underlying121
  have HR0 := Aside0.mk hr0
  have HC0 := Aside0.mk hc0
  clear hr0 hc0
  have HB := Aside0.mk (Below.refl w.heap.size w)
  have H : (impl_countBroken.l0 k 0 l0 (l0.length : Int) 0) = some r := h
  clear h
  have H' := Aside0.mk H
  clear H
  go_enter Try.func107, Try.ntmps107
  go_wp2
  go_loopg [3, 8] k (fun kq v3 v8 w' => ∃ (x3_1 : Int) (x8_1 : Int), v3 = .int .i64 x3_1 ∧ v8 = .int .i64 x8_1 ∧ Aside0 (impl_countBroken.l0 kq x3_1 l0 (l0.length : Int) x8_1 = some r) ∧ Aside0 (kq ≤ k) ∧ Aside0 (Below w.heap.size w w'))
  case atStart => exact ⟨(0), (0), (by first | rfl | (simp; done) | (simp [*]; done)), (by first | rfl | (simp; done) | (simp [*]; done)), H', ⟨Nat.le_refl _⟩, ⟨by repeat (first | (with_reducible first | exact HB.out | apply below_alloc | apply pw_below_drewN | apply below_drew1) | exact HB.out)⟩⟩
  case round =>
    clear H'
    try clear c1
    obtain ⟨x3_1, x8_1, rfl, rfl, HA, HK1, HB⟩ := hrel
    cases gk with
    | zero => exact absurd HA.out (by simp [impl_countBroken.l0])
    | succ k1 =>
      have H := HA.out
      clear HA
      simp only [impl_countBroken.l0] at H
      by_cases c2 : x8_1 < (l0.length : Int)
      · rw [if_pos c2] at H
        have c2b0 : decide (x8_1 < (l0.length : Int)) = true := decide_eq_true c2
        clear c2
        by_cases c3 : 0 ≤ x8_1
        · rw [if_pos c3] at H
          have c3b0 : decide (0 ≤ x8_1) = true := decide_eq_true c3
          clear c3
          by_cases c4 : x8_1 < (l0.length : Int)
          · rw [if_pos c4] at H
            have c4b0 : decide (x8_1 < (l0.length : Int)) = true := decide_eq_true c4
            clear c4
            obtain ⟨bq5, hbq5⟩ : ∃ b_ : Bool, b_ = ((rd_T121 l0 x8_1).f1) := ⟨_, rfl⟩
            replace H : (if bq5 = true then (impl_countBroken.l0 k1 (wrap64 (x3_1 + 1)) l0 (l0.length : Int) (wrap64 (x8_1 + 1))) else (impl_countBroken.l0 k1 x3_1 l0 (l0.length : Int) (wrap64 (x8_1 + 1)))) = some r := by rw [← hbq5] at H; exact H
            have Nbq5 := Aside0.mk hbq5
            clear hbq5
            by_cases c6 : bq5 = true
            · subst c6
              have H1 : (impl_countBroken.l0 k1 (wrap64 (x3_1 + 1)) l0 (l0.length : Int) (wrap64 (x8_1 + 1))) = some r := by rw [if_pos rfl] at H; exact H
              clear H
              have H := H1
              clear H1
              have H' := Aside0.mk H
              clear H
              have p235 : 0 ≤ (x8_1 : Int) := of_decide_eq_true (by first | (with_reducible assumption) | assumption)
              have q235 : x8_1 < (l0.length : Int) := of_decide_eq_true (by first | (with_reducible assumption) | assumption)
              obtain ⟨ad235, e235, hx235_0, hx235_1⟩ := at_T121 HR0.out x8_1 p235 q235
              (try rw [← Nbq5.out] at hx235_1)
              cases e235
              replace hx235_0 := (HB.out.cell (World.block_lt_of_cell? w _ hx235_0)).trans hx235_0
              replace hx235_1 := (HB.out.cell (World.block_lt_of_cell? w _ hx235_1)).trans hx235_1
              replace p235 := eq_true p235
              replace q235 := eq_true q235
              go_wp2_with (first | ((with_reducible refine gate_dst (N := 5) rfl ?_); refine box_event ?hg (N := 5) ?hd (cs := #[.int .i64 0, .bool false]) (t := 121) ?hr ?_; (case hd => rfl); (case hg => rfl); (case hr => first | (go_simp; done) | (go_simp; rfl)); intro gb236 hg w7 hbox hb; have n0_ := Aside0.mk (below_step (by repeat (first | (with_reducible first | exact HB.out | apply below_alloc | apply pw_below_drewN | apply below_drew1) | exact HB.out)) hb); have n1_ := Aside0.mk (hbox); have n2_ := Aside0.mk ((by rw [hg]; exact (below_size (by repeat (first | (with_reducible first | exact HB.out | apply below_alloc | apply pw_below_drewN | apply below_drew1) | exact HB.out))) : w.heap.size ≤ gb236)); have n3_ := Aside0.mk ((by rw [hg]; exact (below_size (by repeat (first | (with_reducible first | exact HB.out | apply below_alloc | apply pw_below_drewN | apply below_drew1) | exact HB.out))) : w.heap.size ≤ gb236)); clear HB; have HB := n0_; have BK236 := n1_; have GW236 := n2_; have GE236 := n3_; clear n0_ n1_ n2_ n3_; clear hb hbox hg; have hcz8_0 : w7.cell? ⟨gb236, 0, none⟩ = some (.int .i64 0) := (blk_cell BK236.out 0).trans rfl; have hcz8_1 : w7.cell? ⟨gb236, 1, none⟩ = some (.bool false) := (blk_cell BK236.out 1).trans rfl; have hfz8_0 := blk_frozen BK236.out 0; have hfz8_1 := blk_frozen BK236.out 1))
              go_roundg k1
              case measure => have := HK1.out; omega
              case rel => exact ⟨(wrap64 (x3_1 + 1)), (wrap64 (x8_1 + 1)), (by first | rfl | (simp; done) | (simp [*]; done)), (by first | rfl | (simp; done) | (simp [*]; done)), H', ⟨by have := HK1.out; omega⟩, ⟨by repeat (first | (with_reducible first | exact HB.out | apply below_alloc | apply pw_below_drewN | apply below_drew1 | refine below_set ?_ GE236.out) | exact HB.out)⟩⟩
            · replace c6 := Bool.eq_false_iff.mpr c6
              subst c6
              have H1 : (impl_countBroken.l0 k1 x3_1 l0 (l0.length : Int) (wrap64 (x8_1 + 1))) = some r := by rw [if_neg (show ¬ (false = true) by decide)] at H; exact H
              clear H
              have H := H1
              clear H1
              have H' := Aside0.mk H
              clear H
              have p235 : 0 ≤ (x8_1 : Int) := of_decide_eq_true (by first | (with_reducible assumption) | assumption)
              have q235 : x8_1 < (l0.length : Int) := of_decide_eq_true (by first | (with_reducible assumption) | assumption)
              obtain ⟨ad235, e235, hx235_0, hx235_1⟩ := at_T121 HR0.out x8_1 p235 q235
              (try rw [← Nbq5.out] at hx235_1)
              cases e235
              replace hx235_0 := (HB.out.cell (World.block_lt_of_cell? w _ hx235_0)).trans hx235_0
              replace hx235_1 := (HB.out.cell (World.block_lt_of_cell? w _ hx235_1)).trans hx235_1
              replace p235 := eq_true p235
              replace q235 := eq_true q235
              go_wp2_with (first | ((with_reducible refine gate_dst (N := 5) rfl ?_); refine box_event ?hg (N := 5) ?hd (cs := #[.int .i64 0, .bool false]) (t := 121) ?hr ?_; (case hd => rfl); (case hg => rfl); (case hr => first | (go_simp; done) | (go_simp; rfl)); intro gb236 hg w9 hbox hb; have n0_ := Aside0.mk (below_step (by repeat (first | (with_reducible first | exact HB.out | apply below_alloc | apply pw_below_drewN | apply below_drew1) | exact HB.out)) hb); have n1_ := Aside0.mk (hbox); have n2_ := Aside0.mk ((by rw [hg]; exact (below_size (by repeat (first | (with_reducible first | exact HB.out | apply below_alloc | apply pw_below_drewN | apply below_drew1) | exact HB.out))) : w.heap.size ≤ gb236)); have n3_ := Aside0.mk ((by rw [hg]; exact (below_size (by repeat (first | (with_reducible first | exact HB.out | apply below_alloc | apply pw_below_drewN | apply below_drew1) | exact HB.out))) : w.heap.size ≤ gb236)); clear HB; have HB := n0_; have BK236 := n1_; have GW236 := n2_; have GE236 := n3_; clear n0_ n1_ n2_ n3_; clear hb hbox hg; have hcz10_0 : w9.cell? ⟨gb236, 0, none⟩ = some (.int .i64 0) := (blk_cell BK236.out 0).trans rfl; have hcz10_1 : w9.cell? ⟨gb236, 1, none⟩ = some (.bool false) := (blk_cell BK236.out 1).trans rfl; have hfz10_0 := blk_frozen BK236.out 0; have hfz10_1 := blk_frozen BK236.out 1))
              go_roundg k1
              case measure => have := HK1.out; omega
              case rel => exact ⟨(x3_1), (wrap64 (x8_1 + 1)), (by first | rfl | (simp; done) | (simp [*]; done)), (by first | rfl | (simp; done) | (simp [*]; done)), H', ⟨by have := HK1.out; omega⟩, ⟨by repeat (first | (with_reducible first | exact HB.out | apply below_alloc | apply pw_below_drewN | apply below_drew1 | refine below_set ?_ GE236.out) | exact HB.out)⟩⟩
          · rw [if_neg c4] at H
            exact absurd H (by simp)
        · rw [if_neg c3] at H
          exact absurd H (by simp)
      · rw [if_neg c2] at H
        have c2b0 : decide (x8_1 < (l0.length : Int)) = false := decide_eq_false c2
        clear c2
        obtain rfl := Option.some.inj H
        go_wp2
        go_ret
        exact ⟨by first | rfl | (simp [errW_none, errW_some] <;> rfl) | (simp [*, errW_none, errW_some] <;> rfl), by repeat (first | (with_reducible first | exact HB.out | apply below_alloc | apply pw_below_drewN | apply below_drew1) | exact HB.out)⟩

-- FOR (*impl.reaches).fewest
-- CALLS impl.newReaches
theorem reachAt_le_succ (t e : Nat) : reachAt t e ≤ reachAt (t + 1) e := by
  cases e with
  | zero => cases t <;> simp [reachAt]
  | succ e => have := reachAt_lo t e; have := reachAt_hi t (e + 1); rw [reachAt.eq_3]; omega
theorem reachAt_mono (e : Nat) {t t' : Nat} (h : t ≤ t') : reachAt t e ≤ reachAt t' e := by
  induction t' with
  | zero => rw [show t = 0 by omega]; exact Int.le_refl _
  | succ n ih =>
    rcases Nat.lt_or_ge n t with h1 | h1
    · rw [show t = n + 1 by omega]; exact Int.le_refl _
    · exact Int.le_trans (ih h1) (reachAt_le_succ n e)
def fewFrom (e : Nat) (fl : Int) : Nat → Nat → Nat
  | t, 0 => t
  | t, n + 1 => if fl ≤ reachAt t e then t else fewFrom e fl (t + 1) n
def few (e : Nat) (fl : Int) : Nat := fewFrom e fl 0 1000
theorem fewFrom_is (e : Nat) (fl : Int) (r : Nat) (n t : Nat) (h1 : t ≤ r) (h2 : r ≤ t + n) (h3 : ∀ s, s < r → reachAt s e < fl) (h4 : r = t + n ∨ fl ≤ reachAt r e) : fewFrom e fl t n = r := by
  induction n generalizing t with
  | zero => unfold fewFrom; omega
  | succ n ih =>
    unfold fewFrom
    split
    · rename_i h5
      rcases Nat.lt_or_ge t r with h6 | h6
      · have := h3 t h6; omega
      · omega
    · rename_i h5
      have : t ≠ r := by
        intro h6; subst h6
        rcases h4 with h4 | h4
        · omega
        · exact h5 h4
      exact ih (t + 1) (by omega) (by omega) (by rcases h4 with h4 | h4; exact .inl (by omega); exact .inr h4)
theorem few_is (e : Nat) (fl : Int) (r : Nat) (h2 : r ≤ 1000) (h3 : ∀ s, s < r → reachAt s e < fl) (h4 : r = 1000 ∨ fl ≤ reachAt r e) : few e fl = r :=
  fewFrom_is e fl r 1000 0 (by omega) (by omega) h3 (by rcases h4 with h4 | h4; exact .inl (by omega); exact .inr h4)
theorem size11 : ∀ w, Sem.run Try.prog (sizeOf 113) w = .ok 11 w := by
  have h13 : (Try.prog.info? 113).map (fun i => (i.zero, i.size)) = some (some (.agg (Array.replicate 11 (.int .i64 0))), 11) := by kernel_rfl
  intro w
  obtain ⟨_, h_⟩ := zero_of_info h13
  cases hq : Try.prog.info? 113 with
  | none => simp [hq] at h_
  | some i =>
    have h2_ : i.size = 11 := by simpa [hq] using h_
    simp [sizeOf, typeInfo, hq, h2_]
theorem Rch_cell {w : World} {b : Nat} (h : Rch w b) (t e : Int) (h1 : t < 1001) (h2 : e < 11) : w.cell? ⟨b, t.toNat * 11 + e.toNat, none⟩ = some (.int .i64 (reachAt t.toNat e.toNat)) := by
  obtain ⟨cs, hcs, hR⟩ := h
  exact (blk_cell hcs _).trans (RTab_get hR t.toNat e.toNat (by omega) (by omega) (by omega))
set_option maxHeartbeats 8000000 in
set_option maxRecDepth 1000000 in
theorem fewest.calls (w : World) (b : Nat) (e fl : Int) (hR : Rch w b) (he0 : 0 ≤ e) (he1 : e ≤ 10) :
    Calls Try.prog 127 #[.pointer (some ⟨b, 0, none⟩), .int .i64 e, .int .i64 fl] w fun en w' => en = .returned (.int .i64 (few e.toNat fl : Nat)) ∧ w' = w := by
  have zs := size11
  have HR := Aside0.mk hR
  have HE := Aside0.mk (And.intro he0 he1)
  have k1 : 0 ≤ e := he0
  have k2 : e < 11 := by omega
  clear hR he0 he1
  go_enter Try.func127, Try.ntmps127
  go_wp2
  go_loopg [7, 8] 1000 (fun n v7 v8 w' => ∃ lo hi : Int, v7 = .int .i64 lo ∧ v8 = .int .i64 hi ∧ w' = w ∧ Aside0 (0 ≤ lo ∧ lo ≤ hi ∧ hi ≤ 1000 ∧ hi - lo = n) ∧ Aside0 ((∀ s : Nat, s < lo.toNat → reachAt s e.toNat < fl) ∧ (hi = 1000 ∨ fl ≤ reachAt hi.toNat e.toNat)))
  case atStart => exact ⟨0, 1000, rfl, rfl, rfl, ⟨by omega⟩, ⟨fun s hs => absurd hs (by simp), .inl rfl⟩⟩
  case round =>
    obtain ⟨lo, hi, rfl, rfl, rfl, HK, HI⟩ := hrel
    by_cases hlt : lo < hi
    · have d1 : decide (lo < hi) = true := decide_eq_true hlt
      obtain ⟨sm, hsm⟩ : ∃ sm : Int, sm = lo + hi := ⟨_, rfl⟩
      obtain ⟨m, hm⟩ : ∃ m : Int, m = sm.tdiv 2 := ⟨_, rfl⟩
      have hm' : m = sm / 2 := by rw [hm]; exact Int.tdiv_eq_ediv_of_nonneg (by have := HK.out; omega)
      have w1 : IntKind.i64.wrap (lo + hi) = sm := by rw [hsm]; exact Hw.wrap_w (by have := HK.out; omega) (by have := HK.out; omega)
      have w2 : IntKind.i64.wrap (sm.tdiv 2) = m := by rw [← hm]; exact Hw.wrap_w (by have := HK.out; omega) (by have := HK.out; omega)
      have k3 : 0 ≤ m := by have := HK.out; omega
      have k4 : m < 1001 := by have := HK.out; omega
      have g0 := Rch_cell HR.out m e k4 k2
      have HM := Aside0.mk (And.intro hsm (And.intro hm' hlt))
      clear hsm hm hm' hlt
      by_cases hc : fl ≤ reachAt m.toNat e.toNat
      · have d2 : decide (fl ≤ reachAt m.toNat e.toNat) = true := decide_eq_true hc
        have HC := Aside0.mk hc
        clear hc
        go_wp2
        go_roundg (m - lo).toNat
        case measure => have := HK.out; have := HM.out; omega
        case rel => exact ⟨lo, m, rfl, rfl, rfl, ⟨by have := HK.out; have := HM.out; omega⟩, ⟨HI.out.1, .inr HC.out⟩⟩
      · have d2 : decide (fl ≤ reachAt m.toNat e.toNat) = false := decide_eq_false hc
        have HC := Aside0.mk hc
        have w3 : IntKind.i64.wrap (m + 1) = m + 1 := Hw.wrap_w (by omega) (by omega)
        clear hc
        go_wp2
        go_roundg (hi - (m + 1)).toNat
        case measure => have := HK.out; have := HM.out; omega
        case rel => exact ⟨m + 1, hi, rfl, rfl, rfl, ⟨by have := HK.out; have := HM.out; omega⟩, ⟨fun s hs => Int.lt_of_le_of_lt (reachAt_mono e.toNat (show s ≤ m.toNat by omega)) (by have := HC.out; omega), HI.out.2⟩⟩
    · have d1 : decide (lo < hi) = false := decide_eq_false hlt
      have HS : Aside0 (few e.toNat fl = lo.toNat) := ⟨few_is _ _ _ (by have := HK.out; omega) HI.out.1 (by have := HK.out; have := HI.out.2; have h_ : lo = hi := by omega
                                                                                                            rw [h_]; rcases this with h | h; exact .inl (by omega); exact .inr h)⟩
      have HLo := Aside0.mk hlt
      clear hlt
      go_wp2
      go_ret
      exact ⟨by rw [HS.out]; have := HK.out; exact congrArg (fun z => Ending.returned (.int .i64 z)) (by omega), rfl⟩


-- FOR (*impl.reaches).best
-- CALLS (*impl.reaches).fewest
def bestF (e : Nat) (fl : Int) : Int := max 1 (fl - reachAt (few e fl - 1) e)
theorem fewFrom_lo (e : Nat) (fl : Int) (n t : Nat) : t ≤ fewFrom e fl t n := by
  induction n generalizing t with
  | zero => exact Nat.le_refl _
  | succ n ih => unfold fewFrom; split; exact Nat.le_refl _; have := ih (t + 1); omega
theorem fewFrom_hi (e : Nat) (fl : Int) (n t : Nat) : fewFrom e fl t n ≤ t + n := by
  induction n generalizing t with
  | zero => exact Nat.le_refl _
  | succ n ih => unfold fewFrom; split; omega; have := ih (t + 1); omega
theorem few_hi (e : Nat) (fl : Int) : few e fl ≤ 1000 := by have := fewFrom_hi e fl 1000 0; unfold few; omega
theorem few_pos (e : Nat) (fl : Int) (h : 0 < fl) : 1 ≤ few e fl := by
  unfold few fewFrom
  rw [if_neg (by simp [reachAt]; omega)]
  exact fewFrom_lo _ _ _ _
set_option maxHeartbeats 8000000 in
set_option maxRecDepth 1000000 in
theorem best.calls (w : World) (b : Nat) (e fl : Int) (hR : Rch w b) (he0 : 0 ≤ e) (he1 : e ≤ 10) (hf0 : 0 < fl) (hf1 : fl ≤ 1000) :
    Calls Try.prog 119 #[.pointer (some ⟨b, 0, none⟩), .int .i64 e, .int .i64 fl] w fun en w' => en = .returned (.int .i64 (bestF e.toNat fl)) ∧ w' = w.drew := by
  have zs := size11
  have HF := Aside0.mk (fun (W : World) (h_ : Rch W b) => fewest.calls W b e fl h_ he0 he1)
  have HR := Aside0.mk hR
  have h1 := few_pos e.toNat fl hf0
  have h2 := few_hi e.toNat fl
  obtain ⟨n, hn⟩ : ∃ n : Int, n = (few e.toNat fl : Int) := ⟨_, rfl⟩
  obtain ⟨m, hm⟩ : ∃ m : Int, m = n - 1 := ⟨_, rfl⟩
  have hn' := hn.symm
  have w1 : IntKind.i64.wrap (n - 1) = m := by rw [hm]; exact Hw.wrap_w (by omega) (by omega)
  have k1 : 0 ≤ e := he0
  have k2 : e < 11 := by omega
  have k3 : 0 ≤ m := by omega
  have k4 : m < 1001 := by omega
  have g0 := Rch_cell hR m e k4 k2
  have r1 := reachAt_lo m.toNat e.toNat
  have r2 := reachAt_hi m.toNat e.toNat
  obtain ⟨d, hd⟩ : ∃ d : Int, d = fl - reachAt m.toNat e.toNat := ⟨_, rfl⟩
  have w2 : IntKind.i64.wrap (fl - reachAt m.toNat e.toNat) = d := by rw [hd]; exact Hw.wrap_w (by omega) (by omega)
  have HB : Aside0 (bestF e.toNat fl = max 1 d) := ⟨by unfold bestF; rw [hd, show few e.toNat fl - 1 = m.toNat by omega]⟩
  clear h1 h2 hn hR hm r1 r2 hd hf0 hf1 he0 he1
  go_enter Try.func119, Try.ntmps119
  go_wp2
  go_region_held3 (fun w' => w'.cell? ⟨b, m.toNat * 11 + e.toNat, none⟩ = some (.int .i64 (reachAt m.toNat e.toNat))) (exact g0) (first | (go_at_call 127; refine (HF.out _ (show Rch w.drew b from HR.out)).mono ?_; rintro en w1 ⟨rfl, rfl⟩))
  all_goals go_wp2
  all_goals
    go_ret
    exact ⟨by rw [HB.out]; exact congrArg (fun z => Ending.returned (.int .i64 z)) (by omega), rfl⟩


-- FOR impl.play
-- CALLS (*impl.reaches).best ; impl.countBroken
def playL (br : Int) : Nat → Int → Int → Int → List S121
  | 0, _, _, _ => []
  | n + 1, e, lo, fl => if 0 < fl then ⟨lo + bestF e.toNat fl, decide (br < lo + bestF e.toNat fl)⟩ :: (if br < lo + bestF e.toNat fl then playL br n (e - 1) lo (bestF e.toNat fl - 1) else playL br n e (lo + bestF e.toNat fl) (fl - bestF e.toNat fl)) else []
theorem playL_done (br : Int) (n : Nat) (e lo fl : Int) (h : ¬ 0 < fl) : playL br n e lo fl = [] := by
  cases n with
  | zero => rfl
  | succ n => exact if_neg h
theorem bestF_lo (e : Nat) (fl : Int) : 1 ≤ bestF e fl := by unfold bestF; omega
theorem bestF_hi (e : Nat) (fl : Int) (h : 0 < fl) : bestF e fl ≤ fl := by have := reachAt_lo (few e fl - 1) e; unfold bestF; omega
theorem reachAt_one (t : Nat) (h : t ≤ 1000) : reachAt t 1 = t := by
  induction t with
  | zero => rfl
  | succ t ih =>
    have h1 := ih (by omega)
    have h0 : reachAt t 0 = 0 := by cases t <;> simp [reachAt]
    rw [reachAt.eq_3, h0, h1]; omega
theorem bestF_one (fl : Int) (h0 : 0 < fl) (h1 : fl ≤ 1000) : bestF 1 fl = 1 := by
  have h2 : few 1 fl = fl.toNat := few_is 1 fl fl.toNat (by omega) (fun s hs => by rw [reachAt_one s (by omega)]; omega) (.inr (by rw [reachAt_one _ (by omega)]; omega))
  unfold bestF
  rw [h2, reachAt_one _ (by omega)]
  omega
set_option maxHeartbeats 8000000 in
set_option maxRecDepth 1000000 in
theorem play.calls (w : World) (b : Nat) (e0 fl0 br : Int) (hR : Rch w b) (he0 : 1 ≤ e0) (he1 : e0 ≤ 10) (hf0 : 0 ≤ fl0) (hf1 : fl0 ≤ 1000) :
    Calls Try.prog 118 #[.int .i64 e0, .int .i64 fl0, .int .i64 br, .func (.func 119) #[.pointer (some ⟨b, 0, none⟩)] #[]] w fun e w' => ∃ v0_ : Value, e = .returned (v0_) ∧ Kd.R k121 121 w' w.heap.size (fun _ => True) v0_ (playL br fl0.toNat e0 0 fl0) ∧ Below w.heap.size w w' := by
  have hu := Try.underlying121
  have HR := Aside0.mk hR
  have HE := Aside0.mk (And.intro (And.intro he0 he1) (And.intro hf0 hf1))
  clear hR he0 he1 hf0 hf1
  go_enter Try.func118, Try.ntmps118
  go_wp2
  go_loopg [0, 1, 9, 10] fl0.toNat (fun n v0 v1 v9 v10 w' => ∃ (e fl lo : Int) (xs : List S121), v0 = .int .i64 e ∧ v1 = .int .i64 fl ∧ v10 = .int .i64 lo ∧ Aside0 (0 ≤ lo ∧ 0 ≤ fl ∧ lo + fl ≤ 1000 ∧ 0 ≤ e ∧ e ≤ 10 ∧ (0 < fl → 1 ≤ e) ∧ fl ≤ n ∧ xs.length + n ≤ 1000) ∧ Aside0 (xs ++ playL br n e lo fl = playL br fl0.toNat e0 0 fl0) ∧ Aside0 (Kd.R k121 121 w' w.heap.size (fun _ => True) v9 xs) ∧ Aside0 (Below w.heap.size w w'))
  case atStart => exact ⟨e0, fl0, 0, [], rfl, rfl, rfl, ⟨by have := HE.out; simp; omega⟩, ⟨rfl⟩, ⟨Hw.R_empty _ _ _ _ _ (Nat.le_refl _) trivial⟩, ⟨by repeat (first | exact Below.refl _ _ | apply below_alloc | apply below_drew1)⟩⟩
  case round =>
    obtain ⟨e, fl, lo, xs, rfl, rfl, rfl, HK, HL, HO, HB⟩ := hrel
    by_cases hlt : 0 < fl
    · have d1 : decide (0 < fl) = true := decide_eq_true hlt
      obtain ⟨k1, rfl⟩ : ∃ k1, gk = k1 + 1 := ⟨gk - 1, by have := HK.out; omega⟩
      obtain ⟨f, hf⟩ : ∃ f : Int, bestF e.toNat fl = f := ⟨_, rfl⟩
      have hf1 : 1 ≤ f := by rw [← hf]; exact bestF_lo _ _
      have hf2 : f ≤ fl := by rw [← hf]; exact bestF_hi _ _ hlt
      have hf3 : e = 1 → f = 1 := by intro h_; rw [← hf, h_]; exact bestF_one fl hlt (by have := HK.out; omega)
      obtain ⟨s, hs⟩ : ∃ s : Int, s = lo + f := ⟨_, rfl⟩
      have w1 : IntKind.i64.wrap (lo + f) = s := by rw [hs]; exact Hw.wrap_w (by have := HK.out; omega) (by have := HK.out; omega)
      obtain ⟨y, hy⟩ : ∃ y : List S121, y = xs ++ [⟨s, decide (br < s)⟩] := ⟨_, rfl⟩
      have HBe : Aside0 (∀ W, Below w.heap.size w W → Calls Try.prog 119 (#[.pointer (some ⟨b, 0, none⟩)] ++ #[.int .i64 e, .int .i64 fl]) W fun en w' => en = .returned (.int .i64 f) ∧ w' = W.drew) := ⟨fun W hW => by rw [← hf]; exact best.calls W b e fl (by obtain ⟨cs, h1, h2⟩ := HR.out; exact ⟨cs, blk_below h1 hW, h2⟩) (by have := HK.out; omega) (by have := HK.out; omega) hlt (by have := HK.out; omega)⟩
      have HL2 : Aside0 (y ++ (if br < s then playL br k1 (e - 1) lo (f - 1) else playL br k1 e s (fl - f)) = playL br fl0.toNat e0 0 fl0) := ⟨by have h_ := HL.out; rw [playL, if_pos hlt, hf, ← hs] at h_; rw [hy, ← h_]; simp⟩
      have HF := Aside0.mk (And.intro hf1 (And.intro hf2 (And.intro hf3 (And.intro hs hlt))))
      have Ny := Aside0.mk hy
      clear hf hf1 hf2 hf3 hs hy hlt HL
      by_cases hc : br < s
      · have d2 : decide (br < s) = true := decide_eq_true hc
        rw [if_pos hc] at HL2
        rw [d2] at Ny
        have HC := Aside0.mk hc
        have w2 : IntKind.i64.wrap (e - 1) = e - 1 := Hw.wrap_w (by have := HK.out; omega) (by have := HK.out; omega)
        have w3 : IntKind.i64.wrap (f - 1) = f - 1 := Hw.wrap_w (by have := HF.out; have := HK.out; omega) (by have := HF.out; have := HK.out; omega)
        clear hc
        go_wp2_with (first | ((with_reducible refine Hw.gateV (t := 16) rfl ?_); go_loud (refine Hw.goesM (some 19) rfl rfl Try.func119 (by kernel_rfl) rfl #[.int .i64 e, .int .i64 fl] rfl rfl (by simp only [List.map_toArray, List.map_cons, List.map_nil]; rfl) ?_); (refine (HBe.out _ HB.out).mono ?_); rintro en w1 ⟨rfl, hw⟩; have hb : Below w.heap.size w w1 := (by rw [hw]; exact below_drew1 HB.out); have ho : Kd.R k121 121 w1 w.heap.size (fun _ => True) u9 xs := (by rw [hw]; exact Kd.R_drew HO.out); clear hw HB HO; have HB := Aside0.mk hb; have HO := Aside0.mk ho; clear hb ho; refine ⟨_, rfl, ?_⟩) | ((with_reducible refine gate_builtin (b := .append) (xs := #[.tmp 25, .tmp 31]) rfl ?_); at_builtin; refine Kd.R_append k121 (w0 := w) w.heap.size rfl (.tmp 25) (.tmp 31) 105 121 (.agg #[(.int .i64 0), (.bool false)]) 16 rfl Try.underlying105 info121 rfl (by decide) (by omega) u9 xs (⟨s, true⟩ : S121) [.int .i64 s, .bool true] (fun _ => True) (fun _ => False) rfl rfl ?aP (fun _ hk => hk.elim) ?aF ?aO ?aB ?aS ?aL ?_; (case aP => exact k121_mkM _ _ _ (⟨s, true⟩ : S121)); (case aB => exact (by repeat (first | (with_reducible first | exact HB.out | apply below_alloc | apply pw_below_drewN | apply below_drew1) | exact HB.out))); (case aF => exact (fun _ _ => trivial)); (case aO => exact (by (with_reducible repeat (first | apply Kd.R_alloc | apply Kd.R_drewN | apply Kd.R_drew)); exact HO.out)); (case aS => exact (below_size (by repeat (first | (with_reducible first | exact HB.out | apply below_alloc | apply pw_below_drewN | apply below_drew1) | exact HB.out)))); (case aL => have := HK.out; omega); intro v2 w2 ho hb hg hat; rw [← Ny.out] at ho; clear HB HO; have HB := Aside0.mk hb; have HO := Aside0.mk ho; clear ho hb hg hat))
        go_roundg k1
        case measure => omega
        case rel => exact ⟨e - 1, f - 1, lo, y, rfl, rfl, rfl, ⟨by have := HK.out; have := HF.out; have h_ : y.length = xs.length + 1 := (by rw [Ny.out]; simp); omega⟩, HL2, ⟨HO.out⟩, ⟨HB.out⟩⟩
      · have d2 : decide (br < s) = false := decide_eq_false hc
        rw [if_neg hc] at HL2
        rw [d2] at Ny
        have HC := Aside0.mk hc
        have w2 : IntKind.i64.wrap (fl - f) = fl - f := Hw.wrap_w (by have := HF.out; have := HK.out; omega) (by have := HF.out; have := HK.out; omega)
        clear hc
        go_wp2_with (first | ((with_reducible refine Hw.gateV (t := 16) rfl ?_); go_loud (refine Hw.goesM (some 19) rfl rfl Try.func119 (by kernel_rfl) rfl #[.int .i64 e, .int .i64 fl] rfl rfl (by simp only [List.map_toArray, List.map_cons, List.map_nil]; rfl) ?_); (refine (HBe.out _ HB.out).mono ?_); rintro en w1 ⟨rfl, hw⟩; have hb : Below w.heap.size w w1 := (by rw [hw]; exact below_drew1 HB.out); have ho : Kd.R k121 121 w1 w.heap.size (fun _ => True) u9 xs := (by rw [hw]; exact Kd.R_drew HO.out); clear hw HB HO; have HB := Aside0.mk hb; have HO := Aside0.mk ho; clear hb ho; refine ⟨_, rfl, ?_⟩) | ((with_reducible refine gate_builtin (b := .append) (xs := #[.tmp 25, .tmp 31]) rfl ?_); at_builtin; refine Kd.R_append k121 (w0 := w) w.heap.size rfl (.tmp 25) (.tmp 31) 105 121 (.agg #[(.int .i64 0), (.bool false)]) 16 rfl Try.underlying105 info121 rfl (by decide) (by omega) u9 xs (⟨s, false⟩ : S121) [.int .i64 s, .bool false] (fun _ => True) (fun _ => False) rfl rfl ?aP (fun _ hk => hk.elim) ?aF ?aO ?aB ?aS ?aL ?_; (case aP => exact k121_mkM _ _ _ (⟨s, false⟩ : S121)); (case aB => exact (by repeat (first | (with_reducible first | exact HB.out | apply below_alloc | apply pw_below_drewN | apply below_drew1) | exact HB.out))); (case aF => exact (fun _ _ => trivial)); (case aO => exact (by (with_reducible repeat (first | apply Kd.R_alloc | apply Kd.R_drewN | apply Kd.R_drew)); exact HO.out)); (case aS => exact (below_size (by repeat (first | (with_reducible first | exact HB.out | apply below_alloc | apply pw_below_drewN | apply below_drew1) | exact HB.out)))); (case aL => have := HK.out; omega); intro v2 w2 ho hb hg hat; rw [← Ny.out] at ho; clear HB HO; have HB := Aside0.mk hb; have HO := Aside0.mk ho; clear ho hb hg hat))
        go_roundg k1
        case measure => omega
        case rel => exact ⟨e, fl - f, s, y, rfl, rfl, rfl, ⟨by have := HK.out; have := HF.out; have h_ : y.length = xs.length + 1 := (by rw [Ny.out]; simp); omega⟩, HL2, ⟨HO.out⟩, ⟨HB.out⟩⟩
    · have d1 : decide (0 < fl) = false := decide_eq_false hlt
      have HL2 : Aside0 (xs = playL br fl0.toNat e0 0 fl0) := ⟨by rw [← HL.out, playL_done _ _ _ _ _ hlt]; simp⟩
      clear hlt
      go_wp2
      go_ret
      exact ⟨_, rfl, by rw [← HL2.out]; exact HO.out, HB.out⟩


-- FOR (*impl.reaches).asHas
-- CALLS impl.play ; impl.countBroken ; impl.IsClue ; impl.IsPuzzle
def brokenN (l : List S121) : Nat := (l.filter (fun d => d.f1)).length
theorem brokenN_cons (d : S121) (l : List S121) : brokenN (d :: l) = (if d.f1 then 1 else 0) + brokenN l := by
  unfold brokenN
  rw [List.filter_cons]
  split <;> simp [*] <;> omega
theorem brokenN_le (l : List S121) : brokenN l ≤ l.length := List.length_filter_le _ _
theorem countBroken_l (l : List S121) (hl : l.length ≤ 1000000) (n i : Nat) (x : Int) (hi : i + n = l.length) (hx0 : 0 ≤ x) (hx1 : x + n ≤ 1000000) : impl_countBroken.l0 (n + 1) x l (l.length : Int) (i : Int) = some (x + brokenN (l.drop i)) := by
  induction n generalizing i x with
  | zero =>
    rw [impl_countBroken.l0, if_neg (by omega), List.drop_of_length_le (by omega)]
    simp [brokenN]
  | succ n ih =>
    have hlt : i < l.length := by omega
    have hr : rd_T121 l (i : Int) = l[i] := by simp [rd_T121, hlt]
    rw [impl_countBroken.l0, if_pos (by omega), if_pos (by omega), if_pos (by omega), hr, List.drop_eq_getElem_cons hlt, brokenN_cons, Hw.wrap_id (by omega) (by omega), Hw.wrap_id (by omega) (by omega)]
    have h1 := ih (i + 1) (x + 1) (by omega) (by omega) (by omega)
    have h2 := ih (i + 1) x (by omega) (by omega) (by omega)
    simp only [Int.natCast_add, Int.natCast_one] at h1 h2
    split
    · rename_i h; rw [h1]; congr 1; simp [h]; omega
    · rename_i h; rw [h2]; congr 1; simp [h]
theorem countBroken_some (l : List S121) (hl : l.length ≤ 1000000) : impl_countBroken.f (l.length + 1) l = some (brokenN l : Int) := by
  have := countBroken_l l hl l.length 0 0 (by omega) (by omega) (by omega)
  simpa [impl_countBroken.f] using this
theorem playL_len (br : Int) (n : Nat) (e lo fl : Int) : (playL br n e lo fl).length ≤ n := by
  induction n generalizing e lo fl with
  | zero => exact Nat.le_refl _
  | succ n ih =>
    unfold playL
    split
    · rw [List.length_cons]
      split
      · exact Nat.succ_le_succ (ih _ _ _)
      · exact Nat.succ_le_succ (ih _ _ _)
    · exact Nat.zero_le _
def asHasV (fl k a br : Int) : Int := if k = 0 then (if br < a then 1 else 0) else if k = 1 then br.tmod a else if k = 2 then (playL br fl.toNat a 0 fl).length else if k = 3 then brokenN (playL br fl.toNat a 0 fl) else max (br - a) (a - br)
def okA (fl k a : Int) : Prop := 0 ≤ k ∧ k ≤ 4 ∧ (k = 1 → 2 ≤ a) ∧ (k = 2 ∨ k = 3 → 1 ≤ a ∧ a ≤ 10) ∧ (k = 4 → 0 ≤ a ∧ a ≤ fl)
set_option maxHeartbeats 8000000 in
set_option maxRecDepth 1000000 in
theorem asHas.calls (w : World) (b : Nat) (fl k a v br : Int) (hR : Rch w b) (hk : okA fl k a) (hf0 : 0 ≤ fl) (hf1 : fl ≤ 1000) (hb0 : 0 ≤ br) (hb1 : br ≤ fl) :
    Calls Try.prog 98 #[.pointer (some ⟨b, 0, none⟩), .int .i64 fl, .agg #[.int .i64 k, .int .i64 a, .int .i64 v], .int .i64 br] w fun e w' => e = .returned (.agg #[.int .i64 k, .int .i64 a, .int .i64 (asHasV fl k a br)]) ∧ Below w.heap.size w w' := by
  have HK := Aside0.mk hk
  have HF := Aside0.mk (And.intro hf0 (And.intro hf1 (And.intro hb0 hb1)))
  have HR := Aside0.mk hR
  obtain ⟨k0, k1, k2, k3, k4⟩ := hk
  clear hR hf0 hf1 hb0 hb1
  rcases (by omega : k = 0 ∨ k = 1 ∨ k = 2 ∨ k = 3 ∨ k = 4) with rfl | rfl | rfl | rfl | rfl
  · clear k0 k1 k2 k3 k4
    by_cases hc : br < a
    · have HV : Aside0 (asHasV fl 0 a br = 1) := ⟨by unfold asHasV; rw [if_pos rfl, if_pos hc]⟩
      have d1 : decide (br < a) = true := decide_eq_true hc
      clear hc
      go_enter Try.func98, Try.ntmps98
      go_wp2
      refine bodyPost_ret (results_cell_row rfl _ _ (w.heap.size + 1) 25 #[.int .i64 0, .int .i64 a, .int .i64 1] (0, 0) _ rfl (by have h_ := blk_new (w.alloc (Obj.cells #[Value.int IntKind.i64 0, Value.int IntKind.i64 a, Value.int IntKind.i64 1] 25)) (Obj.cells #[Value.int IntKind.i64 0, Value.int IntKind.i64 a, Value.int IntKind.i64 1] 25); rwa [World.size_alloc] at h_) Try.underlying25 rfl (by kernel_rfl)) rfl ⟨by rw [HV.out], below_alloc (below_alloc (Below.refl _ _) _) _⟩
    · have HV : Aside0 (asHasV fl 0 a br = 0) := ⟨by unfold asHasV; rw [if_pos rfl, if_neg hc]⟩
      have d1 : decide (br < a) = false := decide_eq_false hc
      clear hc
      go_enter Try.func98, Try.ntmps98
      go_wp2
      refine bodyPost_ret (results_cell_row rfl _ _ (w.heap.size + 1) 25 #[.int .i64 0, .int .i64 a, .int .i64 0] (0, 0) _ rfl (by have h_ := blk_new (w.alloc (Obj.cells #[Value.int IntKind.i64 0, Value.int IntKind.i64 a, Value.int IntKind.i64 0] 25)) (Obj.cells #[Value.int IntKind.i64 0, Value.int IntKind.i64 a, Value.int IntKind.i64 0] 25); rwa [World.size_alloc] at h_) Try.underlying25 rfl (by kernel_rfl)) rfl ⟨by rw [HV.out], below_alloc (below_alloc (Below.refl _ _) _) _⟩
  · have hne : a ≠ 0 := by have := k2 rfl; omega
    have hne' : (a = 0) = False := eq_false hne
    have hd : decide (a = 0) = false := decide_eq_false hne
    obtain ⟨m, hm⟩ : ∃ m : Int, m = br.tmod a := ⟨_, rfl⟩
    have hw : IntKind.i64.wrap (br.tmod a) = m := by
      rw [← hm]
      have h2 := k2 rfl
      have h3 := HF.out
      have h4 := Int.tmod_nonneg a h3.2.2.1
      have h5 := Int.tmod_lt_of_pos br (show 0 < a by omega)
      have h6 : br.tmod a ≤ br := by
        rcases Int.lt_or_le br a with h | h
        · rw [Int.tmod_eq_emod_of_nonneg h3.2.2.1, Int.emod_eq_of_lt h3.2.2.1 h]; exact Int.le_refl _
        · omega
      exact Hw.wrap_w (by omega) (by omega)
    have hm2 : br.tmod a = m := hm.symm
    have HV : Aside0 (asHasV fl 1 a br = m) := ⟨by unfold asHasV; rw [if_neg (by decide), if_pos rfl, hm]⟩
    clear hm k0 k1 k2 k3 k4
    go_enter Try.func98, Try.ntmps98
    go_wp2
    refine bodyPost_ret (results_cell_row rfl _ _ (w.heap.size + 1) 25 #[.int .i64 1, .int .i64 a, .int .i64 m] (0, 0) _ rfl (by have h_ := blk_new (w.alloc (Obj.cells #[Value.int IntKind.i64 1, Value.int IntKind.i64 a, Value.int IntKind.i64 m] 25)) (Obj.cells #[Value.int IntKind.i64 1, Value.int IntKind.i64 a, Value.int IntKind.i64 m] 25); rwa [World.size_alloc] at h_) Try.underlying25 rfl (by kernel_rfl)) rfl ⟨by rw [HV.out], below_alloc (below_alloc (Below.refl _ _) _) _⟩
  · obtain ⟨q0, q1⟩ := k3 (by omega)
    clear k0 k1 k2 k3 k4
    have HV : Aside0 (asHasV fl 2 a br = ((playL br fl.toNat a 0 fl).length : Int)) := ⟨by unfold asHasV; rw [if_neg (by decide), if_neg (by decide), if_pos rfl]⟩
    obtain ⟨L, hL⟩ : ∃ L, L = playL br fl.toNat a 0 fl := ⟨_, rfl⟩
    have HLn : Aside0 (L.length ≤ 1000) := ⟨by rw [hL]; have := playL_len br fl.toNat a 0 fl; have := HF.out; omega⟩
    have HCB : Aside0 (impl_countBroken.f (L.length + 1) L = some (brokenN L : Int)) := ⟨countBroken_some L (by have := HLn.out; omega)⟩
    have HP : Aside0 (∀ W, Below w.heap.size w W → Calls Try.prog 118 #[.int .i64 a, .int .i64 fl, .int .i64 br, .func (.func 119) #[.pointer (some ⟨b, 0, none⟩)] #[]] W fun e w' => ∃ v0_ : Value, e = .returned (v0_) ∧ Kd.R k121 121 w' W.heap.size (fun _ => True) v0_ L ∧ Below W.heap.size W w') := ⟨fun W hW => by
      obtain ⟨cs, h1, h2⟩ := HR.out
      rw [hL]
      exact play.calls W b a fl br ⟨cs, blk_below h1 hW, h2⟩ q0 q1 HF.out.1 HF.out.2.1⟩
    rw [← hL] at HV
    obtain ⟨n, hn⟩ : ∃ n : Int, n = (L.length : Int) := ⟨_, rfl⟩
    rw [← hn] at HV
    have hn2 := hn.symm
    clear hL q0 q1 hn
    have hmf : ∀ (fn : Fn) (first cap : Array Value) (w : World), (Instr.makeFunc fn first cap).run Try.prog w = .ok (.func fn first cap) w := fun _ _ _ _ => rfl
    have hB0 : Aside0 (Below w.heap.size w ((w.alloc (Obj.cells #[Value.int IntKind.i64 2, Value.int IntKind.i64 a, Value.int IntKind.i64 v] 25)).alloc (Obj.cells #[Value.int IntKind.i64 0, Value.int IntKind.i64 0, Value.int IntKind.i64 0] 25))) := ⟨below_alloc (below_alloc (Below.refl _ _) _) _⟩
    have BK : Aside0 (((w.alloc (Obj.cells #[Value.int IntKind.i64 2, Value.int IntKind.i64 a, Value.int IntKind.i64 v] 25)).alloc (Obj.cells #[Value.int IntKind.i64 0, Value.int IntKind.i64 0, Value.int IntKind.i64 0] 25)).heap[w.heap.size]? = some (.cells #[Value.int IntKind.i64 2, Value.int IntKind.i64 a, Value.int IntKind.i64 v] 25 (0, 0))) := ⟨blk_alloc (blk_new _ _) _⟩
    have BJ : Aside0 (((w.alloc (Obj.cells #[Value.int IntKind.i64 2, Value.int IntKind.i64 a, Value.int IntKind.i64 v] 25)).alloc (Obj.cells #[Value.int IntKind.i64 0, Value.int IntKind.i64 0, Value.int IntKind.i64 0] 25)).heap[w.heap.size + 1]? = some (.cells #[Value.int IntKind.i64 0, Value.int IntKind.i64 0, Value.int IntKind.i64 0] 25 (0, 0))) := ⟨by have h_ := blk_new (w.alloc (Obj.cells #[Value.int IntKind.i64 2, Value.int IntKind.i64 a, Value.int IntKind.i64 v] 25)) (Obj.cells #[Value.int IntKind.i64 0, Value.int IntKind.i64 0, Value.int IntKind.i64 0] 25); rwa [World.size_alloc] at h_⟩
    go_enter Try.func98, Try.ntmps98
    go_wp2_with (first | (go_at_call 118; refine (HP.out _ hB0.out).mono ?_; rintro e w1 ⟨v1, rfl, hO, hb1⟩; obtain ⟨A1, c1, rfl⟩ := Kd.R_slice hO; have HO1 := Aside0.mk hO; have HB1 := Aside0.mk (below_step hB0.out hb1); have BK1 := Aside0.mk (blk_below BK.out hb1); have BJ1 := Aside0.mk (blk_below BJ.out hb1); have c10 := (blk_cell BK1.out 0).trans rfl; have d10 := (blk_cell BJ1.out 0).trans rfl; have f10 := blk_frozen BK1.out 0; have g10 := blk_frozen BJ1.out 0; have c11 := (blk_cell BK1.out 1).trans rfl; have d11 := (blk_cell BJ1.out 1).trans rfl; have f11 := blk_frozen BK1.out 1; have g11 := blk_frozen BJ1.out 1; have c12 := (blk_cell BK1.out 2).trans rfl; have d12 := (blk_cell BJ1.out 2).trans rfl; have f12 := blk_frozen BK1.out 2; have g12 := blk_frozen BJ1.out 2))
    refine bodyPost_ret (results_cell_row rfl _ _ (w.heap.size + 1) 25 #[Value.int IntKind.i64 2, Value.int IntKind.i64 a, Value.int IntKind.i64 n] (0, 0) _ rfl (blk_put (cs := #[Value.int IntKind.i64 2, Value.int IntKind.i64 a, Value.int IntKind.i64 0]) (blk_put (cs := #[Value.int IntKind.i64 2, Value.int IntKind.i64 0, Value.int IntKind.i64 0]) (blk_put (cs := #[Value.int IntKind.i64 0, Value.int IntKind.i64 0, Value.int IntKind.i64 0]) (blk_far BJ1.out (by simp) _) 0 _ rfl) 1 _ rfl) 2 _ rfl) Try.underlying25 rfl (by kernel_rfl)) rfl ⟨by rw [HV.out], below_set (below_set (below_set (below_set HB1.out (by simp)) (by simp)) (by simp)) (by simp)⟩
  · obtain ⟨q0, q1⟩ := k3 (by omega)
    clear k0 k1 k2 k3 k4
    have HV : Aside0 (asHasV fl 3 a br = (brokenN (playL br fl.toNat a 0 fl) : Int)) := ⟨by unfold asHasV; rw [if_neg (by decide), if_neg (by decide), if_neg (by decide), if_pos rfl]⟩
    obtain ⟨L, hL⟩ : ∃ L, L = playL br fl.toNat a 0 fl := ⟨_, rfl⟩
    have HLn : Aside0 (L.length ≤ 1000) := ⟨by rw [hL]; have := playL_len br fl.toNat a 0 fl; have := HF.out; omega⟩
    have HCB : Aside0 (impl_countBroken.f (L.length + 1) L = some (brokenN L : Int)) := ⟨countBroken_some L (by have := HLn.out; omega)⟩
    have HP : Aside0 (∀ W, Below w.heap.size w W → Calls Try.prog 118 #[.int .i64 a, .int .i64 fl, .int .i64 br, .func (.func 119) #[.pointer (some ⟨b, 0, none⟩)] #[]] W fun e w' => ∃ v0_ : Value, e = .returned (v0_) ∧ Kd.R k121 121 w' W.heap.size (fun _ => True) v0_ L ∧ Below W.heap.size W w') := ⟨fun W hW => by
      obtain ⟨cs, h1, h2⟩ := HR.out
      rw [hL]
      exact play.calls W b a fl br ⟨cs, blk_below h1 hW, h2⟩ q0 q1 HF.out.1 HF.out.2.1⟩
    rw [← hL] at HV
    obtain ⟨n, hn⟩ : ∃ n : Int, n = (brokenN L : Int) := ⟨_, rfl⟩
    rw [← hn] at HV HCB
    have hn2 := hn.symm
    clear hL q0 q1 hn
    have hmf : ∀ (fn : Fn) (first cap : Array Value) (w : World), (Instr.makeFunc fn first cap).run Try.prog w = .ok (.func fn first cap) w := fun _ _ _ _ => rfl
    have hB0 : Aside0 (Below w.heap.size w ((w.alloc (Obj.cells #[Value.int IntKind.i64 3, Value.int IntKind.i64 a, Value.int IntKind.i64 v] 25)).alloc (Obj.cells #[Value.int IntKind.i64 0, Value.int IntKind.i64 0, Value.int IntKind.i64 0] 25))) := ⟨below_alloc (below_alloc (Below.refl _ _) _) _⟩
    have BK : Aside0 (((w.alloc (Obj.cells #[Value.int IntKind.i64 3, Value.int IntKind.i64 a, Value.int IntKind.i64 v] 25)).alloc (Obj.cells #[Value.int IntKind.i64 0, Value.int IntKind.i64 0, Value.int IntKind.i64 0] 25)).heap[w.heap.size]? = some (.cells #[Value.int IntKind.i64 3, Value.int IntKind.i64 a, Value.int IntKind.i64 v] 25 (0, 0))) := ⟨blk_alloc (blk_new _ _) _⟩
    have BJ : Aside0 (((w.alloc (Obj.cells #[Value.int IntKind.i64 3, Value.int IntKind.i64 a, Value.int IntKind.i64 v] 25)).alloc (Obj.cells #[Value.int IntKind.i64 0, Value.int IntKind.i64 0, Value.int IntKind.i64 0] 25)).heap[w.heap.size + 1]? = some (.cells #[Value.int IntKind.i64 0, Value.int IntKind.i64 0, Value.int IntKind.i64 0] 25 (0, 0))) := ⟨by have h_ := blk_new (w.alloc (Obj.cells #[Value.int IntKind.i64 3, Value.int IntKind.i64 a, Value.int IntKind.i64 v] 25)) (Obj.cells #[Value.int IntKind.i64 0, Value.int IntKind.i64 0, Value.int IntKind.i64 0] 25); rwa [World.size_alloc] at h_⟩
    go_enter Try.func98, Try.ntmps98
    go_wp2_with (first | (go_at_call 118; refine (HP.out _ hB0.out).mono ?_; rintro e w1 ⟨v1, rfl, hO, hb1⟩; obtain ⟨A1, c1, rfl⟩ := Kd.R_slice hO; have HO1 := Aside0.mk hO; have HB1 := Aside0.mk (below_step hB0.out hb1); have BK1 := Aside0.mk (blk_below BK.out hb1); have BJ1 := Aside0.mk (blk_below BJ.out hb1); have c10 := (blk_cell BK1.out 0).trans rfl; have d10 := (blk_cell BJ1.out 0).trans rfl; have f10 := blk_frozen BK1.out 0; have g10 := blk_frozen BJ1.out 0; have c11 := (blk_cell BK1.out 1).trans rfl; have d11 := (blk_cell BJ1.out 1).trans rfl; have f11 := blk_frozen BK1.out 1; have g11 := blk_frozen BJ1.out 1; have c12 := (blk_cell BK1.out 2).trans rfl; have d12 := (blk_cell BJ1.out 2).trans rfl; have f12 := blk_frozen BK1.out 2; have g12 := blk_frozen BJ1.out 2) | (go_at_call 107; refine (impl_countBroken.calls _ A1 c1 _ _ _ (Kd.R_reads' HO1.out).2.2 (Kd.R_reads' HO1.out).2.1 HCB.out).mono ?_; rintro e2 w2 ⟨rfl, hb2⟩; have HB2 := Aside0.mk (below_step HB1.out hb2); have BK2 := Aside0.mk (blk_below BK1.out hb2); have BJ2 := Aside0.mk (blk_below BJ1.out hb2); have c20 := (blk_cell BK2.out 0).trans rfl; have d20 := (blk_cell BJ2.out 0).trans rfl; have f20 := blk_frozen BK2.out 0; have g20 := blk_frozen BJ2.out 0; have c21 := (blk_cell BK2.out 1).trans rfl; have d21 := (blk_cell BJ2.out 1).trans rfl; have f21 := blk_frozen BK2.out 1; have g21 := blk_frozen BJ2.out 1; have c22 := (blk_cell BK2.out 2).trans rfl; have d22 := (blk_cell BJ2.out 2).trans rfl; have f22 := blk_frozen BK2.out 2; have g22 := blk_frozen BJ2.out 2))
    refine bodyPost_ret (results_cell_row rfl _ _ (w.heap.size + 1) 25 #[Value.int IntKind.i64 3, Value.int IntKind.i64 a, Value.int IntKind.i64 n] (0, 0) _ rfl (blk_put (cs := #[Value.int IntKind.i64 3, Value.int IntKind.i64 a, Value.int IntKind.i64 0]) (blk_put (cs := #[Value.int IntKind.i64 3, Value.int IntKind.i64 0, Value.int IntKind.i64 0]) (blk_put (cs := #[Value.int IntKind.i64 0, Value.int IntKind.i64 0, Value.int IntKind.i64 0]) (blk_far BJ2.out (by simp) _) 0 _ rfl) 1 _ rfl) 2 _ rfl) Try.underlying25 rfl (by kernel_rfl)) rfl ⟨by rw [HV.out], below_set (below_set (below_set (below_set HB2.out (by simp)) (by simp)) (by simp)) (by simp)⟩
  · obtain ⟨q0, q1⟩ := k4 rfl
    obtain ⟨x, hx⟩ : ∃ x : Int, x = br - a := ⟨_, rfl⟩
    obtain ⟨y, hy⟩ : ∃ y : Int, y = a - br := ⟨_, rfl⟩
    have w1 : IntKind.i64.wrap (br - a) = x := by rw [hx]; exact Hw.wrap_w (by have := HF.out; omega) (by have := HF.out; omega)
    have w2 : IntKind.i64.wrap (a - br) = y := by rw [hy]; exact Hw.wrap_w (by have := HF.out; omega) (by have := HF.out; omega)
    have HV : Aside0 (asHasV fl 4 a br = max x y) := ⟨by unfold asHasV; rw [if_neg (by decide), if_neg (by decide), if_neg (by decide), if_neg (by decide), hx, hy]⟩
    by_cases hc : x < y
    · have d1 : decide (x < y) = true := decide_eq_true hc
      have HV2 : Aside0 (max x y = y) := ⟨by omega⟩
      have HV : Aside0 (asHasV fl 4 a br = y) := ⟨HV.out.trans HV2.out⟩
      have hc' : (x < y) = True := eq_true hc
      clear hx hy k0 k1 k2 k3 k4 hc HV2
      go_enter Try.func98, Try.ntmps98
      go_wp2
      refine bodyPost_ret (results_cell_row rfl _ _ (w.heap.size + 1) 25 #[.int .i64 4, .int .i64 a, .int .i64 y] (0, 0) _ rfl (by have h_ := blk_new (w.alloc (Obj.cells #[Value.int IntKind.i64 4, Value.int IntKind.i64 a, Value.int IntKind.i64 y] 25)) (Obj.cells #[Value.int IntKind.i64 4, Value.int IntKind.i64 a, Value.int IntKind.i64 y] 25); rwa [World.size_alloc] at h_) Try.underlying25 rfl (by kernel_rfl)) rfl ⟨by rw [HV.out], below_alloc (below_alloc (Below.refl _ _) _) _⟩
    · have d1 : decide (x < y) = false := decide_eq_false hc
      have HV2 : Aside0 (max x y = x) := ⟨by omega⟩
      have HV : Aside0 (asHasV fl 4 a br = x) := ⟨HV.out.trans HV2.out⟩
      have hc' : (x < y) = False := eq_false hc
      clear hx hy k0 k1 k2 k3 k4 hc HV2
      go_enter Try.func98, Try.ntmps98
      go_wp2
      refine bodyPost_ret (results_cell_row rfl _ _ (w.heap.size + 1) 25 #[.int .i64 4, .int .i64 a, .int .i64 x] (0, 0) _ rfl (by have h_ := blk_new (w.alloc (Obj.cells #[Value.int IntKind.i64 4, Value.int IntKind.i64 a, Value.int IntKind.i64 x] 25)) (Obj.cells #[Value.int IntKind.i64 4, Value.int IntKind.i64 a, Value.int IntKind.i64 x] 25); rwa [World.size_alloc] at h_) Try.underlying25 rfl (by kernel_rfl)) rfl ⟨by rw [HV.out], below_alloc (below_alloc (Below.refl _ _) _) _⟩
theorem isClue_ok {fl k a v : Int} (h : impl_IsClue.f fl k a v = some true) : 1 ≤ fl ∧ fl ≤ 40 ∧ okA fl k a := by
  unfold impl_IsClue.f at h
  rw [hidden_some] at h
  have hw : ∀ x y z : Int, impl_within.f x y z = some (decide (y ≤ x) && decide (x ≤ z)) := by
    intro x y z
    unfold impl_within.f
    by_cases h : y ≤ x <;> simp [h]
  have he : ∀ x : Int, impl_isEggs.f x = some (decide (1 ≤ x) && decide (x ≤ 10)) := by
    intro x; unfold impl_isEggs.f; rw [hw]; rfl
  have hb : ∀ x y : Int, impl_isBreak.f x y = some (decide (0 ≤ y) && decide (y ≤ x)) := by
    intro x y; unfold impl_isBreak.f; rw [hw]; rfl
  simp only [Option.bind_some, hw, he, hb] at h
  unfold okA
  repeat' (split at h)
  all_goals simp at h
  all_goals simp only [Bool.and_eq_true, decide_eq_true_eq] at *
  all_goals omega


-- FOR (*impl.reaches).fits
-- CALLS (*impl.reaches).asHas
set_option maxHeartbeats 8000000 in
set_option maxRecDepth 1000000 in
theorem fits.calls (w : World) (b : Nat) (fl k a v br : Int) (hR : Rch w b) (hk : okA fl k a) (hf0 : 0 ≤ fl) (hf1 : fl ≤ 1000) (hb0 : 0 ≤ br) (hb1 : br ≤ fl) :
    Calls Try.prog 87 #[.pointer (some ⟨b, 0, none⟩), .int .i64 fl, .agg #[.int .i64 k, .int .i64 a, .int .i64 v], .int .i64 br] w fun e w' => e = .returned (.bool (asHasV fl k a br == v)) ∧ Below w.heap.size w w' := by
  have HB : Aside0 (Below w.heap.size w (w.alloc (Obj.cells #[Value.int IntKind.i64 k, Value.int IntKind.i64 a, Value.int IntKind.i64 v] 25))) := ⟨below_alloc (Below.refl _ _) _⟩
  have BK : Aside0 ((w.alloc (Obj.cells #[Value.int IntKind.i64 k, Value.int IntKind.i64 a, Value.int IntKind.i64 v] 25)).heap[w.heap.size]? = some (.cells #[Value.int IntKind.i64 k, Value.int IntKind.i64 a, Value.int IntKind.i64 v] 25 (0, 0))) := ⟨blk_new _ _⟩
  have HP : Aside0 (∀ W, Below w.heap.size w W → Calls Try.prog 98 #[.pointer (some ⟨b, 0, none⟩), .int .i64 fl, .agg #[.int .i64 k, .int .i64 a, .int .i64 v], .int .i64 br] W fun e w' => e = .returned (.agg #[.int .i64 k, .int .i64 a, .int .i64 (asHasV fl k a br)]) ∧ Below W.heap.size W w') := ⟨fun W hW => by
    obtain ⟨cs, h1, h2⟩ := hR
    exact asHas.calls W b fl k a v br ⟨cs, blk_below h1 hW, h2⟩ hk hf0 hf1 hb0 hb1⟩
  have c00 := (blk_cell BK.out 0).trans rfl
  have c01 := (blk_cell BK.out 1).trans rfl
  have c02 := (blk_cell BK.out 2).trans rfl
  clear hR hk hf0 hf1 hb0 hb1
  obtain ⟨n, hn⟩ : ∃ n, n = asHasV fl k a br := ⟨_, rfl⟩
  rw [← hn] at HP ⊢
  clear hn
  by_cases hnv : n = v
  · have h1 : (n == v) = true := by simp [hnv]
    have h2 : decide (n = v) = true := decide_eq_true hnv
    have h3 : (n = v) = True := eq_true hnv
    rw [h1]
    clear hnv
    go_enter Try.func87, Try.ntmps87
    go_wp2
    go_region_held3 (fun w' => w'.cell? ⟨w.heap.size, 0, none⟩ = some (.int .i64 k) ∧ w'.cell? ⟨w.heap.size, 1, none⟩ = some (.int .i64 a) ∧ w'.cell? ⟨w.heap.size, 2, none⟩ = some (.int .i64 v)) (first | exact ⟨c00, c01, c02⟩ | exact ⟨c10, c11, c12⟩) (first | (go_at_call 98; refine (HP.out _ (below_drew1 HB.out)).mono ?_; rintro e w1 ⟨rfl, hb⟩; have HB1 := Aside0.mk (below_step (below_drew1 HB.out) hb); have BK1 := Aside0.mk (blk_below (blk_drew BK.out) hb); have c10 := (blk_cell BK1.out 0).trans rfl; have c11 := (blk_cell BK1.out 1).trans rfl; have c12 := (blk_cell BK1.out 2).trans rfl))
    all_goals go_wp2
    all_goals
      go_ret
      exact ⟨rfl, HB1.out⟩
  · have h1 : (n == v) = false := by simp [hnv]
    have h2 : decide (n = v) = false := decide_eq_false hnv
    have h3 : (n = v) = False := eq_false hnv
    rw [h1]
    clear hnv
    go_enter Try.func87, Try.ntmps87
    go_wp2
    go_region_held3 (fun w' => w'.cell? ⟨w.heap.size, 0, none⟩ = some (.int .i64 k) ∧ w'.cell? ⟨w.heap.size, 1, none⟩ = some (.int .i64 a) ∧ w'.cell? ⟨w.heap.size, 2, none⟩ = some (.int .i64 v)) (first | exact ⟨c00, c01, c02⟩ | exact ⟨c10, c11, c12⟩) (first | (go_at_call 98; refine (HP.out _ (below_drew1 HB.out)).mono ?_; rintro e w1 ⟨rfl, hb⟩; have HB1 := Aside0.mk (below_step (below_drew1 HB.out) hb); have BK1 := Aside0.mk (blk_below (blk_drew BK.out) hb); have c10 := (blk_cell BK1.out 0).trans rfl; have c11 := (blk_cell BK1.out 1).trans rfl; have c12 := (blk_cell BK1.out 2).trans rfl))
    all_goals go_wp2
    all_goals
      go_ret
      exact ⟨rfl, HB1.out⟩


end Go.Proofs.Ytbkplokoomodcaa.N
