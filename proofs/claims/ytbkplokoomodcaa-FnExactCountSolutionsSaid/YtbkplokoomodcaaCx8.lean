/- Plain Lean functions with the answers of Go functions, and proofs of it: printed by a program of this session (pr.py) over the kit's print, with hand-written parts. -/
import Derived.Test.YtbkplokoomodcaaCx0
import Derived.Test.YtbkplokoomodcaaCx1
import Derived.Test.YtbkplokoomodcaaCx2
import Derived.Test.YtbkplokoomodcaaCx6
import Derived.Test.YtbkplokoomodcaaCx7
namespace Go.Proofs.Ytbkplokoomodcaa.C
open Go.RowKit Go.Proofs.YtbkplokoomodcaaW.PrintWords Go.Proofs.YtbkplokoomodcaaW.PrintLast Go.Proofs.YtbkplokoomodcaaW.PrintMore
attribute [local go_sem] max2_int min2_int max_two min_two max_three min_three max_four min_four   -- for this text's walks alone
set_option linter.unusedVariables false
set_option linter.unusedSimpArgs false

-- FOR impl.Solutions
-- KIND rounds=0 making=1
-- CALLS impl.IsPuzzle ; (impl.Puzzle).solutions ; impl.newReaches
def impl_Solutions.f (a0_0 : Int) (l0_1 : List S25) : Option (List Int × Bool) := (impl_IsPuzzle.f a0_0 l0_1).bind fun t => if t = true then some (solsF a0_0 l0_1, true) else some ([], false)
theorem isPuzzle_ok {fl : Int} {l : List S25} (h : impl_IsPuzzle.f fl l = some true) : 1 ≤ fl ∧ fl ≤ 40 ∧ l.length ≤ 6 ∧ ∀ x ∈ l, okA fl x.f0 x.f1 := by
  unfold impl_IsPuzzle.f at h
  have h1 := Option.some.inj h
  simp only [Bool.and_eq_true, decide_eq_true_eq, List.all_eq_true] at h1
  obtain ⟨⟨⟨q0, q1⟩, q2⟩, q3⟩ := h1
  refine ⟨q0, q1, q2, fun x hx => ?_⟩
  have h2 := q3 x hx
  exact (isClue_ok (v := x.f2) (by rw [isClue_some]; exact congrArg some h2)).2.2
set_option maxHeartbeats 8000000 in
set_option maxRecDepth 1000000 in
theorem impl_Solutions.calls (a0_0 : Int) (A0_1 : Option Addr) (c0_1 : Nat) (l0_1 : List S25) (r1 : List Int) (r2 : Bool) (w : World) (hr0_1 : Kd.C k25 w A0_1 l0_1.length l0_1) (hc0_1 : l0_1.length ≤ c0_1) (h : impl_Solutions.f a0_0 l0_1 = some (r1, r2)) :
    Calls Try.prog 49 #[.agg #[.int .i64 a0_0, .slice A0_1 l0_1.length c0_1]] w fun e w' => ∃ v0_ : Value, e = .returned (.tuple #[v0_, .bool r2]) ∧ Kd.R (Kd.int .i64) 3 w' w.heap.size (fun _ => True) v0_ r1 ∧ Below w.heap.size w w' := by
  have HB : Aside0 (Below w.heap.size w (w.alloc (Obj.cells #[Value.int IntKind.i64 a0_0, Value.slice A0_1 l0_1.length c0_1] 35))) := ⟨below_alloc (Below.refl _ _) _⟩
  have BK : Aside0 ((w.alloc (Obj.cells #[Value.int IntKind.i64 a0_0, Value.slice A0_1 l0_1.length c0_1] 35)).heap[w.heap.size]? = some (.cells #[Value.int IntKind.i64 a0_0, Value.slice A0_1 l0_1.length c0_1] 35 (0, 0))) := ⟨blk_new _ _⟩
  have HR := Aside0.mk hr0_1
  have HC := Aside0.mk hc0_1
  clear hr0_1 hc0_1
  obtain ⟨q, hq⟩ : ∃ q, impl_IsPuzzle.f a0_0 l0_1 = some q := ⟨_, rfl⟩
  unfold impl_Solutions.f at h
  rw [hq, Option.bind_some] at h
  have HQ := Aside0.mk hq
  cases q with
  | false =>
    rw [if_neg (by decide)] at h
    simp only [Option.some.injEq, Prod.mk.injEq] at h
    obtain ⟨rfl, rfl⟩ := h
    clear hq
    go_enter Try.func49, Try.ntmps49
    go_wp2_with (first | (go_at_call 25; refine (impl_IsPuzzle.calls _ _ _ _ _ _ (Kd.C_below HR.out HB.out) HC.out HQ.out).mono ?_; rintro e w1 ⟨rfl, hb⟩; have HB1 := Aside0.mk (below_step HB.out hb); clear hb))
    go_ret2
    exact ⟨_, rfl, Kd.R_nil _ _ _ _ _, HB1.out⟩
  | true =>
    rw [if_pos rfl] at h
    simp only [Option.some.injEq, Prod.mk.injEq] at h
    obtain ⟨rfl, rfl⟩ := h
    have HO := Aside0.mk (isPuzzle_ok hq)
    clear hq
    go_enter Try.func49, Try.ntmps49
    go_wp2_with (first | (go_at_call 25; refine (impl_IsPuzzle.calls _ _ _ _ _ _ (Kd.C_below HR.out HB.out) HC.out HQ.out).mono ?_; rintro e w1 ⟨rfl, hb⟩; have HB1 := Aside0.mk (below_step HB.out hb); have BK1 := Aside0.mk (blk_below BK.out hb); have c10 := (blk_cell BK1.out 0).trans rfl; have c11 := (blk_cell BK1.out 1).trans rfl; clear hb))
    go_region_held3 (fun w' => w'.cell? ⟨w.heap.size, 0, none⟩ = some (.int .i64 a0_0) ∧ w'.cell? ⟨w.heap.size, 1, none⟩ = some (.slice A0_1 l0_1.length c0_1)) (first | exact ⟨c10, c11⟩ | exact ⟨c30, c31⟩ | exact ⟨c40, c41⟩) (first | (go_at_call 86; refine (newReaches.calls _).mono ?_; rintro e w3 ⟨rfl, hr, hb⟩; have HR3 := Aside0.mk hr; have HB3 : Aside0 (Below w.heap.size w w3) := ⟨below_step (below_drew1 HB1.out) hb⟩; have BK3 := Aside0.mk (blk_below (w := w1.drew) (blk_drew BK1.out) hb); have c30 := (blk_cell BK3.out 0).trans rfl; have c31 := (blk_cell BK3.out 1).trans rfl; clear hr hb) | (go_at_call 101; refine (solutions.calls w3 _ a0_0 A0_1 A0_1 l0_1.length c0_1 c0_1 l0_1 HR3.out (Kd.C_below HR.out HB3.out) HC.out (by have := HO.out; omega) (by have := HO.out; omega) HO.out.2.2.2).mono ?_; rintro e w4 ⟨v4, rfl, ho4, hb⟩; have HO4 := Aside0.mk (Kd.R_lower ho4 (below_size HB3.out)); have HB4 := Aside0.mk (below_step HB3.out hb); have BK4 := Aside0.mk (blk_below BK3.out hb); have c40 := (blk_cell BK4.out 0).trans rfl; have c41 := (blk_cell BK4.out 1).trans rfl; clear hb ho4))
    all_goals go_wp2
    all_goals
      go_ret2
      exact ⟨_, rfl, HO4.out, HB4.out⟩


/-! ### impl_CountSolutions: function 39 -/
def impl_CountSolutions.f (a0_0 : Int) (l0_1 : List (S25)) : Option (Int × Bool) := (impl_Solutions.f a0_0 l0_1).bind fun bt202 => (some ((bt202.1.length : Int), bt202.2))
set_option maxHeartbeats 8000000 in
set_option maxRecDepth 100000 in
theorem impl_CountSolutions.calls (a0_0 : Int) (A0_1 : Option Addr) (c0_1 : Nat) (l0_1 : List (S25)) (r1 : Int) (r2 : Bool) (w : World) (hr0_1 : Kd.C k25 w A0_1 l0_1.length l0_1) (hc0_1 : l0_1.length ≤ c0_1) (h : impl_CountSolutions.f a0_0 l0_1 = some (r1, r2)) :
    Calls Try.prog 39 #[.agg #[.int .i64 a0_0, .slice A0_1 l0_1.length c0_1]] w fun e w' => e = .returned (.tuple #[.int .i64 r1, .bool r2]) ∧ Below w.heap.size w w' := by
  have hu35 := Try.underlying35
  have HR0_1 := Aside0.mk hr0_1
  have HC0_1 := Aside0.mk hc0_1
  clear hr0_1 hc0_1
  have HB := Aside0.mk (Below.refl w.heap.size w)
  have H : ((impl_Solutions.f a0_0 l0_1).bind fun bt202 => (some ((bt202.1.length : Int), bt202.2))) = some (r1, r2) := h
  clear h
  replace H := Option.bind_eq_some_iff.mp H
  obtain ⟨⟨t202, t205⟩, A20, H⟩ := H
  replace H : (some ((t202.length : Int), t205)) = some (r1, r2) := H
  have A2 := Aside0.mk A20
  clear A20
  simp only [Option.some.injEq, Prod.mk.injEq] at H
  obtain ⟨rfl, rfl⟩ := H
  go_enter Try.func39, Try.ntmps39
  go_wp2_with (first | ((with_reducible refine gate_dst (N := 1) rfl ?_); refine box_event ?hg (N := 1) ?hd (cs := #[.int .i64 a0_0, .slice A0_1 l0_1.length c0_1]) (t := 35) ?hr ?_; (case hd => rfl); (case hg => rfl); (case hr => first | (go_simp; done) | (go_simp; rfl)); intro gb201 hg w3 hbox hb; have n0_ := Aside0.mk (below_step (by repeat (first | (with_reducible first | exact HB.out | apply below_alloc | apply pw_below_drewN | apply below_drew1) | exact HB.out)) hb); have n1_ := Aside0.mk (hbox); have n2_ := Aside0.mk ((by rw [hg]; exact (below_size (by repeat (first | (with_reducible first | exact HB.out | apply below_alloc | apply pw_below_drewN | apply below_drew1) | exact HB.out))) : w.heap.size ≤ gb201)); have n3_ := Aside0.mk ((by rw [hg]; exact (below_size (by repeat (first | (with_reducible first | exact HB.out | apply below_alloc | apply pw_below_drewN | apply below_drew1) | exact HB.out))) : w.heap.size ≤ gb201)); clear HB; have HB := n0_; have BK201 := n1_; have GW201 := n2_; have GE201 := n3_; clear n0_ n1_ n2_ n3_; clear hb hbox hg; have hcz4_0 : w3.cell? ⟨gb201, 0, none⟩ = some (.int .i64 a0_0) := (blk_cell BK201.out 0).trans rfl; have hcz4_1 : w3.cell? ⟨gb201, 1, none⟩ = some (.slice A0_1 l0_1.length c0_1) := (blk_cell BK201.out 1).trans rfl; have hfz4_0 := blk_frozen BK201.out 0; have hfz4_1 := blk_frozen BK201.out 1) | ((with_reducible refine gate_callee (f := 49) rfl ?_); refine goesL_ (some 8) rfl rfl Try.func49 (by kernel_rfl) rfl #[.agg #[.int .i64 a0_0, .slice A0_1 l0_1.length c0_1]] rfl (by (try simp only [List.map_toArray, List.map_cons, List.map_nil]); first | done | rfl | (simp only [List.length_drop, List.length_take]; rfl)) ?_; (with_reducible refine (impl_Solutions.calls a0_0 _ _ l0_1 t202 t205 _ ?side1 ?side2 A2.out).mono ?_); (case side1 => repeat (first | exact (Kd.C_below HR0_1.out HB.out) | (with_reducible refine Kd.C_alloc ?_ _) | (with_reducible refine Kd.C_drewN ?_ _) | (with_reducible refine Kd.C_drew ?_))); (case side2 => exact HC0_1.out); rintro e w5 ⟨v203, rfl, ho0, hb⟩; refine ⟨_, rfl, ?_⟩; have n0_ := Aside0.mk (Kd.R_lower ho0 (below_size (by repeat (first | (with_reducible first | exact HB.out | apply below_alloc | apply pw_below_drewN | apply below_drew1 | refine below_set ?_ GE201.out) | exact HB.out)))); have n1_ := Aside0.mk (blk_below (g := gb201) (o := .cells #[.int .i64 a0_0, .slice A0_1 l0_1.length c0_1] 35 (0, 0)) (by (with_reducible repeat (first | refine blk_drewN ?_ _ | refine blk_drew ?_ | refine blk_alloc ?_ _)); exact BK201.out) hb); have n2_ := Aside0.mk (below_step (by repeat (first | (with_reducible first | exact HB.out | apply below_alloc | apply pw_below_drewN | apply below_drew1 | refine below_set ?_ GE201.out) | exact HB.out)) hb); clear BK201; clear HB; have HO204 := n0_; have BK201 := n1_; have HB := n2_; clear n0_ n1_ n2_; (try clear hb); (try clear hb2); (try clear hk); (try clear hi); (try clear ho0); obtain ⟨Ao6, co6, eo6⟩ := Kd.R_slice HO204.out; subst eo6))
  go_ret2
  exact ⟨by first | rfl | (simp [errW_none, errW_some] <;> rfl) | (simp [*, errW_none, errW_some] <;> rfl), by repeat (first | (with_reducible first | exact HB.out | apply below_alloc | apply pw_below_drewN | apply below_drew1 | refine below_set ?_ GE201.out) | exact HB.out)⟩

-- FOR laws.FnExactCountSolutions
set_option maxHeartbeats 8000000 in
set_option maxRecDepth 100000 in
theorem hand_FnExactCountSolutions (k : Nat) (a0_0 : Int) (A0_1 : Option Addr) (c0_1 : Nat) (l0_1 : List S23) (w : World) (hr0_1 : Kd.C k23 w A0_1 l0_1.length l0_1) (hc0_1 : l0_1.length ≤ c0_1)
    (F F' L : List S25) (t : Int) (r1 : Int) (r2 : Bool) (s : Int) (hs : laws_szPuzzle.f a0_0 l0_1 1000000 = some s) (hs0 : 0 ≤ s)
    (hF : full_toClueS.f k l0_1 false = some F) (hL : F.take l0_1.length = L) (hLl : L.length = l0_1.length) (hF' : full_toClueS.f k l0_1 true = some F') (hF2 : l0_1.length ≠ 0 → F' = F) (hF0 : l0_1.length = 0 → F' = [])
    (ht : laws_roomBehind.f (l0_1.length : Int) = some t) (hn : wrap64 ((l0_1.length : Int) + t) = (F.length : Int)) (he : laws_eqClueS.f k F F = some true)
    (h1 : spec_CountSolutions.f k a0_0 L = some (r1, r2)) (h2 : impl_CountSolutions.f a0_0 L = some (r1, r2)) :
    Calls Try.prog 9 #[.agg #[.int .i64 a0_0, .slice A0_1 l0_1.length c0_1]] w fun e w' => e = .returned (.bool true) ∧ Below w.heap.size w w' := by
  have HR := Aside0.mk hr0_1
  have HC := Aside0.mk hc0_1
  have H0 := Aside0.mk hs
  have hs1 : decide (s < 0) = false := decide_eq_false (by omega)
  have HF := Aside0.mk hF
  have HF' := Aside0.mk hF'
  have HT := Aside0.mk ht
  have HN := Aside0.mk hn
  have HE := Aside0.mk he
  have H1 := Aside0.mk h1
  have H2 := Aside0.mk h2
  have HF2 := Aside0.mk hF2
  have HF0 := Aside0.mk hF0
  have HL := Aside0.mk hL
  have HLl := Aside0.mk hLl
  clear hr0_1 hc0_1 hs hF hF' ht hn he h1 h2 hF2 hF0 hL hLl hs0
  go_enter Try.func9, Try.ntmps9
  go_wp2_with fail
  have HB : Aside0 (Below w.heap.size w (w.alloc (.cells #[.int .i64 a0_0, .slice A0_1 l0_1.length c0_1] 30 (0, 0)))) := ⟨below_alloc (Below.refl _ _) _⟩
  have BK : Aside0 ((w.alloc (.cells #[.int .i64 a0_0, .slice A0_1 l0_1.length c0_1] 30 (0, 0))).heap[w.heap.size]? = some (.cells #[.int .i64 a0_0, .slice A0_1 l0_1.length c0_1] 30 (0, 0))) := ⟨blk_new _ _⟩
  refine (laws_szPuzzle.calls a0_0 _ _ l0_1 _ _ _ (Kd.C_below HR.out HB.out) HC.out H0.out).mono ?_
  rintro e w1 ⟨rfl, hb⟩
  have HB1 : Aside0 (Below w.heap.size w w1) := ⟨below_step HB.out hb⟩
  have BK1 : Aside0 (w1.heap[w.heap.size]? = some (.cells #[.int .i64 a0_0, .slice A0_1 l0_1.length c0_1] 30 (0, 0))) := ⟨blk_below BK.out hb⟩
  clear HB BK hb
  have c10 := (blk_cell BK1.out 0).trans rfl
  have c11 := (blk_cell BK1.out 1).trans rfl
  go_wp2_with fail
  refine (full_toPuzzle k a0_0 _ _ l0_1 false F w1 (Kd.C_below HR.out HB1.out) HC.out HF.out).mono ?_
  rintro e w2 hp
  obtain ⟨A2, n2, c2, rfl, hR2, hn2, hb⟩ := hp
  obtain rfl : n2 = L.length := by rcases hn2 with h_ | ⟨h_, h2_⟩; exact h_.trans HLl.out.symm; exact h2_.trans (by rw [← HL.out, h_]; simp)
  have HB2 : Aside0 (Below w.heap.size w w2) := ⟨below_step HB1.out hb⟩
  have BK2 : Aside0 (w2.heap[w.heap.size]? = some (.cells #[.int .i64 a0_0, .slice A0_1 l0_1.length c0_1] 30 (0, 0))) := ⟨blk_below BK1.out hb⟩
  have HL2 : Aside0 (L.length ≤ F.length) := ⟨by rw [← HL.out, List.length_take]; omega⟩
  have hq := Kd.R_reads' hR2
  have HC2 : Aside0 (Kd.C k25 w2 A2 L.length L) := ⟨by have h_ := Hw.C_take hq.2.2 L.length HL2.out; rw [HLl.out, HL.out, ← HLl.out] at h_; exact h_⟩
  have HC2' : Aside0 (L.length ≤ c2) := ⟨Nat.le_trans HL2.out hq.2.1⟩
  clear HB1 BK1 hb c10 c11 hR2 hn2 hq
  go_wp2_with fail
  refine (spec_CountSolutions.calls k a0_0 _ _ L r1 r2 w2 HC2.out HC2'.out H1.out).mono ?_
  rintro e w3 ⟨rfl, hb⟩
  have HB3 : Aside0 (Below w.heap.size w w3) := ⟨below_step HB2.out hb⟩
  have BK3 : Aside0 (w3.heap[w.heap.size]? = some (.cells #[.int .i64 a0_0, .slice A0_1 l0_1.length c0_1] 30 (0, 0))) := ⟨blk_below BK2.out hb⟩
  clear HB2 BK2 hb HC2 HC2'
  have c30 := (blk_cell BK3.out 0).trans rfl
  have c31 := (blk_cell BK3.out 1).trans rfl
  go_wp2_with fail
  refine (full_toPuzzle k a0_0 _ _ l0_1 false F w3 (Kd.C_below HR.out HB3.out) HC.out HF.out).mono ?_
  rintro e w4 hp
  obtain ⟨A4, n4, c4, rfl, hR4, hn4, hb⟩ := hp
  obtain rfl : n4 = L.length := by rcases hn4 with h_ | ⟨h_, h2_⟩; exact h_.trans HLl.out.symm; exact h2_.trans (by rw [← HL.out, h_]; simp)
  have HB4 : Aside0 (Below w.heap.size w w4) := ⟨below_step HB3.out hb⟩
  have BK4 : Aside0 (w4.heap[w.heap.size]? = some (.cells #[.int .i64 a0_0, .slice A0_1 l0_1.length c0_1] 30 (0, 0))) := ⟨blk_below BK3.out hb⟩
  have hq := Kd.R_reads' hR4
  have HC4 : Aside0 (Kd.C k25 w4 A4 F.length F) := ⟨hq.2.2⟩
  have HC4' : Aside0 (F.length ≤ c4) := ⟨hq.2.1⟩
  clear HB3 BK3 hb c30 c31 hR4 hn4 hq
  go_wp2_with fail
  have HB4' : Aside0 (Below w.heap.size w (w4.alloc (.cells #[.int .i64 a0_0, .slice A4 L.length c4] 35 (0, 0)))) := ⟨below_alloc HB4.out _⟩
  have BX : Aside0 ((w4.alloc (.cells #[.int .i64 a0_0, .slice A4 L.length c4] 35 (0, 0))).heap[w4.heap.size]? = some (.cells #[.int .i64 a0_0, .slice A4 L.length c4] 35 (0, 0))) := ⟨blk_new _ _⟩
  have HC4a : Aside0 (Kd.C k25 (w4.alloc (.cells #[.int .i64 a0_0, .slice A4 L.length c4] 35 (0, 0))) A4 F.length F) := ⟨Kd.C_alloc HC4.out _⟩
  have BK4' : Aside0 ((w4.alloc (.cells #[.int .i64 a0_0, .slice A4 L.length c4] 35 (0, 0))).heap[w.heap.size]? = some (.cells #[.int .i64 a0_0, .slice A0_1 l0_1.length c0_1] 30 (0, 0))) := ⟨blk_alloc BK4.out _⟩
  have HC4L : Aside0 (Kd.C k25 (w4.alloc (.cells #[.int .i64 a0_0, .slice A4 L.length c4] 35 (0, 0))) A4 L.length L) := ⟨by have h_ := Hw.C_take HC4a.out L.length HL2.out; rw [HLl.out, HL.out, ← HLl.out] at h_; exact h_⟩
  refine (impl_CountSolutions.calls a0_0 _ _ L r1 r2 _ HC4L.out (Nat.le_trans HL2.out HC4'.out) H2.out).mono ?_
  rintro e w5 ⟨rfl, hb⟩
  have HB5 : Aside0 (Below w.heap.size w w5) := ⟨below_step HB4'.out hb⟩
  have BK5 : Aside0 (w5.heap[w.heap.size]? = some (.cells #[.int .i64 a0_0, .slice A0_1 l0_1.length c0_1] 30 (0, 0))) := ⟨blk_below BK4'.out hb⟩
  have BX5 : Aside0 (w5.heap[w4.heap.size]? = some (.cells #[.int .i64 a0_0, .slice A4 L.length c4] 35 (0, 0))) := ⟨blk_below BX.out hb⟩
  have HC5 : Aside0 (Kd.C k25 w5 A4 F.length F) := ⟨Kd.C_below HC4a.out hb⟩
  clear HB4 HB4' BX HC4 HC4a BK4 BK4' HC4L hb
  have hr1 : (r1 != r1) = false := by simp
  have hr2 : (r2 != r2) = false := by simp
  have c50 := (blk_cell BK5.out 0).trans rfl
  have c51 := (blk_cell BK5.out 1).trans rfl
  have d50 := (blk_cell BX5.out 0).trans rfl
  have d51 := (blk_cell BX5.out 1).trans rfl
  go_wp2_with fail
  have HB5' : Aside0 (∀ W, Below w5.heap.size w5 W → Below w.heap.size w W) := ⟨fun W h_ => below_step HB5.out h_⟩
  go_region_held3 (fun w' => w'.cell? ⟨w.heap.size, 0, none⟩ = some (.int .i64 a0_0) ∧ w'.cell? ⟨w.heap.size, 1, none⟩ = some (.slice A0_1 l0_1.length c0_1) ∧ w'.cell? ⟨w4.heap.size, 0, none⟩ = some (.int .i64 a0_0) ∧ w'.cell? ⟨w4.heap.size, 1, none⟩ = some (.slice A4 L.length c4)) (first | exact ⟨c50, c51, d50, d51⟩ | exact ⟨c60, c61, d60, d61⟩ | exact ⟨c70, c71, d70, d71⟩) (first
    | (go_at_call 24; refine (full_toPuzzle k a0_0 _ _ l0_1 false F _ (Kd.C_below HR.out (below_drew1 HB5.out)) HC.out HF.out).mono ?_; rintro e w6 hp; obtain ⟨A6, n6, c6, rfl, hR6, hn6, hb⟩ := hp; obtain rfl : n6 = L.length := (by rcases hn6 with h_ | ⟨h_, h2_⟩; exact h_.trans HLl.out.symm; exact h2_.trans (by rw [← HL.out, h_]; simp)); have hq6 := Kd.R_reads' hR6; have hb6 : Below w5.heap.size w5 w6 := below_step (below_drew1 (Below.refl _ _)) hb; have HB6 : Aside0 (Below w.heap.size w w6) := ⟨HB5'.out _ hb6⟩; have BK6 : Aside0 (w6.heap[w.heap.size]? = some (.cells #[.int .i64 a0_0, .slice A0_1 l0_1.length c0_1] 30 (0, 0))) := ⟨blk_below BK5.out hb6⟩; have BX6 : Aside0 (w6.heap[w4.heap.size]? = some (.cells #[.int .i64 a0_0, .slice A4 L.length c4] 35 (0, 0))) := ⟨blk_below BX5.out hb6⟩; have HC6 : Aside0 (Kd.C k25 w6 A4 F.length F) := ⟨Kd.C_below HC5.out hb6⟩; have HC6' : Aside0 (Kd.C k25 w6 A6 F.length F) := ⟨hq6.2.2⟩; have HC6c : Aside0 (F.length ≤ c6) := ⟨hq6.2.1⟩; have c60 := (blk_cell BK6.out 0).trans rfl; have c61 := (blk_cell BK6.out 1).trans rfl; have d60 := (blk_cell BX6.out 0).trans rfl; have d61 := (blk_cell BX6.out 1).trans rfl; clear hb hb6 hq6 hR6 hn6)
    | (go_at_call 26; refine (intact_Puzzle k a0_0 F A4 A6 L.length c4 c6 t w6 (by rw [HLl.out]; exact HT.out) (by rw [HLl.out]; exact HN.out) HC4'.out HC6c.out HC6.out HC6'.out HE.out).mono ?_; rintro e w7 ⟨rfl, hb⟩; have HB7 : Aside0 (Below w.heap.size w w7) := ⟨below_step HB6.out hb⟩; have BK7 : Aside0 (w7.heap[w.heap.size]? = some (.cells #[.int .i64 a0_0, .slice A0_1 l0_1.length c0_1] 30 (0, 0))) := ⟨blk_below BK6.out hb⟩; have BX7 : Aside0 (w7.heap[w4.heap.size]? = some (.cells #[.int .i64 a0_0, .slice A4 L.length c4] 35 (0, 0))) := ⟨blk_below BX6.out hb⟩; have c70 := (blk_cell BK7.out 0).trans rfl; have c71 := (blk_cell BK7.out 1).trans rfl; have d70 := (blk_cell BX7.out 0).trans rfl; have d71 := (blk_cell BX7.out 1).trans rfl; clear hb))
  clear c50 c51 d50 d51
  go_wp2_with fail
  refine (full_toPuzzle k a0_0 _ _ l0_1 true F' w7 (Kd.C_below HR.out HB7.out) HC.out HF'.out).mono ?_
  rintro e w8 hp
  obtain ⟨A8, n8, c8, rfl, hR8, hn8, hb⟩ := hp
  have hq8 := Kd.R_reads' hR8
  have H8 : n8 = L.length ∧ Kd.C k25 w8 A8 L.length L ∧ L.length ≤ c8 := by
    by_cases h0 : l0_1.length = 0
    · have h_ := HF0.out h0
      subst h_
      have hLn : L = [] := List.eq_nil_of_length_eq_zero (HLl.out.trans h0)
      subst hLn
      refine ⟨?_, hq8.2.2, Nat.zero_le _⟩
      rcases hn8 with h_ | ⟨_, h2_⟩
      · rw [h_, h0]; rfl
      · exact h2_
    · have h_ := HF2.out h0
      subst h_
      refine ⟨?_, ?_, Nat.le_trans HL2.out hq8.2.1⟩
      · rcases hn8 with h_ | ⟨h_, h2_⟩
        · exact h_.trans HLl.out.symm
        · exact h2_.trans (by rw [← HL.out, h_]; simp)
      · have h_ := Hw.C_take hq8.2.2 L.length HL2.out
        rw [HLl.out, HL.out, ← HLl.out] at h_
        exact h_
  obtain ⟨rfl, h81, h82⟩ := H8
  have HB8 : Aside0 (Below w.heap.size w w8) := ⟨below_step HB7.out hb⟩
  have H81 := Aside0.mk h81
  have H82 := Aside0.mk h82
  clear hb hR8 hn8 hq8 h81 h82
  go_wp2_with fail
  refine (impl_CountSolutions.calls a0_0 _ _ L r1 r2 w8 H81.out H82.out H2.out).mono ?_
  rintro e w9 ⟨rfl, hb⟩
  have HB9 : Aside0 (Below w.heap.size w w9) := ⟨below_step HB8.out hb⟩
  clear hb
  go_wp2
  go_ret
  exact ⟨rfl, HB9.out⟩
set_option maxHeartbeats 8000000 in
set_option maxRecDepth 100000 in
theorem big_FnExactCountSolutions (a0_0 : Int) (A0_1 : Option Addr) (c0_1 : Nat) (l0_1 : List S23) (w : World) (hr0_1 : Kd.C k23 w A0_1 l0_1.length l0_1) (hc0_1 : l0_1.length ≤ c0_1)
    (s : Int) (hs : laws_szPuzzle.f a0_0 l0_1 1000000 = some s) (hs0 : s < 0) :
    Calls Try.prog 9 #[.agg #[.int .i64 a0_0, .slice A0_1 l0_1.length c0_1]] w fun e w' => e = .returned (.bool true) ∧ Below w.heap.size w w' := by
  have HR := Aside0.mk hr0_1
  have HC := Aside0.mk hc0_1
  have H0 := Aside0.mk hs
  have hs1 : decide (s < 0) = true := decide_eq_true hs0
  clear hr0_1 hc0_1 hs hs0
  go_enter Try.func9, Try.ntmps9
  go_wp2_with fail
  have HB : Aside0 (Below w.heap.size w (w.alloc (.cells #[.int .i64 a0_0, .slice A0_1 l0_1.length c0_1] 30 (0, 0)))) := ⟨below_alloc (Below.refl _ _) _⟩
  refine (laws_szPuzzle.calls a0_0 _ _ l0_1 _ _ _ (Kd.C_below HR.out HB.out) HC.out H0.out).mono ?_
  rintro e w1 ⟨rfl, hb⟩
  have HB1 : Aside0 (Below w.heap.size w w1) := ⟨below_step HB.out hb⟩
  clear HB hb
  go_wp2
  go_ret
  exact ⟨rfl, HB1.out⟩


end Go.Proofs.Ytbkplokoomodcaa.C
