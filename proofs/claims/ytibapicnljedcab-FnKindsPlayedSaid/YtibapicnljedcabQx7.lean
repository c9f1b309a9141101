/- Plain Lean functions with the answers of Go functions, and proofs of it: printed by a program of this session (pr.py) over the kit's print, with hand-written parts. -/
import Derived.Test.YtibapicnljedcabQx0
import Derived.Test.YtibapicnljedcabQx2
import Derived.Test.YtibapicnljedcabQx3
import Derived.Test.YtibapicnljedcabQx5
import Derived.Test.YtibapicnljedcabQx6
namespace Go.Proofs.Ytibapicnljedcab.Q
open Go.RowKit Go.Proofs.YtibapicnljedcabW.PrintWords Go.Proofs.YtibapicnljedcabW.PrintLast Go.Proofs.YtibapicnljedcabW.PrintMore
attribute [local go_sem] max2_int min2_int max_two min_two max_three min_three max_four min_four   -- for this text's walks alone
set_option linter.unusedVariables false
set_option linter.unusedSimpArgs false

-- FOR spec.kiPlay
-- CALLS spec.kiAfter ; spec.kiMay ; spec.kiPlace ; spec.l1Least ; spec.l1Most ; spec.kiBreaks ; (*impl.solver).play ; spec.kiNorm
/-! ### The reference's table -/
def sF (k : KS) : Int := min 1000 (gI k)
def sW (k : KS) (t : Bool × Int) : Int := min 1000 (gW k t)
theorem sF_lo (k : KS) : 0 ≤ sF k := by unfold sF; have := gI_lo k; omega
theorem sF_hi (k : KS) : sF k ≤ 1000 := by unfold sF; omega
theorem sW_is (k : KS) (t : Bool × Int) : sW k t = min 1000 (1 + max (sF (k.aft t.1 true t.2)) (sF (k.aft t.1 false t.2))) := by unfold sW gW sF; omega
theorem kFold_cap (g : Bool × Int → Int) (l : List (Bool × Int)) : ∀ z y : Int, min 1000 z = y → kFold (fun t => min 1000 (g t)) y l = min 1000 (kFold g z l) := by
  induction l with
  | nil => intro z y h; exact h.symm
  | cons t l ih =>
    intro z y h
    unfold kFold
    rw [List.foldl_cons, List.foldl_cons]
    exact ih (min z (g t)) (min y (min 1000 (g t))) (by omega)
def kWeak (k : KS) : List (Bool × Int) := if 0 < k.w then (kFloors k.a k.b).map (fun f => (false, f)) else []
def kStrong (k : KS) : List (Bool × Int) := if 0 < k.s then (kFloors k.c k.d).map (fun f => (true, f)) else []
theorem sF_fold {k : KS} (hk : KGood k) (h : k.done = false) : kFold (sW k) 1000 (kWeak k ++ kStrong k) = sF k := by
  unfold sF
  rw [gI_eq hk h]
  exact kFold_cap (gW k) _ kNever 1000 (by decide)
theorem kFold_cons (g : Bool × Int → Int) (z : Int) (t : Bool × Int) (l : List (Bool × Int)) : kFold g z (t :: l) = kFold g (min z (g t)) l := rfl
theorem sAfter_is {k : KS} (hk : KGood k) {t : Bool × Int} (ht : t ∈ k.tests) (br : Bool) : spec_kiAfter.f 9 k.a k.b k.c k.d k.w k.s t.1 t.2 br = some ((k.aft t.1 br t.2).a, (k.aft t.1 br t.2).b, (k.aft t.1 br t.2).c, (k.aft t.1 br t.2).d, (k.aft t.1 br t.2).w, (k.aft t.1 br t.2).s) := by
  unfold KGood at hk
  have hl : ∀ a b : Int, spec_l1Least.f a b = some (min a b) := fun a b => by unfold spec_l1Least.f; split <;> (congr 1; omega)
  have hm : ∀ a b : Int, spec_l1Most.f a b = some (max a b) := fun a b => by unfold spec_l1Most.f; split <;> (congr 1; omega)
  rcases mem_tests ht with ⟨e, g1, g2, g3⟩ | ⟨e, g1, g2, g3⟩ <;> rw [e] <;> cases br <;> simp only [spec_kiAfter.f, spec_kiAfter.j0, spec_kiNorm.f, hl, hm, KS.aft, KS.tight, if_true, if_false, Bool.false_eq_true, Option.bind_some, Option.some.injEq, Prod.mk.injEq] <;> (repeat rw [Hw.wrap_id (by omega) (by omega)]) <;> (repeat' apply And.intro) <;> (first | trivial | rfl | omega)
theorem sPlace_is {k : KS} (hk : KGood k) : spec_kiPlace.f k.a k.b k.c k.d k.w k.s = some ((kPlace k : Nat) : Int) := by
  unfold KGood at hk
  unfold spec_kiPlace.f kPlace
  rw [Hw.wrap_id (i := k.a * 7) (by omega) (by omega), Hw.wrap_id (i := k.a * 7 + k.b) (by omega) (by omega), Hw.wrap_id (i := (k.a * 7 + k.b) * 7) (by omega) (by omega), Hw.wrap_id (i := (k.a * 7 + k.b) * 7 + k.c) (by omega) (by omega), Hw.wrap_id (i := ((k.a * 7 + k.b) * 7 + k.c) * 7) (by omega) (by omega), Hw.wrap_id (i := ((k.a * 7 + k.b) * 7 + k.c) * 7 + k.d) (by omega) (by omega), Hw.wrap_id (i := (((k.a * 7 + k.b) * 7 + k.c) * 7 + k.d) * 4) (by omega) (by omega), Hw.wrap_id (i := (((k.a * 7 + k.b) * 7 + k.c) * 7 + k.d) * 4 + k.w) (by omega) (by omega), Hw.wrap_id (i := ((((k.a * 7 + k.b) * 7 + k.c) * 7 + k.d) * 4 + k.w) * 4) (by omega) (by omega), Hw.wrap_id (i := ((((k.a * 7 + k.b) * 7 + k.c) * 7 + k.d) * 4 + k.w) * 4 + k.s) (by omega) (by omega)]
  congr 1
  omega
def kLo (k : KS) (st : Bool) : Int := if st then (if 0 < k.s then k.c else 0) else (if 0 < k.w then k.a else 0)
def kHi (k : KS) (st : Bool) : Int := if st then (if 0 < k.s then k.d else 0) else (if 0 < k.w then k.b else 0)
theorem sMay_is (k : KS) (st : Bool) : spec_kiMay.f 3 k.a k.b k.c k.d k.w k.s st = some (kLo k st, kHi k st) := by
  unfold spec_kiMay.f kLo kHi
  cases st
  · by_cases h : 0 < k.w <;> simp [spec_kiMay.j0, h]
  · by_cases h : 0 < k.s <;> simp [spec_kiMay.j0, h]
theorem kFloors_self (x : Int) : kFloors x x = [] := kFloors_nil (Int.le_refl _)
theorem kWeak_is (k : KS) : kWeak k = (kFloors (kLo k false) (kHi k false)).map (fun f => (false, f)) := by
  unfold kWeak kLo kHi
  by_cases h : 0 < k.w <;> simp [h, kFloors_self]
theorem kStrong_is (k : KS) : kStrong k = (kFloors (kLo k true) (kHi k true)).map (fun f => (true, f)) := by
  unfold kStrong kLo kHi
  by_cases h : 0 < k.s <;> simp [h, kFloors_self]
theorem may_mem (k : KS) (st : Bool) (f : Int) (h1 : kLo k st < f) (h2 : f ≤ kHi k st) : (st, f) ∈ k.tests := by
  unfold kLo at h1
  unfold kHi at h2
  cases st
  · by_cases h : 0 < k.w
    · simp only [Bool.false_eq_true, if_false, h, if_true] at h1 h2
      exact tests_weak h h1 h2
    · simp only [Bool.false_eq_true, if_false, h] at h1 h2; omega
  · by_cases h : 0 < k.s
    · simp only [h, if_true] at h1 h2
      exact tests_strong h h1 h2
    · simp only [h, if_true, if_false] at h1 h2; omega
theorem may_bd {k : KS} (hk : KGood k) (st : Bool) : 0 ≤ kLo k st ∧ kLo k st ≤ 6 ∧ kHi k st ≤ 6 := by
  unfold KGood at hk
  unfold kLo kHi
  cases st <;> simp only [Bool.false_eq_true, if_false, if_true] <;> split <;> omega
theorem least_is (a b : Int) : spec_l1Least.f a b = some (min a b) := by unfold spec_l1Least.f; split <;> (congr 1; omega)
theorem most_is (a b : Int) : spec_l1Most.f a b = some (max a b) := by unfold spec_l1Most.f; split <;> (congr 1; omega)
def Tab (w : World) (tb c : Nat) : Prop := ∃ xs : List Int, Kd.R (Kd.int .i64) 3 w 0 (fun k_ => k_ = tb) (.slice (some ⟨tb, 0, none⟩) 38416 c) xs ∧ ∀ k, KGood k → xs[kPlace k]? = some (-1) ∨ xs[kPlace k]? = some (sF k)
theorem Tab.len {w : World} {tb c : Nat} {xs : List Int} (h : Kd.R (Kd.int .i64) 3 w 0 (fun k_ => k_ = tb) (.slice (some ⟨tb, 0, none⟩) 38416 c) xs) : xs.length = 38416 := (Kd.R_reads' h).1.symm
theorem Tab.lt {w : World} {tb c : Nat} (h : Tab w tb c) : tb < w.heap.size := by
  obtain ⟨xs, h1, _⟩ := h
  have hl := Tab.len h1
  obtain ⟨g, cap, e, _, h2, _⟩ := Kd.R_form h1 (by omega)
  injection e with e1
  injection e1 with e2
  injection e2 with e3
  omega
theorem Tab.below {w w' : World} {tb c : Nat} (h : Tab w tb c) (hb : Below w.heap.size w w') : Tab w' tb c := by
  obtain ⟨xs, h1, h2⟩ := h
  exact ⟨xs, Kd.R_below h1 hb, h2⟩
theorem Tab.look {w : World} {tb c : Nat} (h : Tab w tb c) {k : KS} (hk : KGood k) : ∃ y : Int, (y = -1 ∨ y = sF k) ∧ w.cell? ⟨tb, kPlace k, none⟩ = some (.int .i64 y) ∧ w.frozen? ⟨tb, kPlace k, none⟩ = false := by
  obtain ⟨xs, h1, h2⟩ := h
  have hl := Tab.len h1
  have hp := kPlace_lt hk
  obtain ⟨c1, c2⟩ := Kd.R_celln 0 h1 (kPlace k : Int) (by omega) (by omega)
  simp only [Int.toNat_natCast] at c1 c2
  refine ⟨xs.getD (kPlace k) 0, ?_, c1, c2⟩
  rw [List.getD_eq_getElem?_getD]
  rcases h2 k hk with h | h <;> rw [h]
  · exact .inl rfl
  · exact .inr rfl
theorem Tab.store {w : World} {tb c : Nat} (h : Tab w tb c) {k : KS} (hk : KGood k) : Tab (w.setCell ⟨tb, kPlace k, none⟩ (.int .i64 (sF k))) tb c ∧ w.grownBy (w.setCell ⟨tb, kPlace k, none⟩ (.int .i64 (sF k))) (some tb) := by
  obtain ⟨xs, h1, h2⟩ := h
  have hl := Tab.len h1
  have hp := kPlace_lt hk
  have h3 := Kd.R_putg h1 (kPlace k : Int) (sF k)
  simp only [Int.toNat_natCast] at h3
  refine ⟨⟨_, h3.1, fun q hq => ?_⟩, h3.2⟩
  rw [List.getElem?_set]
  by_cases e : kPlace k = kPlace q
  · have := kPlace_inj hk hq e
    subst this
    rw [if_pos rfl, if_pos (by omega)]
    exact .inr rfl
  · rw [if_neg e]
    exact h2 q hq
def SFewOk (tb c : Nat) (k : KS) : Prop := ∀ w, Tab w tb c → Calls Try.prog 39 #[.slice (some ⟨tb, 0, none⟩) 38416 c, kCells k, .bool true] w fun e w' => e = .returned (.int .i64 (sF k)) ∧ Tab w' tb c ∧ w.grownBy w' (some tb)
def SWithOk (tb c : Nat) (k : KS) (t : Bool × Int) : Prop := ∀ w, Tab w tb c → Calls Try.prog 65 #[.slice (some ⟨tb, 0, none⟩) 38416 c, kCells k, .bool t.1, .int .i64 t.2, .bool true] w fun e w' => e = .returned (.int .i64 (sW k t)) ∧ Tab w' tb c ∧ w.grownBy w' (some tb)

set_option maxHeartbeats 8000000 in
set_option maxRecDepth 100000 in
theorem swith_of (tb c0 : Nat) (k : KS) (hk : KGood k) (t : Bool × Int) (ht : t ∈ k.tests) (H0 : SFewOk tb c0 (k.aft t.1 false t.2)) (H1 : SFewOk tb c0 (k.aft t.1 true t.2)) : SWithOk tb c0 k t := by
  intro w hT
  have HT := Aside0.mk hT
  have HG := Aside0.mk (Hx.g_refl w (some tb))
  have E0 := Aside0.mk (sAfter_is hk ht false)
  have E1 := Aside0.mk (sAfter_is hk ht true)
  have hW := sW_is k t
  obtain ⟨q0, hq0⟩ : ∃ q, q = k.aft t.1 false t.2 := ⟨_, rfl⟩
  obtain ⟨q1, hq1⟩ : ∃ q, q = k.aft t.1 true t.2 := ⟨_, rfl⟩
  rw [← hq0] at H0 E0 hW
  rw [← hq1] at H1 E1 hW
  have a1 := sF_lo q1
  have a2 := sF_hi q1
  have a3 := sF_lo q0
  have a4 := sF_hi q0
  have w3 : IntKind.i64.wrap (1 + max (sF q1) (sF q0)) = 1 + max (sF q1) (sF q0) := Hw.wrap_w (by omega) (by omega)
  unfold SFewOk at H0 H1
  replace H0 := Aside0.mk H0
  replace H1 := Aside0.mk H1
  rw [hW]
  clear hq0 hq1 hT hW hk ht a1 a2 a3 a4
  obtain ⟨st, fl⟩ := t
  simp only at E0 E1
  go_enter Try.func65, Try.ntmps65
  go_wp2_with (first | ((with_reducible refine gate_dst (N := 6) rfl ?_); refine box_event ?hg (N := 6) ?hd (cs := #[.int .i64 k.a, .int .i64 k.b, .int .i64 k.c, .int .i64 k.d, .int .i64 k.w, .int .i64 k.s]) (t := 65) ?hr ?_; (case hd => rfl); (case hg => rfl); (case hr => first | (go_simp; done) | (go_simp; rfl)); intro gB6 hg_ w_gB6 BK_ hb_; have ORD_ : Aside0 ((True) ∧ (tb < gB6 ∧ w.heap.size ≤ gB6)) := ⟨by refine ⟨trivial, ?_⟩; (have := HT.out.lt); (have := HG.out.size); omega⟩; have ORD := ORD_; clear ORD_; have n0_ : Aside0 (Tab w_gB6 tb c0) := ⟨Tab.below (w := _) (by exact HT.out) hb_⟩; have n1_ : Aside0 (w.grownBy w_gB6 (some tb)) := ⟨Hx.g_below (by first | exact HG.out | exact Hx.g_drew HG.out | exact Hx.g_drewN HG.out _) hb_⟩; have m0_ : Aside0 (w_gB6.heap[gB6]? = some (.cells #[.int .i64 k.a, .int .i64 k.b, .int .i64 k.c, .int .i64 k.d, .int .i64 k.w, .int .i64 k.s] 65 (0, 0))) := ⟨BK_⟩; (try clear HT); (try clear HG); have HT := n0_; have HG := n1_; have B6 := m0_; clear n0_ n1_ m0_; have cB6_0 : w_gB6.cell? ⟨gB6, 0, none⟩ = some (.int .i64 k.a) := (blk_cell B6.out 0).trans rfl; have dB6_0 := blk_frozen B6.out 0; have cB6_1 : w_gB6.cell? ⟨gB6, 1, none⟩ = some (.int .i64 k.b) := (blk_cell B6.out 1).trans rfl; have dB6_1 := blk_frozen B6.out 1; have cB6_2 : w_gB6.cell? ⟨gB6, 2, none⟩ = some (.int .i64 k.c) := (blk_cell B6.out 2).trans rfl; have dB6_2 := blk_frozen B6.out 2; have cB6_3 : w_gB6.cell? ⟨gB6, 3, none⟩ = some (.int .i64 k.d) := (blk_cell B6.out 3).trans rfl; have dB6_3 := blk_frozen B6.out 3; have cB6_4 : w_gB6.cell? ⟨gB6, 4, none⟩ = some (.int .i64 k.w) := (blk_cell B6.out 4).trans rfl; have dB6_4 := blk_frozen B6.out 4; have cB6_5 : w_gB6.cell? ⟨gB6, 5, none⟩ = some (.int .i64 k.s) := (blk_cell B6.out 5).trans rfl; have dB6_5 := blk_frozen B6.out 5; clear hg_ BK_ hb_) | ((with_reducible refine gate_callee (f := 60) rfl ?_); refine goesL_ (some 17) rfl rfl Try.func60 (by kernel_rfl) rfl #[.agg #[.int .i64 k.a, .int .i64 k.b, .int .i64 k.c, .int .i64 k.d, .int .i64 k.w, .int .i64 k.s], .bool st, .int .i64 fl, .bool true] rfl (by (try simp only [List.map_toArray, List.map_cons, List.map_nil]); first | done | rfl) ?_; refine (spec_kiAfter.calls 9 k.a k.b k.c k.d k.w k.s st fl true _ _ _ _ _ _ _ E1.out).mono ?_; rintro e_ w_1 ⟨rfl, hb_⟩; refine ⟨_, rfl, ?_⟩; have n0_ : Aside0 (Tab w_1 tb c0) := ⟨Tab.below (w := _) (by exact HT.out) hb_⟩; have n1_ : Aside0 (w.grownBy w_1 (some tb)) := ⟨Hx.g_below (by first | exact HG.out | exact Hx.g_drew HG.out | exact Hx.g_drewN HG.out _) hb_⟩; have n2_ : Aside0 (w_1.heap[gB6]? = some (.cells #[.int .i64 k.a, .int .i64 k.b, .int .i64 k.c, .int .i64 k.d, .int .i64 k.w, .int .i64 k.s] 65 (0, 0))) := ⟨Hx.b_below hb_ B6.out⟩; (try clear cB6_0 dB6_0 cB6_1 dB6_1 cB6_2 dB6_2 cB6_3 dB6_3 cB6_4 dB6_4 cB6_5 dB6_5); (try clear HT); (try clear HG); (try clear B6); have HT := n0_; have HG := n1_; have B6 := n2_; clear n0_ n1_ n2_; have cB6_0 : w_1.cell? ⟨gB6, 0, none⟩ = some (.int .i64 k.a) := (blk_cell B6.out 0).trans rfl; have dB6_0 := blk_frozen B6.out 0; have cB6_1 : w_1.cell? ⟨gB6, 1, none⟩ = some (.int .i64 k.b) := (blk_cell B6.out 1).trans rfl; have dB6_1 := blk_frozen B6.out 1; have cB6_2 : w_1.cell? ⟨gB6, 2, none⟩ = some (.int .i64 k.c) := (blk_cell B6.out 2).trans rfl; have dB6_2 := blk_frozen B6.out 2; have cB6_3 : w_1.cell? ⟨gB6, 3, none⟩ = some (.int .i64 k.d) := (blk_cell B6.out 3).trans rfl; have dB6_3 := blk_frozen B6.out 3; have cB6_4 : w_1.cell? ⟨gB6, 4, none⟩ = some (.int .i64 k.w) := (blk_cell B6.out 4).trans rfl; have dB6_4 := blk_frozen B6.out 4; have cB6_5 : w_1.cell? ⟨gB6, 5, none⟩ = some (.int .i64 k.s) := (blk_cell B6.out 5).trans rfl; have dB6_5 := blk_frozen B6.out 5; clear hb_) | ((with_reducible refine gate_callee (f := 39) rfl ?_); refine goesL_ (some 19) rfl rfl Try.func39 (by kernel_rfl) rfl #[.slice (some ⟨tb, 0, none⟩) 38416 c0, .agg #[.int .i64 q1.a, .int .i64 q1.b, .int .i64 q1.c, .int .i64 q1.d, .int .i64 q1.w, .int .i64 q1.s], .bool true] rfl (by (try simp only [List.map_toArray, List.map_cons, List.map_nil]); first | done | rfl) ?_; refine (H1.out _ HT.out).mono ?_; rintro e_ w_2 ⟨rfl, ht_, hg_⟩; refine ⟨_, rfl, ?_⟩; have n0_ : Aside0 (Tab w_2 tb c0) := ⟨ht_⟩; have n1_ : Aside0 (w.grownBy w_2 (some tb)) := ⟨World.grownBy.trans (by first | exact HG.out | exact Hx.g_drew HG.out | exact Hx.g_drewN HG.out _) hg_⟩; have n2_ : Aside0 (w_2.heap[gB6]? = some (.cells #[.int .i64 k.a, .int .i64 k.b, .int .i64 k.c, .int .i64 k.d, .int .i64 k.w, .int .i64 k.s] 65 (0, 0))) := ⟨Hx.b_grown hg_ B6.out (by simp only [ne_eq, Option.some.injEq]; have := ORD.out; omega)⟩; (try clear cB6_0 dB6_0 cB6_1 dB6_1 cB6_2 dB6_2 cB6_3 dB6_3 cB6_4 dB6_4 cB6_5 dB6_5); (try clear HT); (try clear HG); (try clear B6); have HT := n0_; have HG := n1_; have B6 := n2_; clear n0_ n1_ n2_; have cB6_0 : w_2.cell? ⟨gB6, 0, none⟩ = some (.int .i64 k.a) := (blk_cell B6.out 0).trans rfl; have dB6_0 := blk_frozen B6.out 0; have cB6_1 : w_2.cell? ⟨gB6, 1, none⟩ = some (.int .i64 k.b) := (blk_cell B6.out 1).trans rfl; have dB6_1 := blk_frozen B6.out 1; have cB6_2 : w_2.cell? ⟨gB6, 2, none⟩ = some (.int .i64 k.c) := (blk_cell B6.out 2).trans rfl; have dB6_2 := blk_frozen B6.out 2; have cB6_3 : w_2.cell? ⟨gB6, 3, none⟩ = some (.int .i64 k.d) := (blk_cell B6.out 3).trans rfl; have dB6_3 := blk_frozen B6.out 3; have cB6_4 : w_2.cell? ⟨gB6, 4, none⟩ = some (.int .i64 k.w) := (blk_cell B6.out 4).trans rfl; have dB6_4 := blk_frozen B6.out 4; have cB6_5 : w_2.cell? ⟨gB6, 5, none⟩ = some (.int .i64 k.s) := (blk_cell B6.out 5).trans rfl; have dB6_5 := blk_frozen B6.out 5; clear ht_ hg_) | ((with_reducible refine gate_callee (f := 60) rfl ?_); refine goesL_ (some 24) rfl rfl Try.func60 (by kernel_rfl) rfl #[.agg #[.int .i64 k.a, .int .i64 k.b, .int .i64 k.c, .int .i64 k.d, .int .i64 k.w, .int .i64 k.s], .bool st, .int .i64 fl, .bool false] rfl (by (try simp only [List.map_toArray, List.map_cons, List.map_nil]); first | done | rfl) ?_; refine (spec_kiAfter.calls 9 k.a k.b k.c k.d k.w k.s st fl false _ _ _ _ _ _ _ E0.out).mono ?_; rintro e_ w_3 ⟨rfl, hb_⟩; refine ⟨_, rfl, ?_⟩; have n0_ : Aside0 (Tab w_3 tb c0) := ⟨Tab.below (w := _) (by exact HT.out) hb_⟩; have n1_ : Aside0 (w.grownBy w_3 (some tb)) := ⟨Hx.g_below (by first | exact HG.out | exact Hx.g_drew HG.out | exact Hx.g_drewN HG.out _) hb_⟩; have n2_ : Aside0 (w_3.heap[gB6]? = some (.cells #[.int .i64 k.a, .int .i64 k.b, .int .i64 k.c, .int .i64 k.d, .int .i64 k.w, .int .i64 k.s] 65 (0, 0))) := ⟨Hx.b_below hb_ B6.out⟩; (try clear cB6_0 dB6_0 cB6_1 dB6_1 cB6_2 dB6_2 cB6_3 dB6_3 cB6_4 dB6_4 cB6_5 dB6_5); (try clear HT); (try clear HG); (try clear B6); have HT := n0_; have HG := n1_; have B6 := n2_; clear n0_ n1_ n2_; have cB6_0 : w_3.cell? ⟨gB6, 0, none⟩ = some (.int .i64 k.a) := (blk_cell B6.out 0).trans rfl; have dB6_0 := blk_frozen B6.out 0; have cB6_1 : w_3.cell? ⟨gB6, 1, none⟩ = some (.int .i64 k.b) := (blk_cell B6.out 1).trans rfl; have dB6_1 := blk_frozen B6.out 1; have cB6_2 : w_3.cell? ⟨gB6, 2, none⟩ = some (.int .i64 k.c) := (blk_cell B6.out 2).trans rfl; have dB6_2 := blk_frozen B6.out 2; have cB6_3 : w_3.cell? ⟨gB6, 3, none⟩ = some (.int .i64 k.d) := (blk_cell B6.out 3).trans rfl; have dB6_3 := blk_frozen B6.out 3; have cB6_4 : w_3.cell? ⟨gB6, 4, none⟩ = some (.int .i64 k.w) := (blk_cell B6.out 4).trans rfl; have dB6_4 := blk_frozen B6.out 4; have cB6_5 : w_3.cell? ⟨gB6, 5, none⟩ = some (.int .i64 k.s) := (blk_cell B6.out 5).trans rfl; have dB6_5 := blk_frozen B6.out 5; clear hb_) | ((with_reducible refine gate_callee (f := 39) rfl ?_); refine goesL_ (some 26) rfl rfl Try.func39 (by kernel_rfl) rfl #[.slice (some ⟨tb, 0, none⟩) 38416 c0, .agg #[.int .i64 q0.a, .int .i64 q0.b, .int .i64 q0.c, .int .i64 q0.d, .int .i64 q0.w, .int .i64 q0.s], .bool true] rfl (by (try simp only [List.map_toArray, List.map_cons, List.map_nil]); first | done | rfl) ?_; refine (H0.out _ HT.out).mono ?_; rintro e_ w_4 ⟨rfl, ht_, hg_⟩; refine ⟨_, rfl, ?_⟩; have n0_ : Aside0 (Tab w_4 tb c0) := ⟨ht_⟩; have n1_ : Aside0 (w.grownBy w_4 (some tb)) := ⟨World.grownBy.trans (by first | exact HG.out | exact Hx.g_drew HG.out | exact Hx.g_drewN HG.out _) hg_⟩; have n2_ : Aside0 (w_4.heap[gB6]? = some (.cells #[.int .i64 k.a, .int .i64 k.b, .int .i64 k.c, .int .i64 k.d, .int .i64 k.w, .int .i64 k.s] 65 (0, 0))) := ⟨Hx.b_grown hg_ B6.out (by simp only [ne_eq, Option.some.injEq]; have := ORD.out; omega)⟩; (try clear cB6_0 dB6_0 cB6_1 dB6_1 cB6_2 dB6_2 cB6_3 dB6_3 cB6_4 dB6_4 cB6_5 dB6_5); (try clear HT); (try clear HG); (try clear B6); have HT := n0_; have HG := n1_; have B6 := n2_; clear n0_ n1_ n2_; have cB6_0 : w_4.cell? ⟨gB6, 0, none⟩ = some (.int .i64 k.a) := (blk_cell B6.out 0).trans rfl; have dB6_0 := blk_frozen B6.out 0; have cB6_1 : w_4.cell? ⟨gB6, 1, none⟩ = some (.int .i64 k.b) := (blk_cell B6.out 1).trans rfl; have dB6_1 := blk_frozen B6.out 1; have cB6_2 : w_4.cell? ⟨gB6, 2, none⟩ = some (.int .i64 k.c) := (blk_cell B6.out 2).trans rfl; have dB6_2 := blk_frozen B6.out 2; have cB6_3 : w_4.cell? ⟨gB6, 3, none⟩ = some (.int .i64 k.d) := (blk_cell B6.out 3).trans rfl; have dB6_3 := blk_frozen B6.out 3; have cB6_4 : w_4.cell? ⟨gB6, 4, none⟩ = some (.int .i64 k.w) := (blk_cell B6.out 4).trans rfl; have dB6_4 := blk_frozen B6.out 4; have cB6_5 : w_4.cell? ⟨gB6, 5, none⟩ = some (.int .i64 k.s) := (blk_cell B6.out 5).trans rfl; have dB6_5 := blk_frozen B6.out 5; clear ht_ hg_) | ((with_reducible refine gate_callee (f := 27) rfl ?_); refine goesL_ (some 29) rfl rfl Try.func27 (by kernel_rfl) rfl #[.int .i64 (sF q1), .int .i64 (sF q0)] rfl (by (try simp only [List.map_toArray, List.map_cons, List.map_nil]); first | done | rfl) ?_; refine (spec_l1Most.calls _ _ _ _ (most_is _ _)).mono ?_; rintro e_ w_5 ⟨rfl, hd_⟩; refine ⟨_, rfl, ?_⟩; have hb_ := hd_.below; clear hd_; have n0_ : Aside0 (Tab w_5 tb c0) := ⟨Tab.below (w := _) (by exact HT.out) hb_⟩; have n1_ : Aside0 (w.grownBy w_5 (some tb)) := ⟨Hx.g_below (by first | exact HG.out | exact Hx.g_drew HG.out | exact Hx.g_drewN HG.out _) hb_⟩; have n2_ : Aside0 (w_5.heap[gB6]? = some (.cells #[.int .i64 k.a, .int .i64 k.b, .int .i64 k.c, .int .i64 k.d, .int .i64 k.w, .int .i64 k.s] 65 (0, 0))) := ⟨Hx.b_below hb_ B6.out⟩; (try clear cB6_0 dB6_0 cB6_1 dB6_1 cB6_2 dB6_2 cB6_3 dB6_3 cB6_4 dB6_4 cB6_5 dB6_5); (try clear HT); (try clear HG); (try clear B6); have HT := n0_; have HG := n1_; have B6 := n2_; clear n0_ n1_ n2_; have cB6_0 : w_5.cell? ⟨gB6, 0, none⟩ = some (.int .i64 k.a) := (blk_cell B6.out 0).trans rfl; have dB6_0 := blk_frozen B6.out 0; have cB6_1 : w_5.cell? ⟨gB6, 1, none⟩ = some (.int .i64 k.b) := (blk_cell B6.out 1).trans rfl; have dB6_1 := blk_frozen B6.out 1; have cB6_2 : w_5.cell? ⟨gB6, 2, none⟩ = some (.int .i64 k.c) := (blk_cell B6.out 2).trans rfl; have dB6_2 := blk_frozen B6.out 2; have cB6_3 : w_5.cell? ⟨gB6, 3, none⟩ = some (.int .i64 k.d) := (blk_cell B6.out 3).trans rfl; have dB6_3 := blk_frozen B6.out 3; have cB6_4 : w_5.cell? ⟨gB6, 4, none⟩ = some (.int .i64 k.w) := (blk_cell B6.out 4).trans rfl; have dB6_4 := blk_frozen B6.out 4; have cB6_5 : w_5.cell? ⟨gB6, 5, none⟩ = some (.int .i64 k.s) := (blk_cell B6.out 5).trans rfl; have dB6_5 := blk_frozen B6.out 5; clear hb_) | ((with_reducible refine gate_callee (f := 26) rfl ?_); refine goesL_ (some 31) rfl rfl Try.func26 (by kernel_rfl) rfl #[.int .i64 1000, .int .i64 (1 + max (sF q1) (sF q0))] rfl (by (try simp only [List.map_toArray, List.map_cons, List.map_nil]); first | done | rfl) ?_; refine (spec_l1Least.calls _ _ _ _ (least_is _ _)).mono ?_; rintro e_ w_6 ⟨rfl, hd_⟩; refine ⟨_, rfl, ?_⟩; have hb_ := hd_.below; clear hd_; have n0_ : Aside0 (Tab w_6 tb c0) := ⟨Tab.below (w := _) (by exact HT.out) hb_⟩; have n1_ : Aside0 (w.grownBy w_6 (some tb)) := ⟨Hx.g_below (by first | exact HG.out | exact Hx.g_drew HG.out | exact Hx.g_drewN HG.out _) hb_⟩; have n2_ : Aside0 (w_6.heap[gB6]? = some (.cells #[.int .i64 k.a, .int .i64 k.b, .int .i64 k.c, .int .i64 k.d, .int .i64 k.w, .int .i64 k.s] 65 (0, 0))) := ⟨Hx.b_below hb_ B6.out⟩; (try clear cB6_0 dB6_0 cB6_1 dB6_1 cB6_2 dB6_2 cB6_3 dB6_3 cB6_4 dB6_4 cB6_5 dB6_5); (try clear HT); (try clear HG); (try clear B6); have HT := n0_; have HG := n1_; have B6 := n2_; clear n0_ n1_ n2_; have cB6_0 : w_6.cell? ⟨gB6, 0, none⟩ = some (.int .i64 k.a) := (blk_cell B6.out 0).trans rfl; have dB6_0 := blk_frozen B6.out 0; have cB6_1 : w_6.cell? ⟨gB6, 1, none⟩ = some (.int .i64 k.b) := (blk_cell B6.out 1).trans rfl; have dB6_1 := blk_frozen B6.out 1; have cB6_2 : w_6.cell? ⟨gB6, 2, none⟩ = some (.int .i64 k.c) := (blk_cell B6.out 2).trans rfl; have dB6_2 := blk_frozen B6.out 2; have cB6_3 : w_6.cell? ⟨gB6, 3, none⟩ = some (.int .i64 k.d) := (blk_cell B6.out 3).trans rfl; have dB6_3 := blk_frozen B6.out 3; have cB6_4 : w_6.cell? ⟨gB6, 4, none⟩ = some (.int .i64 k.w) := (blk_cell B6.out 4).trans rfl; have dB6_4 := blk_frozen B6.out 4; have cB6_5 : w_6.cell? ⟨gB6, 5, none⟩ = some (.int .i64 k.s) := (blk_cell B6.out 5).trans rfl; have dB6_5 := blk_frozen B6.out 5; clear hb_))
  go_ret
  exact ⟨rfl, HT.out, HG.out⟩

def later (k : KS) (j : Nat) : List (Bool × Int) := if j = 0 then kWeak k ++ kStrong k else if j = 1 then kStrong k else []
theorem later_step (k : KS) (j : Nat) (h : j < 2) : later k j = (kFloors (kLo k ((j : Int) == 1)) (kHi k ((j : Int) == 1))).map (fun f => ((j : Int) == 1, f)) ++ later k (j + 1) := by
  rcases (by omega : j = 0 ∨ j = 1) with rfl | rfl
  · unfold later
    rw [if_pos rfl, if_neg (by omega), if_pos rfl, kWeak_is]
    rfl
  · unfold later
    rw [if_neg (by omega), if_pos rfl, if_neg (by omega), if_neg (by omega), kStrong_is, List.append_nil]
    rfl
set_option maxHeartbeats 8000000 in
set_option maxRecDepth 100000 in
theorem sfew_of (tb c0 : Nat) (k : KS) (hk : KGood k) (HW : ∀ t ∈ k.tests, SWithOk tb c0 k t) : SFewOk tb c0 k := by
  intro w hT
  have HT := Aside0.mk hT
  have HG := Aside0.mk (Hx.g_refl w (some tb))
  have HP := Aside0.mk (sPlace_is hk)
  have hpl := kPlace_lt hk
  have hdone := done_iff k
  have hs0 := sF_lo k
  have hs1 := sF_hi k
  have HK := Aside0.mk hk
  have HWW := Aside0.mk HW
  clear hT HW
  have HSD : Aside0 (k.done = true → sF k = 0) := ⟨fun h_ => by unfold sF; rw [gI_done h_]; rfl⟩
  by_cases hd : k.done = true
  · have hd2 := hdone.1 hd
    have e1 : (k.a == k.b) = true := by simpa using hd2.1
    have e2 : (k.c == k.d) = true := by simpa using hd2.2
    have hz := HSD.out hd
    rw [hz]
    clear hd hd2 hdone hz hs0 hs1 hpl hk
    go_enter Try.func39, Try.ntmps39
    go_wp2_with (first | ((with_reducible refine gate_dst (N := 4) rfl ?_); refine box_event ?hg (N := 4) ?hd (cs := #[.int .i64 k.a, .int .i64 k.b, .int .i64 k.c, .int .i64 k.d, .int .i64 k.w, .int .i64 k.s]) (t := 65) ?hr ?_; (case hd => rfl); (case hg => rfl); (case hr => first | (go_simp; done) | (go_simp; rfl)); intro gB4 hg_ w_gB4 BK_ hb_; have ORD_ : Aside0 ((True) ∧ (tb < gB4 ∧ w.heap.size ≤ gB4)) := ⟨by refine ⟨trivial, ?_⟩; (have := HT.out.lt); (have := HG.out.size); omega⟩; have ORD := ORD_; clear ORD_; have n0_ : Aside0 (Tab w_gB4 tb c0) := ⟨Tab.below (w := _) (by exact HT.out) hb_⟩; have n1_ : Aside0 (w.grownBy w_gB4 (some tb)) := ⟨Hx.g_below (by first | exact HG.out | exact Hx.g_drew HG.out | exact Hx.g_drewN HG.out _) hb_⟩; have m0_ : Aside0 (w_gB4.heap[gB4]? = some (.cells #[.int .i64 k.a, .int .i64 k.b, .int .i64 k.c, .int .i64 k.d, .int .i64 k.w, .int .i64 k.s] 65 (0, 0))) := ⟨BK_⟩; (try clear HT); (try clear HG); have HT := n0_; have HG := n1_; have B4 := m0_; clear n0_ n1_ m0_; have cB4_0 : w_gB4.cell? ⟨gB4, 0, none⟩ = some (.int .i64 k.a) := (blk_cell B4.out 0).trans rfl; have dB4_0 := blk_frozen B4.out 0; have cB4_1 : w_gB4.cell? ⟨gB4, 1, none⟩ = some (.int .i64 k.b) := (blk_cell B4.out 1).trans rfl; have dB4_1 := blk_frozen B4.out 1; have cB4_2 : w_gB4.cell? ⟨gB4, 2, none⟩ = some (.int .i64 k.c) := (blk_cell B4.out 2).trans rfl; have dB4_2 := blk_frozen B4.out 2; have cB4_3 : w_gB4.cell? ⟨gB4, 3, none⟩ = some (.int .i64 k.d) := (blk_cell B4.out 3).trans rfl; have dB4_3 := blk_frozen B4.out 3; have cB4_4 : w_gB4.cell? ⟨gB4, 4, none⟩ = some (.int .i64 k.w) := (blk_cell B4.out 4).trans rfl; have dB4_4 := blk_frozen B4.out 4; have cB4_5 : w_gB4.cell? ⟨gB4, 5, none⟩ = some (.int .i64 k.s) := (blk_cell B4.out 5).trans rfl; have dB4_5 := blk_frozen B4.out 5; clear hg_ BK_ hb_))
    go_ret
    exact ⟨rfl, HT.out, HG.out⟩
  · have hnd : ¬ (k.a = k.b ∧ k.c = k.d) := fun h_ => hd (hdone.2 h_)
    have HSF := Aside0.mk (sF_fold hk (by simpa using hd))
    have hcase : ((k.a == k.b) = false ∧ True) ∨ ((k.a == k.b) = true ∧ (k.c == k.d) = false) := by
      by_cases h1 : k.a = k.b
      · exact .inr ⟨by simpa using h1, by simpa using fun h2 => hnd ⟨h1, h2⟩⟩
      · exact .inl ⟨by simpa using h1, trivial⟩
    obtain ⟨pl, hple⟩ : ∃ pl, pl = kPlace k := ⟨_, rfl⟩
    have HST := Aside0.mk (fun (W : World) (h_ : Tab W tb c0) => Tab.store h_ hk)
    have HLK := Aside0.mk (fun (W : World) (h_ : Tab W tb c0) => Tab.look h_ hk)
    rw [← hple] at hpl HP HST HLK
    have HPL := Aside0.mk hpl
    have HB01 := Aside0.mk (And.intro hs0 hs1)
    clear hd hdone hnd hple hs0 hs1 hpl hk
    rcases hcase with ⟨e1, e2⟩ | ⟨e1, e2⟩
    all_goals
      go_enter Try.func39, Try.ntmps39
      go_upto_region 4 with (first | ((with_reducible refine gate_dst (N := 4) rfl ?_); refine box_event ?hg (N := 4) ?hd (cs := #[.int .i64 k.a, .int .i64 k.b, .int .i64 k.c, .int .i64 k.d, .int .i64 k.w, .int .i64 k.s]) (t := 65) ?hr ?_; (case hd => rfl); (case hg => rfl); (case hr => first | (go_simp; done) | (go_simp; rfl)); intro gB4 hg_ w_gB4 BK_ hb_; have ORD_ : Aside0 ((True) ∧ (tb < gB4 ∧ w.heap.size ≤ gB4)) := ⟨by refine ⟨trivial, ?_⟩; (have := HT.out.lt); (have := HG.out.size); omega⟩; have ORD := ORD_; clear ORD_; have n0_ : Aside0 (Tab w_gB4 tb c0) := ⟨Tab.below (w := _) (by exact HT.out) hb_⟩; have n1_ : Aside0 (w.grownBy w_gB4 (some tb)) := ⟨Hx.g_below (by first | exact HG.out | exact Hx.g_drew HG.out | exact Hx.g_drewN HG.out _) hb_⟩; have m0_ : Aside0 (w_gB4.heap[gB4]? = some (.cells #[.int .i64 k.a, .int .i64 k.b, .int .i64 k.c, .int .i64 k.d, .int .i64 k.w, .int .i64 k.s] 65 (0, 0))) := ⟨BK_⟩; (try clear HT); (try clear HG); have HT := n0_; have HG := n1_; have B4 := m0_; clear n0_ n1_ m0_; have cB4_0 : w_gB4.cell? ⟨gB4, 0, none⟩ = some (.int .i64 k.a) := (blk_cell B4.out 0).trans rfl; have dB4_0 := blk_frozen B4.out 0; have cB4_1 : w_gB4.cell? ⟨gB4, 1, none⟩ = some (.int .i64 k.b) := (blk_cell B4.out 1).trans rfl; have dB4_1 := blk_frozen B4.out 1; have cB4_2 : w_gB4.cell? ⟨gB4, 2, none⟩ = some (.int .i64 k.c) := (blk_cell B4.out 2).trans rfl; have dB4_2 := blk_frozen B4.out 2; have cB4_3 : w_gB4.cell? ⟨gB4, 3, none⟩ = some (.int .i64 k.d) := (blk_cell B4.out 3).trans rfl; have dB4_3 := blk_frozen B4.out 3; have cB4_4 : w_gB4.cell? ⟨gB4, 4, none⟩ = some (.int .i64 k.w) := (blk_cell B4.out 4).trans rfl; have dB4_4 := blk_frozen B4.out 4; have cB4_5 : w_gB4.cell? ⟨gB4, 5, none⟩ = some (.int .i64 k.s) := (blk_cell B4.out 5).trans rfl; have dB4_5 := blk_frozen B4.out 5; clear hg_ BK_ hb_) | ((with_reducible refine gate_callee (f := 63) rfl ?_); refine goesL_ (some 30) rfl rfl Try.func63 (by kernel_rfl) rfl #[.agg #[.int .i64 k.a, .int .i64 k.b, .int .i64 k.c, .int .i64 k.d, .int .i64 k.w, .int .i64 k.s]] rfl (by (try simp only [List.map_toArray, List.map_cons, List.map_nil]); first | done | rfl) ?_; refine (spec_kiPlace.calls _ _ _ _ _ _ _ _ HP.out).mono ?_; rintro e_ w_1 ⟨rfl, hb_⟩; refine ⟨_, rfl, ?_⟩; have n0_ : Aside0 (Tab w_1 tb c0) := ⟨Tab.below (w := _) (by exact HT.out) hb_⟩; have n1_ : Aside0 (w.grownBy w_1 (some tb)) := ⟨Hx.g_below (by first | exact HG.out | exact Hx.g_drew HG.out | exact Hx.g_drewN HG.out _) hb_⟩; have n2_ : Aside0 (w_1.heap[gB4]? = some (.cells #[.int .i64 k.a, .int .i64 k.b, .int .i64 k.c, .int .i64 k.d, .int .i64 k.w, .int .i64 k.s] 65 (0, 0))) := ⟨Hx.b_below hb_ B4.out⟩; (try clear cB4_0 dB4_0 cB4_1 dB4_1 cB4_2 dB4_2 cB4_3 dB4_3 cB4_4 dB4_4 cB4_5 dB4_5); (try clear HT); (try clear HG); (try clear B4); have HT := n0_; have HG := n1_; have B4 := n2_; clear n0_ n1_ n2_; have cB4_0 : w_1.cell? ⟨gB4, 0, none⟩ = some (.int .i64 k.a) := (blk_cell B4.out 0).trans rfl; have dB4_0 := blk_frozen B4.out 0; have cB4_1 : w_1.cell? ⟨gB4, 1, none⟩ = some (.int .i64 k.b) := (blk_cell B4.out 1).trans rfl; have dB4_1 := blk_frozen B4.out 1; have cB4_2 : w_1.cell? ⟨gB4, 2, none⟩ = some (.int .i64 k.c) := (blk_cell B4.out 2).trans rfl; have dB4_2 := blk_frozen B4.out 2; have cB4_3 : w_1.cell? ⟨gB4, 3, none⟩ = some (.int .i64 k.d) := (blk_cell B4.out 3).trans rfl; have dB4_3 := blk_frozen B4.out 3; have cB4_4 : w_1.cell? ⟨gB4, 4, none⟩ = some (.int .i64 k.w) := (blk_cell B4.out 4).trans rfl; have dB4_4 := blk_frozen B4.out 4; have cB4_5 : w_1.cell? ⟨gB4, 5, none⟩ = some (.int .i64 k.s) := (blk_cell B4.out 5).trans rfl; have dB4_5 := blk_frozen B4.out 5; clear hb_))
      obtain ⟨y, hy, ct, ft⟩ := HLK.out w_1 HT.out
      have p0 : (0 : Int) ≤ (pl : Int) := by omega
      have q0 : (pl : Int) < 38416 := by have := HPL.out; omega
      have hadd := Hw.add_off tb pl
      have c1 : decide (0 ≤ (pl : Int)) = true := decide_eq_true p0
      have c2 : decide ((pl : Int) < 38416) = true := decide_eq_true q0
      have c3 : decide (pl < 38416) = true := decide_eq_true HPL.out
      replace p0 := eq_true p0
      replace q0 := eq_true q0
      rcases hy with rfl | rfl
      · go_upto_region 6 with fail
        go_wp2
        clear ct ft
        clear cB4_0 dB4_0 cB4_1 dB4_1 cB4_2 dB4_2 cB4_3 dB4_3 cB4_4 dB4_4 cB4_5 dB4_5
        go_loopg [8, 9] 2 (fun n v8 v9 w' => ∃ (j : Nat) (best : Int), v9 = .int .i64 j ∧ v8 = .int .i64 best ∧ Aside0 (j + n = 2) ∧ Aside0 (kFold (sW k) best (later k j) = sF k) ∧ Aside0 (Tab w' tb c0) ∧ Aside0 (w.grownBy w' (some tb)) ∧ Aside0 (w'.heap[gB4]? = some (.cells #[.int .i64 k.a, .int .i64 k.b, .int .i64 k.c, .int .i64 k.d, .int .i64 k.w, .int .i64 k.s] 65 (0, 0))))
        case atStart => exact ⟨0, 1000, rfl, rfl, ⟨rfl⟩, HSF, HT, HG, B4⟩
        case round =>
          clear HT HG B4
          obtain ⟨j, best, rfl, rfl, HJ, HF, HT, HG, B4⟩ := hrel
          by_cases hlt : j < 2
          · have d1 : decide ((j : Int) < 2) = true := decide_eq_true (by omega)
            obtain ⟨ko, rfl⟩ : ∃ ko, gk = ko + 1 := ⟨gk - 1, by have := HJ.out; omega⟩
            obtain ⟨st, hst⟩ : ∃ st, ((j : Int) == 1) = st := ⟨_, rfl⟩
            have hls := later_step k j hlt
            rw [hst] at hls
            have hM := sMay_is k st
            have hbd := may_bd HK.out st
            have hmem := may_mem k st
            obtain ⟨lo, hlo⟩ : ∃ lo, lo = kLo k st := ⟨_, rfl⟩
            obtain ⟨hi, hhi⟩ : ∃ hi, hi = kHi k st := ⟨_, rfl⟩
            rw [← hlo, ← hhi] at hls hM hbd
            rw [← hlo, ← hhi] at hmem
            have HM := Aside0.mk hM
            have w1 : IntKind.i64.wrap (lo + 1) = lo + 1 := Hw.wrap_w (by omega) (by omega)
            have w2 : IntKind.i64.wrap ((j : Int) + 1) = ((j + 1 : Nat) : Int) := by rw [Hw.wrap_w (by omega) (by omega)]; omega
            have HF2 : Aside0 (kFold (sW k) best ((kFloors lo hi).map (fun g => (st, g)) ++ later k (j + 1)) = sF k) := ⟨by rw [← hls]; exact HF.out⟩
            have HBD := Aside0.mk hbd
            have HMEM := Aside0.mk hmem
            have HLT := Aside0.mk hlt
            clear hls hM hbd hmem hlo hhi HF hlt
            have cB4_0 : wr.cell? ⟨gB4, 0, none⟩ = some (.int .i64 k.a) := (blk_cell B4.out 0).trans rfl
            have dB4_0 := blk_frozen B4.out 0
            have cB4_1 : wr.cell? ⟨gB4, 1, none⟩ = some (.int .i64 k.b) := (blk_cell B4.out 1).trans rfl
            have dB4_1 := blk_frozen B4.out 1
            have cB4_2 : wr.cell? ⟨gB4, 2, none⟩ = some (.int .i64 k.c) := (blk_cell B4.out 2).trans rfl
            have dB4_2 := blk_frozen B4.out 2
            have cB4_3 : wr.cell? ⟨gB4, 3, none⟩ = some (.int .i64 k.d) := (blk_cell B4.out 3).trans rfl
            have dB4_3 := blk_frozen B4.out 3
            have cB4_4 : wr.cell? ⟨gB4, 4, none⟩ = some (.int .i64 k.w) := (blk_cell B4.out 4).trans rfl
            have dB4_4 := blk_frozen B4.out 4
            have cB4_5 : wr.cell? ⟨gB4, 5, none⟩ = some (.int .i64 k.s) := (blk_cell B4.out 5).trans rfl
            have dB4_5 := blk_frozen B4.out 5
            go_wp2_with (first | ((with_reducible refine gate_callee (f := 64) rfl ?_); refine goesL_ (some 48) rfl rfl Try.func64 (by kernel_rfl) rfl #[.agg #[.int .i64 k.a, .int .i64 k.b, .int .i64 k.c, .int .i64 k.d, .int .i64 k.w, .int .i64 k.s], .bool st] rfl (by (try simp only [List.map_toArray, List.map_cons, List.map_nil]); first | done | rfl) ?_; refine (spec_kiMay.calls 3 _ _ _ _ _ _ _ _ _ _ HM.out).mono ?_; rintro e_ w_2 ⟨rfl, hb_⟩; refine ⟨_, rfl, ?_⟩; have n0_ : Aside0 (Tab w_2 tb c0) := ⟨Tab.below (w := _) (by exact HT.out) hb_⟩; have n1_ : Aside0 (w.grownBy w_2 (some tb)) := ⟨Hx.g_below (by first | exact HG.out | exact Hx.g_drew HG.out | exact Hx.g_drewN HG.out _) hb_⟩; have n2_ : Aside0 (w_2.heap[gB4]? = some (.cells #[.int .i64 k.a, .int .i64 k.b, .int .i64 k.c, .int .i64 k.d, .int .i64 k.w, .int .i64 k.s] 65 (0, 0))) := ⟨Hx.b_below hb_ B4.out⟩; (try clear cB4_0 dB4_0 cB4_1 dB4_1 cB4_2 dB4_2 cB4_3 dB4_3 cB4_4 dB4_4 cB4_5 dB4_5); (try clear HT); (try clear HG); (try clear B4); have HT := n0_; have HG := n1_; have B4 := n2_; clear n0_ n1_ n2_; have cB4_0 : w_2.cell? ⟨gB4, 0, none⟩ = some (.int .i64 k.a) := (blk_cell B4.out 0).trans rfl; have dB4_0 := blk_frozen B4.out 0; have cB4_1 : w_2.cell? ⟨gB4, 1, none⟩ = some (.int .i64 k.b) := (blk_cell B4.out 1).trans rfl; have dB4_1 := blk_frozen B4.out 1; have cB4_2 : w_2.cell? ⟨gB4, 2, none⟩ = some (.int .i64 k.c) := (blk_cell B4.out 2).trans rfl; have dB4_2 := blk_frozen B4.out 2; have cB4_3 : w_2.cell? ⟨gB4, 3, none⟩ = some (.int .i64 k.d) := (blk_cell B4.out 3).trans rfl; have dB4_3 := blk_frozen B4.out 3; have cB4_4 : w_2.cell? ⟨gB4, 4, none⟩ = some (.int .i64 k.w) := (blk_cell B4.out 4).trans rfl; have dB4_4 := blk_frozen B4.out 4; have cB4_5 : w_2.cell? ⟨gB4, 5, none⟩ = some (.int .i64 k.s) := (blk_cell B4.out 5).trans rfl; have dB4_5 := blk_frozen B4.out 5; clear hb_))
            clear cB4_0 dB4_0 cB4_1 dB4_1 cB4_2 dB4_2 cB4_3 dB4_3 cB4_4 dB4_4 cB4_5 dB4_5
            go_loopg [8, 12] (hi - lo).toNat (fun n v8 v12 w' => ∃ (f best : Int), v12 = .int .i64 f ∧ v8 = .int .i64 best ∧ Aside0 (lo < f ∧ f ≤ 8 ∧ hi + 1 - f ≤ n) ∧ Aside0 (kFold (sW k) best ((kFloors (f - 1) hi).map (fun g => (st, g)) ++ later k (j + 1)) = sF k) ∧ Aside0 (Tab w' tb c0) ∧ Aside0 (w.grownBy w' (some tb)) ∧ Aside0 (w'.heap[gB4]? = some (.cells #[.int .i64 k.a, .int .i64 k.b, .int .i64 k.c, .int .i64 k.d, .int .i64 k.w, .int .i64 k.s] 65 (0, 0))))
            case atStart => exact ⟨lo + 1, best, rfl, rfl, ⟨by have := HBD.out; omega⟩, ⟨by rw [show lo + 1 - 1 = lo by omega]; exact HF2.out⟩, HT, HG, B4⟩
            case round =>
              clear HT HG B4 HF2
              obtain ⟨f, b2, rfl, rfl, HI, HF, HT, HG, B4⟩ := hrel
              by_cases hle : f ≤ hi
              · have d2 : decide (f ≤ hi) = true := decide_eq_true hle
                obtain ⟨ki, rfl⟩ : ∃ ki, gk = ki + 1 := ⟨gk - 1, by have := HI.out; omega⟩
                have w3 : IntKind.i64.wrap (f + 1) = f + 1 := Hw.wrap_w (by have := HI.out; have := HBD.out; omega) (by have := HI.out; omega)
                have hw1 := HWW.out (st, f) (HMEM.out f HI.out.1 hle)
                unfold SWithOk at hw1
                have HW1 := Aside0.mk hw1
                have HF2 : Aside0 (kFold (sW k) (min b2 (sW k (st, f))) ((kFloors (f + 1 - 1) hi).map (fun g => (st, g)) ++ later k (j + 1)) = sF k) := ⟨by
                  have h_ := HF.out
                  rw [kFloors_cons (lo := f - 1) (by omega), show f - 1 + 1 = f by omega, List.map_cons, List.cons_append, kFold_cons] at h_
                  rw [show f + 1 - 1 = f by omega]
                  exact h_⟩
                have HLE := Aside0.mk hle
                clear hw1 hle HF
                have cB4_0 : wr.cell? ⟨gB4, 0, none⟩ = some (.int .i64 k.a) := (blk_cell B4.out 0).trans rfl
                have dB4_0 := blk_frozen B4.out 0
                have cB4_1 : wr.cell? ⟨gB4, 1, none⟩ = some (.int .i64 k.b) := (blk_cell B4.out 1).trans rfl
                have dB4_1 := blk_frozen B4.out 1
                have cB4_2 : wr.cell? ⟨gB4, 2, none⟩ = some (.int .i64 k.c) := (blk_cell B4.out 2).trans rfl
                have dB4_2 := blk_frozen B4.out 2
                have cB4_3 : wr.cell? ⟨gB4, 3, none⟩ = some (.int .i64 k.d) := (blk_cell B4.out 3).trans rfl
                have dB4_3 := blk_frozen B4.out 3
                have cB4_4 : wr.cell? ⟨gB4, 4, none⟩ = some (.int .i64 k.w) := (blk_cell B4.out 4).trans rfl
                have dB4_4 := blk_frozen B4.out 4
                have cB4_5 : wr.cell? ⟨gB4, 5, none⟩ = some (.int .i64 k.s) := (blk_cell B4.out 5).trans rfl
                have dB4_5 := blk_frozen B4.out 5
                go_wp2_with (first | ((with_reducible refine gate_callee (f := 65) rfl ?_); refine goesL_ (some 65) rfl rfl Try.func65 (by kernel_rfl) rfl #[.slice (some ⟨tb, 0, none⟩) 38416 c0, .agg #[.int .i64 k.a, .int .i64 k.b, .int .i64 k.c, .int .i64 k.d, .int .i64 k.w, .int .i64 k.s], .bool st, .int .i64 f, .bool true] rfl (by (try simp only [List.map_toArray, List.map_cons, List.map_nil]); first | done | rfl) ?_; refine (HW1.out _ HT.out).mono ?_; rintro e_ w_3 ⟨rfl, ht_, hg_⟩; refine ⟨_, rfl, ?_⟩; have n0_ : Aside0 (Tab w_3 tb c0) := ⟨ht_⟩; have n1_ : Aside0 (w.grownBy w_3 (some tb)) := ⟨World.grownBy.trans (by first | exact HG.out | exact Hx.g_drew HG.out | exact Hx.g_drewN HG.out _) hg_⟩; have n2_ : Aside0 (w_3.heap[gB4]? = some (.cells #[.int .i64 k.a, .int .i64 k.b, .int .i64 k.c, .int .i64 k.d, .int .i64 k.w, .int .i64 k.s] 65 (0, 0))) := ⟨Hx.b_grown hg_ B4.out (by simp only [ne_eq, Option.some.injEq]; have := ORD.out; omega)⟩; (try clear cB4_0 dB4_0 cB4_1 dB4_1 cB4_2 dB4_2 cB4_3 dB4_3 cB4_4 dB4_4 cB4_5 dB4_5); (try clear HT); (try clear HG); (try clear B4); have HT := n0_; have HG := n1_; have B4 := n2_; clear n0_ n1_ n2_; have cB4_0 : w_3.cell? ⟨gB4, 0, none⟩ = some (.int .i64 k.a) := (blk_cell B4.out 0).trans rfl; have dB4_0 := blk_frozen B4.out 0; have cB4_1 : w_3.cell? ⟨gB4, 1, none⟩ = some (.int .i64 k.b) := (blk_cell B4.out 1).trans rfl; have dB4_1 := blk_frozen B4.out 1; have cB4_2 : w_3.cell? ⟨gB4, 2, none⟩ = some (.int .i64 k.c) := (blk_cell B4.out 2).trans rfl; have dB4_2 := blk_frozen B4.out 2; have cB4_3 : w_3.cell? ⟨gB4, 3, none⟩ = some (.int .i64 k.d) := (blk_cell B4.out 3).trans rfl; have dB4_3 := blk_frozen B4.out 3; have cB4_4 : w_3.cell? ⟨gB4, 4, none⟩ = some (.int .i64 k.w) := (blk_cell B4.out 4).trans rfl; have dB4_4 := blk_frozen B4.out 4; have cB4_5 : w_3.cell? ⟨gB4, 5, none⟩ = some (.int .i64 k.s) := (blk_cell B4.out 5).trans rfl; have dB4_5 := blk_frozen B4.out 5; clear ht_ hg_) | ((with_reducible refine gate_callee (f := 26) rfl ?_); refine goesL_ (some 66) rfl rfl Try.func26 (by kernel_rfl) rfl #[.int .i64 b2, .int .i64 (sW k (st, f))] rfl (by (try simp only [List.map_toArray, List.map_cons, List.map_nil]); first | done | rfl) ?_; refine (spec_l1Least.calls _ _ _ _ (least_is _ _)).mono ?_; rintro e_ w_4 ⟨rfl, hd_⟩; refine ⟨_, rfl, ?_⟩; have hb_ := hd_.below; clear hd_; have n0_ : Aside0 (Tab w_4 tb c0) := ⟨Tab.below (w := _) (by exact HT.out) hb_⟩; have n1_ : Aside0 (w.grownBy w_4 (some tb)) := ⟨Hx.g_below (by first | exact HG.out | exact Hx.g_drew HG.out | exact Hx.g_drewN HG.out _) hb_⟩; have n2_ : Aside0 (w_4.heap[gB4]? = some (.cells #[.int .i64 k.a, .int .i64 k.b, .int .i64 k.c, .int .i64 k.d, .int .i64 k.w, .int .i64 k.s] 65 (0, 0))) := ⟨Hx.b_below hb_ B4.out⟩; (try clear cB4_0 dB4_0 cB4_1 dB4_1 cB4_2 dB4_2 cB4_3 dB4_3 cB4_4 dB4_4 cB4_5 dB4_5); (try clear HT); (try clear HG); (try clear B4); have HT := n0_; have HG := n1_; have B4 := n2_; clear n0_ n1_ n2_; have cB4_0 : w_4.cell? ⟨gB4, 0, none⟩ = some (.int .i64 k.a) := (blk_cell B4.out 0).trans rfl; have dB4_0 := blk_frozen B4.out 0; have cB4_1 : w_4.cell? ⟨gB4, 1, none⟩ = some (.int .i64 k.b) := (blk_cell B4.out 1).trans rfl; have dB4_1 := blk_frozen B4.out 1; have cB4_2 : w_4.cell? ⟨gB4, 2, none⟩ = some (.int .i64 k.c) := (blk_cell B4.out 2).trans rfl; have dB4_2 := blk_frozen B4.out 2; have cB4_3 : w_4.cell? ⟨gB4, 3, none⟩ = some (.int .i64 k.d) := (blk_cell B4.out 3).trans rfl; have dB4_3 := blk_frozen B4.out 3; have cB4_4 : w_4.cell? ⟨gB4, 4, none⟩ = some (.int .i64 k.w) := (blk_cell B4.out 4).trans rfl; have dB4_4 := blk_frozen B4.out 4; have cB4_5 : w_4.cell? ⟨gB4, 5, none⟩ = some (.int .i64 k.s) := (blk_cell B4.out 5).trans rfl; have dB4_5 := blk_frozen B4.out 5; clear hb_))
                go_roundg ki
                case measure => omega
                case rel => exact ⟨f + 1, _, rfl, rfl, ⟨by have := HI.out; have := HLE.out; have := HBD.out; omega⟩, HF2, HT, HG, B4⟩
              · have d2 : decide (f ≤ hi) = false := decide_eq_false hle
                have HF2 : Aside0 (kFold (sW k) b2 (later k (j + 1)) = sF k) := ⟨by
                  have h_ := HF.out
                  rw [kFloors_nil (by omega)] at h_
                  exact h_⟩
                clear hle HF
                go_wp2
                go_roundg ko
                case measure => omega
                case rel => exact ⟨j + 1, b2, rfl, rfl, ⟨by have := HJ.out; omega⟩, HF2, HT, HG, B4⟩
          · have d1 : decide ((j : Int) < 2) = false := decide_eq_false (by omega)
            have hj : j = 2 := by have := HJ.out; omega
            have hb : best = sF k := by have h_ := HF.out; rw [hj] at h_; exact h_
            subst hb
            clear hlt hj HF
            obtain ⟨y, hy, ct, ft⟩ := HLK.out wr HT.out
            clear hy
            obtain ⟨ht1, ht2⟩ := HST.out wr HT.out
            have HT2 := Aside0.mk ht1
            have HG2 := Aside0.mk (HG.out.trans ht2)
            clear ht1 ht2
            have cB4_0 : wr.cell? ⟨gB4, 0, none⟩ = some (.int .i64 k.a) := (blk_cell B4.out 0).trans rfl
            have dB4_0 := blk_frozen B4.out 0
            have cB4_1 : wr.cell? ⟨gB4, 1, none⟩ = some (.int .i64 k.b) := (blk_cell B4.out 1).trans rfl
            have dB4_1 := blk_frozen B4.out 1
            have cB4_2 : wr.cell? ⟨gB4, 2, none⟩ = some (.int .i64 k.c) := (blk_cell B4.out 2).trans rfl
            have dB4_2 := blk_frozen B4.out 2
            have cB4_3 : wr.cell? ⟨gB4, 3, none⟩ = some (.int .i64 k.d) := (blk_cell B4.out 3).trans rfl
            have dB4_3 := blk_frozen B4.out 3
            have cB4_4 : wr.cell? ⟨gB4, 4, none⟩ = some (.int .i64 k.w) := (blk_cell B4.out 4).trans rfl
            have dB4_4 := blk_frozen B4.out 4
            have cB4_5 : wr.cell? ⟨gB4, 5, none⟩ = some (.int .i64 k.s) := (blk_cell B4.out 5).trans rfl
            have dB4_5 := blk_frozen B4.out 5
            go_wp2_with (first | ((with_reducible refine gate_store (t := 3) (p := 70) rfl ?_); refine store_event (t := 3) (p := 70) (v := ?vo) (w1 := wr.setCell ⟨tb, pl, none⟩ (.int .i64 (sF k))) ?hg ?ho ?hn ?hr ?_; (case ho => rfl); (case hg => rfl); (case hn => rfl); (case hr => first | (go_simp; done) | (go_simp; rfl)); intro w_9 hw_; rw [← hw_] at HT2 HG2; clear hw_))
            go_ret
            exact ⟨rfl, HT2.out, HG2.out⟩
      · have d1 : decide (sF k ≥ 0) = true := decide_eq_true HB01.out.1
        have d2 : decide (0 ≤ sF k) = true := decide_eq_true HB01.out.1
        go_wp2
        go_ret
        exact ⟨rfl, HT.out, HG.out⟩


theorem ssolver_ok (tb c0 : Nat) : ∀ (n : Nat) (k : KS), KGood k → k.ms ≤ n → SFewOk tb c0 k ∧ ∀ t ∈ k.tests, SWithOk tb c0 k t
  | 0, k, hk, hn => by
    have hw : ∀ t ∈ k.tests, SWithOk tb c0 k t := fun t ht => by have := (aft_good hk ht false).2; omega
    exact ⟨sfew_of tb c0 k hk hw, hw⟩
  | n + 1, k, hk, hn => by
    have hw : ∀ t ∈ k.tests, SWithOk tb c0 k t := fun t ht => by
      have a0 := aft_good hk ht false
      have a1 := aft_good hk ht true
      exact swith_of tb c0 k hk t ht (ssolver_ok tb c0 n _ a0.1 (by omega)).1 (ssolver_ok tb c0 n _ a1.1 (by omega)).1
    exact ⟨sfew_of tb c0 k hk hw, hw⟩
theorem sFirst_is {k : KS} (hk : KGood k) (hd : k.done = false) (hf : gI k < 1000) : (later k 0).find? (fun t => decide (sW k t = sF k)) = some (kFirst k) := by
  have h := (kFirst_is hk hd hf).2.2
  have e : (fun t => decide (sW k t = sF k)) = (fun t => decide (gW k t = gI k)) := by
    funext t
    unfold sW sF
    by_cases h_ : gW k t = gI k
    · simp [h_]
    · rw [decide_eq_false h_, decide_eq_false (by omega)]
  rw [e]
  exact h
def SFirstOk (tb c0 : Nat) (k : KS) : Prop := ∀ w, Tab w tb c0 → Calls Try.prog 41 #[.slice (some ⟨tb, 0, none⟩) 38416 c0, kCells k] w fun e w' => e = .returned (.tuple #[.bool (kFirst k).1, .int .i64 (kFirst k).2]) ∧ Tab w' tb c0 ∧ w.grownBy w' (some tb)
set_option maxHeartbeats 8000000 in
set_option maxRecDepth 100000 in
theorem sfirst_of (tb c0 : Nat) (k : KS) (hk : KGood k) (hd : k.done = false) (hf : gI k < 1000) : SFirstOk tb c0 k := by
  intro w hT
  have HT := Aside0.mk hT
  have HG := Aside0.mk (Hx.g_refl w (some tb))
  have HSO := Aside0.mk (ssolver_ok tb c0 k.ms k hk (Nat.le_refl _))
  have HFI := Aside0.mk (sFirst_is hk hd hf)
  have HFW := Aside0.mk HSO.out.1
  unfold SFewOk at HFW
  obtain ⟨u, hu⟩ : ∃ u, u = kFirst k := ⟨_, rfl⟩
  rw [← hu] at HFI ⊢
  have HK := Aside0.mk hk
  clear hT hu hd hf hk
  go_enter Try.func41, Try.ntmps41
  go_upto_region 2 with (first | ((with_reducible refine gate_dst (N := 3) rfl ?_); refine box_event ?hg (N := 3) ?hd (cs := #[.int .i64 k.a, .int .i64 k.b, .int .i64 k.c, .int .i64 k.d, .int .i64 k.w, .int .i64 k.s]) (t := 65) ?hr ?_; (case hd => rfl); (case hg => rfl); (case hr => first | (go_simp; done) | (go_simp; rfl)); intro gB4 hg_ w_gB4 BK_ hb_; have ORD_ : Aside0 ((True) ∧ (tb < gB4 ∧ w.heap.size ≤ gB4)) := ⟨by refine ⟨trivial, ?_⟩; (have := HT.out.lt); (have := HG.out.size); omega⟩; have ORD := ORD_; clear ORD_; have n0_ : Aside0 (Tab w_gB4 tb c0) := ⟨Tab.below (w := _) (by exact HT.out) hb_⟩; have n1_ : Aside0 (w.grownBy w_gB4 (some tb)) := ⟨Hx.g_below (by first | exact HG.out | exact Hx.g_drew HG.out | exact Hx.g_drewN HG.out _) hb_⟩; have m0_ : Aside0 (w_gB4.heap[gB4]? = some (.cells #[.int .i64 k.a, .int .i64 k.b, .int .i64 k.c, .int .i64 k.d, .int .i64 k.w, .int .i64 k.s] 65 (0, 0))) := ⟨BK_⟩; (try clear HT); (try clear HG); have HT := n0_; have HG := n1_; have B4 := m0_; clear n0_ n1_ m0_; have cB4_0 : w_gB4.cell? ⟨gB4, 0, none⟩ = some (.int .i64 k.a) := (blk_cell B4.out 0).trans rfl; have dB4_0 := blk_frozen B4.out 0; have cB4_1 : w_gB4.cell? ⟨gB4, 1, none⟩ = some (.int .i64 k.b) := (blk_cell B4.out 1).trans rfl; have dB4_1 := blk_frozen B4.out 1; have cB4_2 : w_gB4.cell? ⟨gB4, 2, none⟩ = some (.int .i64 k.c) := (blk_cell B4.out 2).trans rfl; have dB4_2 := blk_frozen B4.out 2; have cB4_3 : w_gB4.cell? ⟨gB4, 3, none⟩ = some (.int .i64 k.d) := (blk_cell B4.out 3).trans rfl; have dB4_3 := blk_frozen B4.out 3; have cB4_4 : w_gB4.cell? ⟨gB4, 4, none⟩ = some (.int .i64 k.w) := (blk_cell B4.out 4).trans rfl; have dB4_4 := blk_frozen B4.out 4; have cB4_5 : w_gB4.cell? ⟨gB4, 5, none⟩ = some (.int .i64 k.s) := (blk_cell B4.out 5).trans rfl; have dB4_5 := blk_frozen B4.out 5; clear hg_ BK_ hb_) | ((with_reducible refine gate_callee (f := 39) rfl ?_); refine goesL_ (some 13) rfl rfl Try.func39 (by kernel_rfl) rfl #[.slice (some ⟨tb, 0, none⟩) 38416 c0, .agg #[.int .i64 k.a, .int .i64 k.b, .int .i64 k.c, .int .i64 k.d, .int .i64 k.w, .int .i64 k.s], .bool true] rfl (by (try simp only [List.map_toArray, List.map_cons, List.map_nil]); first | done | rfl) ?_; refine (HFW.out _ HT.out).mono ?_; rintro e_ w_1 ⟨rfl, ht_, hg_⟩; refine ⟨_, rfl, ?_⟩; have n0_ : Aside0 (Tab w_1 tb c0) := ⟨ht_⟩; have n1_ : Aside0 (w.grownBy w_1 (some tb)) := ⟨World.grownBy.trans (by first | exact HG.out | exact Hx.g_drew HG.out | exact Hx.g_drewN HG.out _) hg_⟩; have n2_ : Aside0 (w_1.heap[gB4]? = some (.cells #[.int .i64 k.a, .int .i64 k.b, .int .i64 k.c, .int .i64 k.d, .int .i64 k.w, .int .i64 k.s] 65 (0, 0))) := ⟨Hx.b_grown hg_ B4.out (by simp only [ne_eq, Option.some.injEq]; have := ORD.out; omega)⟩; (try clear cB4_0 dB4_0 cB4_1 dB4_1 cB4_2 dB4_2 cB4_3 dB4_3 cB4_4 dB4_4 cB4_5 dB4_5); (try clear HT); (try clear HG); (try clear B4); have HT := n0_; have HG := n1_; have B4 := n2_; clear n0_ n1_ n2_; have cB4_0 : w_1.cell? ⟨gB4, 0, none⟩ = some (.int .i64 k.a) := (blk_cell B4.out 0).trans rfl; have dB4_0 := blk_frozen B4.out 0; have cB4_1 : w_1.cell? ⟨gB4, 1, none⟩ = some (.int .i64 k.b) := (blk_cell B4.out 1).trans rfl; have dB4_1 := blk_frozen B4.out 1; have cB4_2 : w_1.cell? ⟨gB4, 2, none⟩ = some (.int .i64 k.c) := (blk_cell B4.out 2).trans rfl; have dB4_2 := blk_frozen B4.out 2; have cB4_3 : w_1.cell? ⟨gB4, 3, none⟩ = some (.int .i64 k.d) := (blk_cell B4.out 3).trans rfl; have dB4_3 := blk_frozen B4.out 3; have cB4_4 : w_1.cell? ⟨gB4, 4, none⟩ = some (.int .i64 k.w) := (blk_cell B4.out 4).trans rfl; have dB4_4 := blk_frozen B4.out 4; have cB4_5 : w_1.cell? ⟨gB4, 5, none⟩ = some (.int .i64 k.s) := (blk_cell B4.out 5).trans rfl; have dB4_5 := blk_frozen B4.out 5; clear ht_ hg_))
  clear cB4_0 dB4_0 cB4_1 dB4_1 cB4_2 dB4_2 cB4_3 dB4_3 cB4_4 dB4_4 cB4_5 dB4_5
  go_wp2
  go_loopg [7] 2 (fun n v7 w' => ∃ (j : Nat), v7 = .int .i64 j ∧ Aside0 (j + n = 2) ∧ Aside0 ((later k j).find? (fun t => decide (sW k t = sF k)) = some u) ∧ Aside0 (Tab w' tb c0) ∧ Aside0 (w.grownBy w' (some tb)) ∧ Aside0 (w'.heap[gB4]? = some (.cells #[.int .i64 k.a, .int .i64 k.b, .int .i64 k.c, .int .i64 k.d, .int .i64 k.w, .int .i64 k.s] 65 (0, 0))))
  case atStart => exact ⟨0, rfl, ⟨rfl⟩, HFI, HT, HG, B4⟩
  case round =>
    clear HT HG B4 HFI
    obtain ⟨j, rfl, HJ, HF, HT, HG, B4⟩ := hrel
    by_cases hlt : j < 2
    · have d1 : decide ((j : Int) < 2) = true := decide_eq_true (by omega)
      obtain ⟨ko, rfl⟩ : ∃ ko, gk = ko + 1 := ⟨gk - 1, by have := HJ.out; omega⟩
      obtain ⟨st, hst⟩ : ∃ st, ((j : Int) == 1) = st := ⟨_, rfl⟩
      have hls := later_step k j hlt
      rw [hst] at hls
      have hM := sMay_is k st
      have hbd := may_bd HK.out st
      have hmem := may_mem k st
      obtain ⟨lo, hlo⟩ : ∃ lo, lo = kLo k st := ⟨_, rfl⟩
      obtain ⟨hi, hhi⟩ : ∃ hi, hi = kHi k st := ⟨_, rfl⟩
      rw [← hlo, ← hhi] at hls hM hbd
      rw [← hlo, ← hhi] at hmem
      have HM := Aside0.mk hM
      have w1 : IntKind.i64.wrap (lo + 1) = lo + 1 := Hw.wrap_w (by omega) (by omega)
      have w2 : IntKind.i64.wrap ((j : Int) + 1) = ((j + 1 : Nat) : Int) := by rw [Hw.wrap_w (by omega) (by omega)]; omega
      have HF2 : Aside0 (((kFloors lo hi).map (fun g => (st, g)) ++ later k (j + 1)).find? (fun t => decide (sW k t = sF k)) = some u) := ⟨by rw [← hls]; exact HF.out⟩
      have HBD := Aside0.mk hbd
      have HMEM := Aside0.mk hmem
      have HLT := Aside0.mk hlt
      clear hls hM hbd hmem hlo hhi HF hlt
      have cB4_0 : wr.cell? ⟨gB4, 0, none⟩ = some (.int .i64 k.a) := (blk_cell B4.out 0).trans rfl
      have dB4_0 := blk_frozen B4.out 0
      have cB4_1 : wr.cell? ⟨gB4, 1, none⟩ = some (.int .i64 k.b) := (blk_cell B4.out 1).trans rfl
      have dB4_1 := blk_frozen B4.out 1
      have cB4_2 : wr.cell? ⟨gB4, 2, none⟩ = some (.int .i64 k.c) := (blk_cell B4.out 2).trans rfl
      have dB4_2 := blk_frozen B4.out 2
      have cB4_3 : wr.cell? ⟨gB4, 3, none⟩ = some (.int .i64 k.d) := (blk_cell B4.out 3).trans rfl
      have dB4_3 := blk_frozen B4.out 3
      have cB4_4 : wr.cell? ⟨gB4, 4, none⟩ = some (.int .i64 k.w) := (blk_cell B4.out 4).trans rfl
      have dB4_4 := blk_frozen B4.out 4
      have cB4_5 : wr.cell? ⟨gB4, 5, none⟩ = some (.int .i64 k.s) := (blk_cell B4.out 5).trans rfl
      have dB4_5 := blk_frozen B4.out 5
      go_wp2_with (first | ((with_reducible refine gate_callee (f := 64) rfl ?_); refine goesL_ (some 22) rfl rfl Try.func64 (by kernel_rfl) rfl #[.agg #[.int .i64 k.a, .int .i64 k.b, .int .i64 k.c, .int .i64 k.d, .int .i64 k.w, .int .i64 k.s], .bool st] rfl (by (try simp only [List.map_toArray, List.map_cons, List.map_nil]); first | done | rfl) ?_; refine (spec_kiMay.calls 3 _ _ _ _ _ _ _ _ _ _ HM.out).mono ?_; rintro e_ w_2 ⟨rfl, hb_⟩; refine ⟨_, rfl, ?_⟩; have n0_ : Aside0 (Tab w_2 tb c0) := ⟨Tab.below (w := _) (by exact HT.out) hb_⟩; have n1_ : Aside0 (w.grownBy w_2 (some tb)) := ⟨Hx.g_below (by first | exact HG.out | exact Hx.g_drew HG.out | exact Hx.g_drewN HG.out _) hb_⟩; have n2_ : Aside0 (w_2.heap[gB4]? = some (.cells #[.int .i64 k.a, .int .i64 k.b, .int .i64 k.c, .int .i64 k.d, .int .i64 k.w, .int .i64 k.s] 65 (0, 0))) := ⟨Hx.b_below hb_ B4.out⟩; (try clear cB4_0 dB4_0 cB4_1 dB4_1 cB4_2 dB4_2 cB4_3 dB4_3 cB4_4 dB4_4 cB4_5 dB4_5); (try clear HT); (try clear HG); (try clear B4); have HT := n0_; have HG := n1_; have B4 := n2_; clear n0_ n1_ n2_; have cB4_0 : w_2.cell? ⟨gB4, 0, none⟩ = some (.int .i64 k.a) := (blk_cell B4.out 0).trans rfl; have dB4_0 := blk_frozen B4.out 0; have cB4_1 : w_2.cell? ⟨gB4, 1, none⟩ = some (.int .i64 k.b) := (blk_cell B4.out 1).trans rfl; have dB4_1 := blk_frozen B4.out 1; have cB4_2 : w_2.cell? ⟨gB4, 2, none⟩ = some (.int .i64 k.c) := (blk_cell B4.out 2).trans rfl; have dB4_2 := blk_frozen B4.out 2; have cB4_3 : w_2.cell? ⟨gB4, 3, none⟩ = some (.int .i64 k.d) := (blk_cell B4.out 3).trans rfl; have dB4_3 := blk_frozen B4.out 3; have cB4_4 : w_2.cell? ⟨gB4, 4, none⟩ = some (.int .i64 k.w) := (blk_cell B4.out 4).trans rfl; have dB4_4 := blk_frozen B4.out 4; have cB4_5 : w_2.cell? ⟨gB4, 5, none⟩ = some (.int .i64 k.s) := (blk_cell B4.out 5).trans rfl; have dB4_5 := blk_frozen B4.out 5; clear hb_))
      clear cB4_0 dB4_0 cB4_1 dB4_1 cB4_2 dB4_2 cB4_3 dB4_3 cB4_4 dB4_4 cB4_5 dB4_5
      go_loopg [10] (hi - lo).toNat (fun n v10 w' => ∃ (f : Int), v10 = .int .i64 f ∧ Aside0 (lo < f ∧ f ≤ 8 ∧ hi + 1 - f ≤ n) ∧ Aside0 (((kFloors (f - 1) hi).map (fun g => (st, g)) ++ later k (j + 1)).find? (fun t => decide (sW k t = sF k)) = some u) ∧ Aside0 (Tab w' tb c0) ∧ Aside0 (w.grownBy w' (some tb)) ∧ Aside0 (w'.heap[gB4]? = some (.cells #[.int .i64 k.a, .int .i64 k.b, .int .i64 k.c, .int .i64 k.d, .int .i64 k.w, .int .i64 k.s] 65 (0, 0))))
      case atStart => exact ⟨lo + 1, rfl, ⟨by have := HBD.out; omega⟩, ⟨by rw [show lo + 1 - 1 = lo by omega]; exact HF2.out⟩, HT, HG, B4⟩
      case round =>
        clear HT HG B4 HF2
        obtain ⟨f, rfl, HI, HF, HT, HG, B4⟩ := hrel
        by_cases hle : f ≤ hi
        · have d2 : decide (f ≤ hi) = true := decide_eq_true hle
          obtain ⟨ki, rfl⟩ : ∃ ki, gk = ki + 1 := ⟨gk - 1, by have := HI.out; omega⟩
          have w3 : IntKind.i64.wrap (f + 1) = f + 1 := Hw.wrap_w (by have := HI.out; have := HBD.out; omega) (by have := HI.out; omega)
          have hw1 := HSO.out.2 (st, f) (HMEM.out f HI.out.1 hle)
          unfold SWithOk at hw1
          have HW1 := Aside0.mk hw1
          have HF2 : Aside0 (((st, f) :: ((kFloors (f + 1 - 1) hi).map (fun g => (st, g)) ++ later k (j + 1))).find? (fun t => decide (sW k t = sF k)) = some u) := ⟨by
            have h_ := HF.out
            rw [kFloors_cons (lo := f - 1) (by omega), show f - 1 + 1 = f by omega, List.map_cons, List.cons_append] at h_
            rw [show f + 1 - 1 = f by omega]
            exact h_⟩
          have HLE := Aside0.mk hle
          clear hw1 hle HF
          by_cases heq : sW k (st, f) = sF k
          · have e1 : (sW k (st, f) == sF k) = true := by simpa using heq
            have HU : Aside0 ((st, f) = u) := ⟨by have h_ := HF2.out; rw [List.find?_cons, decide_eq_true heq] at h_; exact Option.some.inj h_⟩
            clear heq HF2
            have cB4_0 : wr.cell? ⟨gB4, 0, none⟩ = some (.int .i64 k.a) := (blk_cell B4.out 0).trans rfl
            have dB4_0 := blk_frozen B4.out 0
            have cB4_1 : wr.cell? ⟨gB4, 1, none⟩ = some (.int .i64 k.b) := (blk_cell B4.out 1).trans rfl
            have dB4_1 := blk_frozen B4.out 1
            have cB4_2 : wr.cell? ⟨gB4, 2, none⟩ = some (.int .i64 k.c) := (blk_cell B4.out 2).trans rfl
            have dB4_2 := blk_frozen B4.out 2
            have cB4_3 : wr.cell? ⟨gB4, 3, none⟩ = some (.int .i64 k.d) := (blk_cell B4.out 3).trans rfl
            have dB4_3 := blk_frozen B4.out 3
            have cB4_4 : wr.cell? ⟨gB4, 4, none⟩ = some (.int .i64 k.w) := (blk_cell B4.out 4).trans rfl
            have dB4_4 := blk_frozen B4.out 4
            have cB4_5 : wr.cell? ⟨gB4, 5, none⟩ = some (.int .i64 k.s) := (blk_cell B4.out 5).trans rfl
            have dB4_5 := blk_frozen B4.out 5
            go_wp2_with (first | ((with_reducible refine gate_callee (f := 65) rfl ?_); refine goesL_ (some 37) rfl rfl Try.func65 (by kernel_rfl) rfl #[.slice (some ⟨tb, 0, none⟩) 38416 c0, .agg #[.int .i64 k.a, .int .i64 k.b, .int .i64 k.c, .int .i64 k.d, .int .i64 k.w, .int .i64 k.s], .bool st, .int .i64 f, .bool true] rfl (by (try simp only [List.map_toArray, List.map_cons, List.map_nil]); first | done | rfl) ?_; refine (HW1.out _ HT.out).mono ?_; rintro e_ w_3 ⟨rfl, ht_, hg_⟩; refine ⟨_, rfl, ?_⟩; have n0_ : Aside0 (Tab w_3 tb c0) := ⟨ht_⟩; have n1_ : Aside0 (w.grownBy w_3 (some tb)) := ⟨World.grownBy.trans (by first | exact HG.out | exact Hx.g_drew HG.out | exact Hx.g_drewN HG.out _) hg_⟩; have n2_ : Aside0 (w_3.heap[gB4]? = some (.cells #[.int .i64 k.a, .int .i64 k.b, .int .i64 k.c, .int .i64 k.d, .int .i64 k.w, .int .i64 k.s] 65 (0, 0))) := ⟨Hx.b_grown hg_ B4.out (by simp only [ne_eq, Option.some.injEq]; have := ORD.out; omega)⟩; (try clear cB4_0 dB4_0 cB4_1 dB4_1 cB4_2 dB4_2 cB4_3 dB4_3 cB4_4 dB4_4 cB4_5 dB4_5); (try clear HT); (try clear HG); (try clear B4); have HT := n0_; have HG := n1_; have B4 := n2_; clear n0_ n1_ n2_; have cB4_0 : w_3.cell? ⟨gB4, 0, none⟩ = some (.int .i64 k.a) := (blk_cell B4.out 0).trans rfl; have dB4_0 := blk_frozen B4.out 0; have cB4_1 : w_3.cell? ⟨gB4, 1, none⟩ = some (.int .i64 k.b) := (blk_cell B4.out 1).trans rfl; have dB4_1 := blk_frozen B4.out 1; have cB4_2 : w_3.cell? ⟨gB4, 2, none⟩ = some (.int .i64 k.c) := (blk_cell B4.out 2).trans rfl; have dB4_2 := blk_frozen B4.out 2; have cB4_3 : w_3.cell? ⟨gB4, 3, none⟩ = some (.int .i64 k.d) := (blk_cell B4.out 3).trans rfl; have dB4_3 := blk_frozen B4.out 3; have cB4_4 : w_3.cell? ⟨gB4, 4, none⟩ = some (.int .i64 k.w) := (blk_cell B4.out 4).trans rfl; have dB4_4 := blk_frozen B4.out 4; have cB4_5 : w_3.cell? ⟨gB4, 5, none⟩ = some (.int .i64 k.s) := (blk_cell B4.out 5).trans rfl; have dB4_5 := blk_frozen B4.out 5; clear ht_ hg_))
            go_ret2
            rw [← HU.out]
            exact ⟨rfl, HT.out, HG.out⟩
          · have e1 : (sW k (st, f) == sF k) = false := by simpa using heq
            have HF3 : Aside0 (((kFloors (f + 1 - 1) hi).map (fun g => (st, g)) ++ later k (j + 1)).find? (fun t => decide (sW k t = sF k)) = some u) := ⟨by have h_ := HF2.out; rw [List.find?_cons, decide_eq_false heq] at h_; exact h_⟩
            clear heq HF2
            have cB4_0 : wr.cell? ⟨gB4, 0, none⟩ = some (.int .i64 k.a) := (blk_cell B4.out 0).trans rfl
            have dB4_0 := blk_frozen B4.out 0
            have cB4_1 : wr.cell? ⟨gB4, 1, none⟩ = some (.int .i64 k.b) := (blk_cell B4.out 1).trans rfl
            have dB4_1 := blk_frozen B4.out 1
            have cB4_2 : wr.cell? ⟨gB4, 2, none⟩ = some (.int .i64 k.c) := (blk_cell B4.out 2).trans rfl
            have dB4_2 := blk_frozen B4.out 2
            have cB4_3 : wr.cell? ⟨gB4, 3, none⟩ = some (.int .i64 k.d) := (blk_cell B4.out 3).trans rfl
            have dB4_3 := blk_frozen B4.out 3
            have cB4_4 : wr.cell? ⟨gB4, 4, none⟩ = some (.int .i64 k.w) := (blk_cell B4.out 4).trans rfl
            have dB4_4 := blk_frozen B4.out 4
            have cB4_5 : wr.cell? ⟨gB4, 5, none⟩ = some (.int .i64 k.s) := (blk_cell B4.out 5).trans rfl
            have dB4_5 := blk_frozen B4.out 5
            go_wp2_with (first | ((with_reducible refine gate_callee (f := 65) rfl ?_); refine goesL_ (some 37) rfl rfl Try.func65 (by kernel_rfl) rfl #[.slice (some ⟨tb, 0, none⟩) 38416 c0, .agg #[.int .i64 k.a, .int .i64 k.b, .int .i64 k.c, .int .i64 k.d, .int .i64 k.w, .int .i64 k.s], .bool st, .int .i64 f, .bool true] rfl (by (try simp only [List.map_toArray, List.map_cons, List.map_nil]); first | done | rfl) ?_; refine (HW1.out _ HT.out).mono ?_; rintro e_ w_3 ⟨rfl, ht_, hg_⟩; refine ⟨_, rfl, ?_⟩; have n0_ : Aside0 (Tab w_3 tb c0) := ⟨ht_⟩; have n1_ : Aside0 (w.grownBy w_3 (some tb)) := ⟨World.grownBy.trans (by first | exact HG.out | exact Hx.g_drew HG.out | exact Hx.g_drewN HG.out _) hg_⟩; have n2_ : Aside0 (w_3.heap[gB4]? = some (.cells #[.int .i64 k.a, .int .i64 k.b, .int .i64 k.c, .int .i64 k.d, .int .i64 k.w, .int .i64 k.s] 65 (0, 0))) := ⟨Hx.b_grown hg_ B4.out (by simp only [ne_eq, Option.some.injEq]; have := ORD.out; omega)⟩; (try clear cB4_0 dB4_0 cB4_1 dB4_1 cB4_2 dB4_2 cB4_3 dB4_3 cB4_4 dB4_4 cB4_5 dB4_5); (try clear HT); (try clear HG); (try clear B4); have HT := n0_; have HG := n1_; have B4 := n2_; clear n0_ n1_ n2_; have cB4_0 : w_3.cell? ⟨gB4, 0, none⟩ = some (.int .i64 k.a) := (blk_cell B4.out 0).trans rfl; have dB4_0 := blk_frozen B4.out 0; have cB4_1 : w_3.cell? ⟨gB4, 1, none⟩ = some (.int .i64 k.b) := (blk_cell B4.out 1).trans rfl; have dB4_1 := blk_frozen B4.out 1; have cB4_2 : w_3.cell? ⟨gB4, 2, none⟩ = some (.int .i64 k.c) := (blk_cell B4.out 2).trans rfl; have dB4_2 := blk_frozen B4.out 2; have cB4_3 : w_3.cell? ⟨gB4, 3, none⟩ = some (.int .i64 k.d) := (blk_cell B4.out 3).trans rfl; have dB4_3 := blk_frozen B4.out 3; have cB4_4 : w_3.cell? ⟨gB4, 4, none⟩ = some (.int .i64 k.w) := (blk_cell B4.out 4).trans rfl; have dB4_4 := blk_frozen B4.out 4; have cB4_5 : w_3.cell? ⟨gB4, 5, none⟩ = some (.int .i64 k.s) := (blk_cell B4.out 5).trans rfl; have dB4_5 := blk_frozen B4.out 5; clear ht_ hg_))
            go_roundg ki
            case measure => omega
            case rel => exact ⟨f + 1, rfl, ⟨by have := HI.out; have := HLE.out; have := HBD.out; omega⟩, HF3, HT, HG, B4⟩
        · have d2 : decide (f ≤ hi) = false := decide_eq_false hle
          have HF2 : Aside0 ((later k (j + 1)).find? (fun t => decide (sW k t = sF k)) = some u) := ⟨by
            have h_ := HF.out
            rw [kFloors_nil (by omega)] at h_
            exact h_⟩
          clear hle HF
          go_wp2
          go_roundg ko
          case measure => omega
          case rel => exact ⟨j + 1, rfl, ⟨by have := HJ.out; omega⟩, HF2, HT, HG, B4⟩
    · exfalso
      have hj : j = 2 := by have := HJ.out; omega
      have h_ := HF.out
      rw [hj] at h_
      simp [later] at h_


theorem Tab.grown2 {w w' : World} {tb c0 : Nat} {o : Option Nat} (h : Tab w tb c0) (hg : w.grownBy w' o) (h2 : some tb ≠ o) : Tab w' tb c0 := by
  obtain ⟨xs, h1, h3⟩ := h
  exact ⟨xs, Kd.R_grown h1 hg (fun k_ hk_ h_ => h2 (by rw [← h_]; exact congrArg some (Eq.symm hk_))), h3⟩
theorem Tab.far {w : World} {tb c0 g i : Nat} {v : Value} (h : Tab w tb c0) (h2 : tb ≠ g) : Tab (w.setCell ⟨g, i, none⟩ v) tb c0 := by
  obtain ⟨xs, h1, h3⟩ := h
  exact ⟨xs, Kd.R_far h1 (fun k_ hk_ => by have h_ : k_ = tb := hk_; rw [h_]; exact h2) _, h3⟩
theorem sBreaks_is (t : Bool × Int) (wk st : Int) : spec_kiBreaks.f t.1 t.2 wk st = some (kBreaks t wk st) := by
  unfold spec_kiBreaks.f kBreaks
  cases t.1 <;> simp
set_option maxHeartbeats 8000000 in
set_option maxRecDepth 100000 in
theorem splay_of (tb c0 : Nat) (k : KS) (wk st : Int) (hk : KGood k) (hf : gI k < 1000) (r : List S43) (hr : r = (kPlay wk st k.ms k).map toS) (w : World) (hT : Tab w tb c0) :
    Calls Try.prog 35 #[.slice (some ⟨tb, 0, none⟩) 38416 c0, kCells k, .int .i64 wk, .int .i64 st] w fun e w' => ∃ v_ : Value, e = .returned v_ ∧ Kd.R k43 43 w' w.heap.size (fun _ => True) v_ r ∧ Tab w' tb c0 ∧ w.grownBy w' (some tb) := by
  have HT := Aside0.mk hT
  have HG := Aside0.mk (Hx.g_refl w (some tb))
  have hms : k.ms ≤ 12 := by unfold KGood at hk; unfold KS.ms; omega
  have HK := Aside0.mk (And.intro hk (And.intro hf hms))
  have HR0 := Aside0.mk hr
  clear hT hk hf hms hr
  go_enter Try.func35, Try.ntmps35
  go_upto_region 1 with (first | ((with_reducible refine gate_dst (N := 5) rfl ?_); refine box_event ?hg (N := 5) ?hd (cs := #[.int .i64 k.a, .int .i64 k.b, .int .i64 k.c, .int .i64 k.d, .int .i64 k.w, .int .i64 k.s]) (t := 65) ?hr ?_; (case hd => rfl); (case hg => rfl); (case hr => first | (go_simp; done) | (go_simp; rfl)); intro gB5 hg_ w_gB5 BK_ hb_; have ORD_ : Aside0 ((True) ∧ (tb < gB5 ∧ w.heap.size ≤ gB5)) := ⟨by refine ⟨trivial, ?_⟩; (have := HT.out.lt); (have := HG.out.size); omega⟩; have ORD := ORD_; clear ORD_; have n0_ : Aside0 (Tab w_gB5 tb c0) := ⟨Tab.below (w := _) (by exact HT.out) hb_⟩; have n1_ : Aside0 (w.grownBy w_gB5 (some tb)) := ⟨Hx.g_below (by first | exact HG.out | exact Hx.g_drew HG.out | exact Hx.g_drewN HG.out _) hb_⟩; have m0_ : Aside0 (w_gB5.heap[gB5]? = some (.cells #[.int .i64 k.a, .int .i64 k.b, .int .i64 k.c, .int .i64 k.d, .int .i64 k.w, .int .i64 k.s] 65 (0, 0))) := ⟨BK_⟩; (try clear HT); (try clear HG); have HT := n0_; have HG := n1_; have B5 := m0_; clear n0_ n1_ m0_; have cB5_0 : w_gB5.cell? ⟨gB5, 0, none⟩ = some (.int .i64 k.a) := (blk_cell B5.out 0).trans rfl; have dB5_0 := blk_frozen B5.out 0; have cB5_1 : w_gB5.cell? ⟨gB5, 1, none⟩ = some (.int .i64 k.b) := (blk_cell B5.out 1).trans rfl; have dB5_1 := blk_frozen B5.out 1; have cB5_2 : w_gB5.cell? ⟨gB5, 2, none⟩ = some (.int .i64 k.c) := (blk_cell B5.out 2).trans rfl; have dB5_2 := blk_frozen B5.out 2; have cB5_3 : w_gB5.cell? ⟨gB5, 3, none⟩ = some (.int .i64 k.d) := (blk_cell B5.out 3).trans rfl; have dB5_3 := blk_frozen B5.out 3; have cB5_4 : w_gB5.cell? ⟨gB5, 4, none⟩ = some (.int .i64 k.w) := (blk_cell B5.out 4).trans rfl; have dB5_4 := blk_frozen B5.out 4; have cB5_5 : w_gB5.cell? ⟨gB5, 5, none⟩ = some (.int .i64 k.s) := (blk_cell B5.out 5).trans rfl; have dB5_5 := blk_frozen B5.out 5; clear hg_ BK_ hb_))
  go_wp2
  go_loopg [9] k.ms (fun n v9 w' => ∃ (q : KS) (xs : List S43), Aside0 (KGood q ∧ gI q < 1000 ∧ q.ms ≤ n ∧ xs.length + n ≤ 20) ∧ Aside0 (xs ++ (kPlay wk st n q).map toS = r) ∧ Aside0 (Kd.R k43 43 w' w.heap.size (fun k_ => gB5 < k_) v9 xs) ∧ Aside0 (w'.heap[gB5]? = some (.cells #[.int .i64 q.a, .int .i64 q.b, .int .i64 q.c, .int .i64 q.d, .int .i64 q.w, .int .i64 q.s] 65 (0, 0))) ∧ Aside0 (Tab w' tb c0) ∧ Aside0 (w.grownBy w' (some tb)))
  case atStart =>
    exact ⟨k, [], ⟨⟨HK.out.1, HK.out.2.1, Nat.le_refl _, by simpa using Nat.le_trans HK.out.2.2 (by omega)⟩⟩, ⟨by rw [HR0.out]; rfl⟩, ⟨Kd.R_nil _ _ _ _ _⟩, B5, HT, HG⟩
  case round =>
    clear HT HG B5
    clear cB5_0 dB5_0 cB5_1 dB5_1 cB5_2 dB5_2 cB5_3 dB5_3 cB5_4 dB5_4 cB5_5 dB5_5
    obtain ⟨q, xs, HI, HL, HR, B5, HT, HG⟩ := hrel
    have hq := HI.out.1
    have cB5_0 : wr.cell? ⟨gB5, 0, none⟩ = some (.int .i64 q.a) := (blk_cell B5.out 0).trans rfl
    have dB5_0 := blk_frozen B5.out 0
    have cB5_1 : wr.cell? ⟨gB5, 1, none⟩ = some (.int .i64 q.b) := (blk_cell B5.out 1).trans rfl
    have dB5_1 := blk_frozen B5.out 1
    have cB5_2 : wr.cell? ⟨gB5, 2, none⟩ = some (.int .i64 q.c) := (blk_cell B5.out 2).trans rfl
    have dB5_2 := blk_frozen B5.out 2
    have cB5_3 : wr.cell? ⟨gB5, 3, none⟩ = some (.int .i64 q.d) := (blk_cell B5.out 3).trans rfl
    have dB5_3 := blk_frozen B5.out 3
    have cB5_4 : wr.cell? ⟨gB5, 4, none⟩ = some (.int .i64 q.w) := (blk_cell B5.out 4).trans rfl
    have dB5_4 := blk_frozen B5.out 4
    have cB5_5 : wr.cell? ⟨gB5, 5, none⟩ = some (.int .i64 q.s) := (blk_cell B5.out 5).trans rfl
    have dB5_5 := blk_frozen B5.out 5
    by_cases hd : q.done = true
    · have hd2 := (done_iff q).1 hd
      have hc1 : decide (q.a < q.b) = false := decide_eq_false (by omega)
      have hc2 : decide (q.c < q.d) = false := decide_eq_false (by omega)
      have HD := Aside0.mk hd
      clear hd hq hd2
      go_wp2
      go_ret
      refine ⟨_, rfl, ?_, HT.out, HG.out⟩
      have hnil : kPlay wk st gk q = [] := by cases gk <;> simp [kPlay, HD.out]
      have h2_ := HL.out
      rw [hnil] at h2_
      have h3_ : xs = r := by simpa using h2_
      rw [← h3_]
      exact Kd.R_mono HR.out (fun _ _ => trivial)
    · have hd2 : q.done = false := by simpa using hd
      have hcase : (decide (q.a < q.b) = true ∧ True) ∨ (decide (q.a < q.b) = false ∧ decide (q.c < q.d) = true) := by
        have h_ : ¬ (q.a = q.b ∧ q.c = q.d) := fun h_ => hd ((done_iff q).2 h_)
        unfold KGood at hq
        by_cases h1 : q.a < q.b
        · exact .inl ⟨decide_eq_true h1, trivial⟩
        · exact .inr ⟨decide_eq_false h1, decide_eq_true (by omega)⟩
      have hfi := kFirst_is hq hd2 HI.out.2.1
      have hfo := sfirst_of tb c0 q hq hd2 HI.out.2.1
      unfold SFirstOk at hfo
      obtain ⟨t, ht⟩ : ∃ t, t = kFirst q := ⟨_, rfl⟩
      rw [← ht] at hfi hfo
      obtain ⟨br, hbr⟩ : ∃ br, br = kBreaks t wk st := ⟨_, rfl⟩
      have hft := sBreaks_is t wk st
      rw [← hbr] at hft
      have hbe := sAfter_is hq hfi.1 br
      have haf := kFirst_aft hq hd2 HI.out.2.1 br
      rw [← ht] at haf
      obtain ⟨q2, hq2⟩ : ∃ q2, q2 = q.aft t.1 br t.2 := ⟨_, rfl⟩
      rw [← hq2] at hbe haf
      have hms : 1 ≤ gk := by
        have h1_ := HI.out.2.2.1
        have h2_ := haf.2.1
        omega
      obtain ⟨k1, rfl⟩ : ∃ k1, gk = k1 + 1 := ⟨gk - 1, by omega⟩
      have HL2 : Aside0 ((xs ++ [(⟨t.1, t.2, br⟩ : S43)]) ++ (kPlay wk st k1 q2).map toS = r) := ⟨by
        have h_ := HL.out
        rw [kPlay, if_neg (by simp [hd2]), ← ht, ← hbr, ← hq2] at h_
        rw [← h_]
        simp [toS]⟩
      have HAF := Aside0.mk haf
      have HF := Aside0.mk hfo
      have HBh := Aside0.mk hbe
      have HBr := Aside0.mk hft
      clear hfi hfo hft hbe haf hq2 ht hbr hms hd hd2 HL hq
      obtain ⟨s1, fl⟩ := t
      simp only at HL2 HBr HF HBh
      obtain ⟨ys, hys⟩ : ∃ ys : List S43, ys = xs ++ [(⟨s1, fl, br⟩ : S43)] := ⟨_, rfl⟩
      have Nys := Aside0.mk hys
      rw [← hys] at HL2
      clear hys
      rcases hcase with ⟨hc1, hc2⟩ | ⟨hc1, hc2⟩
      all_goals
        go_wp2_with (first | ((with_reducible refine gate_callee (f := 41) rfl ?_); refine goesL_ (some 28) rfl rfl Try.func41 (by kernel_rfl) rfl #[.slice (some ⟨tb, 0, none⟩) 38416 c0, .agg #[.int .i64 q.a, .int .i64 q.b, .int .i64 q.c, .int .i64 q.d, .int .i64 q.w, .int .i64 q.s]] rfl (by (try simp only [List.map_toArray, List.map_cons, List.map_nil]); first | done | rfl) ?_; refine (HF.out _ HT.out).mono ?_; rintro e_ w_2 ⟨rfl, ht_, hg_⟩; refine ⟨_, rfl, ?_⟩; have n0_ : Aside0 (Tab w_2 tb c0) := ⟨ht_⟩; have n1_ : Aside0 (w.grownBy w_2 (some tb)) := ⟨World.grownBy.trans (by first | exact HG.out | exact Hx.g_drew HG.out | exact Hx.g_drewN HG.out _) hg_⟩; have n2_ : Aside0 (w_2.heap[gB5]? = some (.cells #[.int .i64 q.a, .int .i64 q.b, .int .i64 q.c, .int .i64 q.d, .int .i64 q.w, .int .i64 q.s] 65 (0, 0))) := ⟨Hx.b_grown hg_ B5.out (by simp only [ne_eq, Option.some.injEq]; have := ORD.out; omega)⟩; have n3_ : Aside0 (Kd.R k43 43 w_2 w.heap.size (fun k_ => gB5 < k_) u9 xs) := ⟨Kd.R_grown (row := some tb) HR.out hg_ (fun k_ hk_ h_ => by have := Option.some.inj h_; have := ORD.out; have : gB5 < k_ := hk_; omega)⟩; (try clear cB5_0 dB5_0 cB5_1 dB5_1 cB5_2 dB5_2 cB5_3 dB5_3 cB5_4 dB5_4 cB5_5 dB5_5); (try clear HT); (try clear HG); (try clear B5); (try clear HR); have HT := n0_; have HG := n1_; have B5 := n2_; have HR := n3_; clear n0_ n1_ n2_ n3_; have cB5_0 : w_2.cell? ⟨gB5, 0, none⟩ = some (.int .i64 q.a) := (blk_cell B5.out 0).trans rfl; have dB5_0 := blk_frozen B5.out 0; have cB5_1 : w_2.cell? ⟨gB5, 1, none⟩ = some (.int .i64 q.b) := (blk_cell B5.out 1).trans rfl; have dB5_1 := blk_frozen B5.out 1; have cB5_2 : w_2.cell? ⟨gB5, 2, none⟩ = some (.int .i64 q.c) := (blk_cell B5.out 2).trans rfl; have dB5_2 := blk_frozen B5.out 2; have cB5_3 : w_2.cell? ⟨gB5, 3, none⟩ = some (.int .i64 q.d) := (blk_cell B5.out 3).trans rfl; have dB5_3 := blk_frozen B5.out 3; have cB5_4 : w_2.cell? ⟨gB5, 4, none⟩ = some (.int .i64 q.w) := (blk_cell B5.out 4).trans rfl; have dB5_4 := blk_frozen B5.out 4; have cB5_5 : w_2.cell? ⟨gB5, 5, none⟩ = some (.int .i64 q.s) := (blk_cell B5.out 5).trans rfl; have dB5_5 := blk_frozen B5.out 5; clear ht_ hg_) | ((with_reducible refine gate_callee (f := 59) rfl ?_); refine goesL_ (some 35) rfl rfl Try.func59 (by kernel_rfl) rfl #[.bool s1, .int .i64 fl, .int .i64 wk, .int .i64 st] rfl (by (try simp only [List.map_toArray, List.map_cons, List.map_nil]); first | done | rfl) ?_; refine (spec_kiBreaks.calls _ _ _ _ _ _ HBr.out).mono ?_; rintro e_ w_3 ⟨rfl, hd_⟩; refine ⟨_, rfl, ?_⟩; have hb_ := hd_.below; clear hd_; have n0_ : Aside0 (Tab w_3 tb c0) := ⟨Tab.below (w := _) (by exact HT.out) hb_⟩; have n1_ : Aside0 (w.grownBy w_3 (some tb)) := ⟨Hx.g_below (by first | exact HG.out | exact Hx.g_drew HG.out | exact Hx.g_drewN HG.out _) hb_⟩; have n2_ : Aside0 (w_3.heap[gB5]? = some (.cells #[.int .i64 q.a, .int .i64 q.b, .int .i64 q.c, .int .i64 q.d, .int .i64 q.w, .int .i64 q.s] 65 (0, 0))) := ⟨Hx.b_below hb_ B5.out⟩; have n3_ : Aside0 (Kd.R k43 43 w_3 w.heap.size (fun k_ => gB5 < k_) u9 xs) := ⟨Kd.R_below HR.out hb_⟩; (try clear cB5_0 dB5_0 cB5_1 dB5_1 cB5_2 dB5_2 cB5_3 dB5_3 cB5_4 dB5_4 cB5_5 dB5_5); (try clear HT); (try clear HG); (try clear B5); (try clear HR); have HT := n0_; have HG := n1_; have B5 := n2_; have HR := n3_; clear n0_ n1_ n2_ n3_; have cB5_0 : w_3.cell? ⟨gB5, 0, none⟩ = some (.int .i64 q.a) := (blk_cell B5.out 0).trans rfl; have dB5_0 := blk_frozen B5.out 0; have cB5_1 : w_3.cell? ⟨gB5, 1, none⟩ = some (.int .i64 q.b) := (blk_cell B5.out 1).trans rfl; have dB5_1 := blk_frozen B5.out 1; have cB5_2 : w_3.cell? ⟨gB5, 2, none⟩ = some (.int .i64 q.c) := (blk_cell B5.out 2).trans rfl; have dB5_2 := blk_frozen B5.out 2; have cB5_3 : w_3.cell? ⟨gB5, 3, none⟩ = some (.int .i64 q.d) := (blk_cell B5.out 3).trans rfl; have dB5_3 := blk_frozen B5.out 3; have cB5_4 : w_3.cell? ⟨gB5, 4, none⟩ = some (.int .i64 q.w) := (blk_cell B5.out 4).trans rfl; have dB5_4 := blk_frozen B5.out 4; have cB5_5 : w_3.cell? ⟨gB5, 5, none⟩ = some (.int .i64 q.s) := (blk_cell B5.out 5).trans rfl; have dB5_5 := blk_frozen B5.out 5; clear hb_) | ((with_reducible refine gate_builtin (b := .append) (xs := #[.tmp 36, .tmp 41]) rfl ?_); at_builtin; refine Kd.R_append k43 (w0 := w_3) (w.heap.size) rfl (.tmp 36) (.tmp 41) 26 43 (.agg #[(.bool false), (.int .i64 0), (.bool false)]) 24 rfl Try.underlying26 info43 rfl (by decide) (by omega) u9 xs ((⟨s1, fl, br⟩ : S43)) [.bool s1, .int .i64 fl, .bool br] (fun k_ => gB5 < k_) (fun _ => False) rfl rfl ?aP (fun _ hk_ => hk_.elim) ?aF ?aO ?aB ?aS ?aL ?_; (case aP => exact k43_mkM _ _ _ ((⟨s1, fl, br⟩ : S43))); (case aB => exact Below.refl _ _); (case aF => exact (fun k_ hk_ => by have := ORD.out; have := HT.out.lt; have := HG.out.size; have := blk_lt B5.out; show gB5 < k_; omega)); (case aO => exact Kd.R_mono HR.out (fun k_ hk_ => hk_)); (case aS => exact (by have := HT.out.lt; have := HG.out.size; have := blk_lt B5.out; have := ORD.out; omega)); (case aL => have := HI.out; omega); intro v_ w_4 ho_ hb_ hg_ hat_; rw [← Nys.out] at ho_; have n0_ : Aside0 (Tab w_4 tb c0) := ⟨Tab.grown2 HT.out hg_ (fun h_ => by have h2_ : gB5 < tb := HR.out.1 _ h_.symm; have := ORD.out; omega)⟩; have n1_ : Aside0 (w.grownBy w_4 (some tb)) := ⟨Hx.g_append (by first | exact HG.out | exact Hx.g_drew HG.out | exact Hx.g_drewN HG.out _) hg_ (fun k_ h_ => by have h2_ : gB5 < k_ := HR.out.1 _ h_; have := ORD.out; omega)⟩; have n2_ : Aside0 (w_4.heap[gB5]? = some (.cells #[.int .i64 q.a, .int .i64 q.b, .int .i64 q.c, .int .i64 q.d, .int .i64 q.w, .int .i64 q.s] 65 (0, 0))) := ⟨Hx.b_grown hg_ B5.out (fun h_ => by have h2_ : gB5 < gB5 := HR.out.1 _ h_.symm; have := ORD.out; omega)⟩; have m0_ : Aside0 (Kd.R k43 43 w_4 w.heap.size (fun k_ => gB5 < k_) v_ ys) := ⟨ho_⟩; (try clear cB5_0 dB5_0 cB5_1 dB5_1 cB5_2 dB5_2 cB5_3 dB5_3 cB5_4 dB5_4 cB5_5 dB5_5); (try clear HT); (try clear HG); (try clear B5); (try clear HR); have HT := n0_; have HG := n1_; have B5 := n2_; have HR := m0_; clear n0_ n1_ n2_ m0_; have cB5_0 : w_4.cell? ⟨gB5, 0, none⟩ = some (.int .i64 q.a) := (blk_cell B5.out 0).trans rfl; have dB5_0 := blk_frozen B5.out 0; have cB5_1 : w_4.cell? ⟨gB5, 1, none⟩ = some (.int .i64 q.b) := (blk_cell B5.out 1).trans rfl; have dB5_1 := blk_frozen B5.out 1; have cB5_2 : w_4.cell? ⟨gB5, 2, none⟩ = some (.int .i64 q.c) := (blk_cell B5.out 2).trans rfl; have dB5_2 := blk_frozen B5.out 2; have cB5_3 : w_4.cell? ⟨gB5, 3, none⟩ = some (.int .i64 q.d) := (blk_cell B5.out 3).trans rfl; have dB5_3 := blk_frozen B5.out 3; have cB5_4 : w_4.cell? ⟨gB5, 4, none⟩ = some (.int .i64 q.w) := (blk_cell B5.out 4).trans rfl; have dB5_4 := blk_frozen B5.out 4; have cB5_5 : w_4.cell? ⟨gB5, 5, none⟩ = some (.int .i64 q.s) := (blk_cell B5.out 5).trans rfl; have dB5_5 := blk_frozen B5.out 5; clear ho_ hb_ hg_ hat_) | ((with_reducible refine gate_callee (f := 60) rfl ?_); refine goesL_ (some 47) rfl rfl Try.func60 (by kernel_rfl) rfl #[.agg #[.int .i64 q.a, .int .i64 q.b, .int .i64 q.c, .int .i64 q.d, .int .i64 q.w, .int .i64 q.s], .bool s1, .int .i64 fl, .bool br] rfl (by (try simp only [List.map_toArray, List.map_cons, List.map_nil]); first | done | rfl) ?_; refine (spec_kiAfter.calls 9 q.a q.b q.c q.d q.w q.s s1 fl br _ _ _ _ _ _ _ HBh.out).mono ?_; rintro e_ w_5 ⟨rfl, hb_⟩; refine ⟨_, rfl, ?_⟩; have n0_ : Aside0 (Tab w_5 tb c0) := ⟨Tab.below (w := _) (by exact HT.out) hb_⟩; have n1_ : Aside0 (w.grownBy w_5 (some tb)) := ⟨Hx.g_below (by first | exact HG.out | exact Hx.g_drew HG.out | exact Hx.g_drewN HG.out _) hb_⟩; have n2_ : Aside0 (w_5.heap[gB5]? = some (.cells #[.int .i64 q.a, .int .i64 q.b, .int .i64 q.c, .int .i64 q.d, .int .i64 q.w, .int .i64 q.s] 65 (0, 0))) := ⟨Hx.b_below hb_ B5.out⟩; have n3_ : Aside0 (Kd.R k43 43 w_5 w.heap.size (fun k_ => gB5 < k_) v_ ys) := ⟨Kd.R_below HR.out hb_⟩; (try clear cB5_0 dB5_0 cB5_1 dB5_1 cB5_2 dB5_2 cB5_3 dB5_3 cB5_4 dB5_4 cB5_5 dB5_5); (try clear HT); (try clear HG); (try clear B5); (try clear HR); have HT := n0_; have HG := n1_; have B5 := n2_; have HR := n3_; clear n0_ n1_ n2_ n3_; have cB5_0 : w_5.cell? ⟨gB5, 0, none⟩ = some (.int .i64 q.a) := (blk_cell B5.out 0).trans rfl; have dB5_0 := blk_frozen B5.out 0; have cB5_1 : w_5.cell? ⟨gB5, 1, none⟩ = some (.int .i64 q.b) := (blk_cell B5.out 1).trans rfl; have dB5_1 := blk_frozen B5.out 1; have cB5_2 : w_5.cell? ⟨gB5, 2, none⟩ = some (.int .i64 q.c) := (blk_cell B5.out 2).trans rfl; have dB5_2 := blk_frozen B5.out 2; have cB5_3 : w_5.cell? ⟨gB5, 3, none⟩ = some (.int .i64 q.d) := (blk_cell B5.out 3).trans rfl; have dB5_3 := blk_frozen B5.out 3; have cB5_4 : w_5.cell? ⟨gB5, 4, none⟩ = some (.int .i64 q.w) := (blk_cell B5.out 4).trans rfl; have dB5_4 := blk_frozen B5.out 4; have cB5_5 : w_5.cell? ⟨gB5, 5, none⟩ = some (.int .i64 q.s) := (blk_cell B5.out 5).trans rfl; have dB5_5 := blk_frozen B5.out 5; clear hb_) | ((with_reducible refine gate_store (t := 65) (p := 5) rfl ?_); refine store_event (t := 65) (p := 5) (v := ?vo_w6) (w1 := (((((((w_5).setCell ⟨gB5, 0, none⟩ (.int .i64 q2.a)).setCell ⟨gB5, 1, none⟩ (.int .i64 q2.b)).setCell ⟨gB5, 2, none⟩ (.int .i64 q2.c)).setCell ⟨gB5, 3, none⟩ (.int .i64 q2.d)).setCell ⟨gB5, 4, none⟩ (.int .i64 q2.w)).setCell ⟨gB5, 5, none⟩ (.int .i64 q2.s))) ?hg ?ho ?hn ?hr ?_; (case ho => rfl); (case hg => rfl); (case hn => rfl); (case hr => first | (go_simp; done) | (go_simp; rfl)); intro w_6 hw_; have n0_ : Aside0 (Tab w_6 tb c0) := ⟨by rw [hw_]; exact Tab.far (Tab.far (Tab.far (Tab.far (Tab.far (Tab.far HT.out (show tb ≠ gB5 by have := ORD.out; omega)) (show tb ≠ gB5 by have := ORD.out; omega)) (show tb ≠ gB5 by have := ORD.out; omega)) (show tb ≠ gB5 by have := ORD.out; omega)) (show tb ≠ gB5 by have := ORD.out; omega)) (show tb ≠ gB5 by have := ORD.out; omega)⟩; have n1_ : Aside0 (w.grownBy w_6 (some tb)) := ⟨by rw [hw_]; exact Hx.g_set (Hx.g_set (Hx.g_set (Hx.g_set (Hx.g_set (Hx.g_set HG.out (by have := ORD.out; omega)) (by have := ORD.out; omega)) (by have := ORD.out; omega)) (by have := ORD.out; omega)) (by have := ORD.out; omega)) (by have := ORD.out; omega)⟩; have n2_ : Aside0 (w_6.heap[gB5]? = some (.cells #[.int .i64 q2.a, .int .i64 q2.b, .int .i64 q2.c, .int .i64 q2.d, .int .i64 q2.w, .int .i64 q2.s] 65 (0, 0))) := ⟨by rw [hw_]; exact blk_put (blk_put (blk_put (blk_put (blk_put (blk_put B5.out 0 _ rfl) 1 _ rfl) 2 _ rfl) 3 _ rfl) 4 _ rfl) 5 _ rfl⟩; have n3_ : Aside0 (Kd.R k43 43 w_6 w.heap.size (fun k_ => gB5 < k_) v_ ys) := ⟨by rw [hw_]; exact Kd.R_far (Kd.R_far (Kd.R_far (Kd.R_far (Kd.R_far (Kd.R_far HR.out (fun k_ hk_ => show k_ ≠ gB5 by have h1_ : gB5 < k_ := hk_; have := ORD.out; omega) _) (fun k_ hk_ => show k_ ≠ gB5 by have h1_ : gB5 < k_ := hk_; have := ORD.out; omega) _) (fun k_ hk_ => show k_ ≠ gB5 by have h1_ : gB5 < k_ := hk_; have := ORD.out; omega) _) (fun k_ hk_ => show k_ ≠ gB5 by have h1_ : gB5 < k_ := hk_; have := ORD.out; omega) _) (fun k_ hk_ => show k_ ≠ gB5 by have h1_ : gB5 < k_ := hk_; have := ORD.out; omega) _) (fun k_ hk_ => show k_ ≠ gB5 by have h1_ : gB5 < k_ := hk_; have := ORD.out; omega) _⟩; (try clear cB5_0 dB5_0 cB5_1 dB5_1 cB5_2 dB5_2 cB5_3 dB5_3 cB5_4 dB5_4 cB5_5 dB5_5); (try clear HT); (try clear HG); (try clear B5); (try clear HR); have HT := n0_; have HG := n1_; have B5 := n2_; have HR := n3_; clear n0_ n1_ n2_ n3_; have cB5_0 : w_6.cell? ⟨gB5, 0, none⟩ = some (.int .i64 q2.a) := (blk_cell B5.out 0).trans rfl; have dB5_0 := blk_frozen B5.out 0; have cB5_1 : w_6.cell? ⟨gB5, 1, none⟩ = some (.int .i64 q2.b) := (blk_cell B5.out 1).trans rfl; have dB5_1 := blk_frozen B5.out 1; have cB5_2 : w_6.cell? ⟨gB5, 2, none⟩ = some (.int .i64 q2.c) := (blk_cell B5.out 2).trans rfl; have dB5_2 := blk_frozen B5.out 2; have cB5_3 : w_6.cell? ⟨gB5, 3, none⟩ = some (.int .i64 q2.d) := (blk_cell B5.out 3).trans rfl; have dB5_3 := blk_frozen B5.out 3; have cB5_4 : w_6.cell? ⟨gB5, 4, none⟩ = some (.int .i64 q2.w) := (blk_cell B5.out 4).trans rfl; have dB5_4 := blk_frozen B5.out 4; have cB5_5 : w_6.cell? ⟨gB5, 5, none⟩ = some (.int .i64 q2.s) := (blk_cell B5.out 5).trans rfl; have dB5_5 := blk_frozen B5.out 5; clear hw_))
        go_roundg k1
        case measure => omega
        case rel => exact ⟨q2, ys, ⟨⟨HAF.out.1, HAF.out.2.2, by have h1_ := HI.out.2.2.1; have h2_ := HAF.out.2.1; omega, by have h1_ := HI.out.2.2.2; have h2_ := congrArg List.length Nys.out; simp at h2_; omega⟩⟩, HL2, HR, B5, HT, HG⟩


/-! ### spec_kiStart: function 37 -/
def spec_kiStart.f (a0 : Int) (a1 : Int) (a2 : Int) : Option (Int × Int × Int × Int × Int × Int) := some (0, a2, 0, a2, a0, a1)
set_option maxHeartbeats 8000000 in
set_option maxRecDepth 100000 in
theorem spec_kiStart.calls (a0 : Int) (a1 : Int) (a2 : Int) (r1 : Int) (r2 : Int) (r3 : Int) (r4 : Int) (r5 : Int) (r6 : Int) (w : World) (h : spec_kiStart.f a0 a1 a2 = some (r1, r2, r3, r4, r5, r6)) :
    Calls Try.prog 37 #[.int .i64 a0, .int .i64 a1, .int .i64 a2] w fun e w' => e = .returned (.agg #[.int .i64 r1, .int .i64 r2, .int .i64 r3, .int .i64 r4, .int .i64 r5, .int .i64 r6]) ∧ Below w.heap.size w w' := by
  have hu65 := Try.underlying65
  have HB := Aside0.mk (Below.refl w.heap.size w)
  have H : (some (0, a2, 0, a2, a0, a1)) = some (r1, r2, r3, r4, r5, r6) := h
  clear h
  simp only [Option.some.injEq, Prod.mk.injEq] at H
  obtain ⟨rfl, rfl, rfl, rfl, rfl, rfl⟩ := H
  go_enter Try.func37, Try.ntmps37
  go_wp2_with (first | ((with_reducible refine gate_dst (N := 6) rfl ?_); refine box_event ?hg (N := 6) ?hd (cs := #[.int .i64 0, .int .i64 0, .int .i64 0, .int .i64 0, .int .i64 0, .int .i64 0]) (t := 65) ?hr ?_; (case hd => rfl); (case hg => rfl); (case hr => first | (go_simp; done) | (go_simp; rfl)); intro gb249 hg w4 hbox hb; have n0_ := Aside0.mk (below_step (by repeat (first | (with_reducible first | exact HB.out | apply below_alloc | apply pw_below_drewN | apply below_drew1) | exact HB.out)) hb); have n1_ := Aside0.mk (hbox); have n2_ := Aside0.mk ((by rw [hg]; exact (below_size (by repeat (first | (with_reducible first | exact HB.out | apply below_alloc | apply pw_below_drewN | apply below_drew1) | exact HB.out))) : w.heap.size ≤ gb249)); have n3_ := Aside0.mk ((by rw [hg]; exact (below_size (by repeat (first | (with_reducible first | exact HB.out | apply below_alloc | apply pw_below_drewN | apply below_drew1) | exact HB.out))) : w.heap.size ≤ gb249)); clear HB; have HB := n0_; have BK249 := n1_; have GW249 := n2_; have GE249 := n3_; clear n0_ n1_ n2_ n3_; clear hb hbox hg; have hcz5_0 : w4.cell? ⟨gb249, 0, none⟩ = some (.int .i64 0) := (blk_cell BK249.out 0).trans rfl; have hcz5_1 : w4.cell? ⟨gb249, 1, none⟩ = some (.int .i64 0) := (blk_cell BK249.out 1).trans rfl; have hcz5_2 : w4.cell? ⟨gb249, 2, none⟩ = some (.int .i64 0) := (blk_cell BK249.out 2).trans rfl; have hcz5_3 : w4.cell? ⟨gb249, 3, none⟩ = some (.int .i64 0) := (blk_cell BK249.out 3).trans rfl; have hcz5_4 : w4.cell? ⟨gb249, 4, none⟩ = some (.int .i64 0) := (blk_cell BK249.out 4).trans rfl; have hcz5_5 : w4.cell? ⟨gb249, 5, none⟩ = some (.int .i64 0) := (blk_cell BK249.out 5).trans rfl; have hfz5_0 := blk_frozen BK249.out 0; have hfz5_1 := blk_frozen BK249.out 1; have hfz5_2 := blk_frozen BK249.out 2; have hfz5_3 := blk_frozen BK249.out 3; have hfz5_4 := blk_frozen BK249.out 4; have hfz5_5 := blk_frozen BK249.out 5))
  refine bodyPost_ret (results_cell_row rfl _ _ gb249 65 #[.int .i64 0, .int .i64 a2, .int .i64 0, .int .i64 a2, .int .i64 a0, .int .i64 a1] (0, 0) _ rfl (by (with_reducible repeat (first | refine blk_drewN ?_ _ | refine blk_drew ?_ | refine blk_alloc ?_ _)); refine blk_put (cs := #[.int .i64 0, .int .i64 a2, .int .i64 0, .int .i64 a2, .int .i64 a0, .int .i64 0]) ?_ 5 _ rfl; (with_reducible repeat (first | refine blk_drewN ?_ _ | refine blk_drew ?_ | refine blk_alloc ?_ _)); refine blk_put (cs := #[.int .i64 0, .int .i64 a2, .int .i64 0, .int .i64 a2, .int .i64 0, .int .i64 0]) ?_ 4 _ rfl; (with_reducible repeat (first | refine blk_drewN ?_ _ | refine blk_drew ?_ | refine blk_alloc ?_ _)); refine blk_put (cs := #[.int .i64 0, .int .i64 a2, .int .i64 0, .int .i64 0, .int .i64 0, .int .i64 0]) ?_ 3 _ rfl; (with_reducible repeat (first | refine blk_drewN ?_ _ | refine blk_drew ?_ | refine blk_alloc ?_ _)); refine blk_put (cs := #[.int .i64 0, .int .i64 a2, .int .i64 0, .int .i64 0, .int .i64 0, .int .i64 0]) ?_ 2 _ rfl; (with_reducible repeat (first | refine blk_drewN ?_ _ | refine blk_drew ?_ | refine blk_alloc ?_ _)); refine blk_put (cs := #[.int .i64 0, .int .i64 0, .int .i64 0, .int .i64 0, .int .i64 0, .int .i64 0]) ?_ 1 _ rfl; (with_reducible repeat (first | refine blk_drewN ?_ _ | refine blk_drew ?_ | refine blk_alloc ?_ _)); refine blk_put (cs := #[.int .i64 0, .int .i64 0, .int .i64 0, .int .i64 0, .int .i64 0, .int .i64 0]) ?_ 0 _ rfl; (with_reducible repeat (first | refine blk_drewN ?_ _ | refine blk_drew ?_ | refine blk_alloc ?_ _)); exact BK249.out) Try.underlying65 rfl (by kernel_rfl)) rfl ?_
  exact ⟨by first | rfl | (simp [errW_none, errW_some] <;> rfl) | (simp [*, errW_none, errW_some] <;> rfl), by repeat (first | (with_reducible first | exact HB.out | apply below_alloc | apply pw_below_drewN | apply below_drew1 | refine below_set ?_ GE249.out) | exact HB.out)⟩

-- FOR spec.PlayKinds
-- KIND rounds=0 making=1
-- CALLS spec.kiPlay ; spec.kiTable ; spec.kiAsked ; spec.kiPair ; spec.kiStart ; impl.PlayKinds

theorem kiT_l0 (n : Nat) (hn : n ≤ 38416) : ∀ (d k i : Nat), d + i = n → d < k → spec_kiTable.l0 k (List.replicate i (-1) ++ List.replicate d 0) (n : Int) (i : Int) = some (List.replicate n (-1))
  | 0, k, i, h, hk => by
    obtain ⟨k, rfl⟩ : ∃ m, k = m + 1 := ⟨k - 1, by omega⟩
    rw [spec_kiTable.l0, if_neg (by omega)]
    have : i = n := by omega
    subst this
    simp
  | d + 1, k, i, h, hk => by
    obtain ⟨k, rfl⟩ : ∃ m, k = m + 1 := ⟨k - 1, by omega⟩
    rw [spec_kiTable.l0, if_pos (by omega), if_pos (by omega), if_pos (by simp; omega), Hw.wrap_id (by omega) (by omega)]
    have ih := kiT_l0 n hn d k (i + 1) (by omega) (by omega)
    have e : (List.replicate i (-1 : Int) ++ List.replicate (d + 1) 0).set i (-1) = List.replicate (i + 1) (-1) ++ List.replicate d 0 := by
      have h2 := Hw.set_next (List.replicate i (-1 : Int)) d 0 (-1)
      rw [List.length_replicate] at h2
      rw [h2, List.replicate_succ' (n := i)]
    rw [Int.toNat_natCast, e, show (i : Int) + 1 = ((i + 1 : Nat) : Int) by omega]
    exact ih
theorem kiT_all (n : Nat) (hn : n ≤ 38416) : spec_kiTable.l0 (n + 1) (List.replicate n 0) (n : Int) 0 = some (List.replicate n (-1)) := by
  have h := kiT_l0 n hn n (n + 1) 0 (by omega) (by omega)
  simpa using h
theorem kiTable_is : spec_kiTable.f 38417 = some (List.replicate 38416 (-1)) := by
  have e : ((((((7 * 7) * 7) * 7) * 4) * 4) : Int) = 38416 := by decide
  unfold spec_kiTable.f
  rw [e, if_pos (by omega), if_pos (by omega), Option.bind_some, List.length_replicate]
  have e2 : (38416 : Int).toNat = 38416 := rfl
  rw [e2]
  exact kiT_all 38416 (Nat.le_refl _)
theorem tab_of {w : World} {b : Nat} {v : Value} (h : Kd.R (Kd.int .i64) 3 w b (fun _ => True) v (List.replicate 38416 (-1))) : ∃ tb c0 : Nat, v = .slice (some ⟨tb, 0, none⟩) 38416 c0 ∧ Tab w tb c0 ∧ b ≤ tb := by
  obtain ⟨g, cap, e, h1, h2, _⟩ := Kd.R_form h (by rw [List.length_replicate]; omega)
  rw [List.length_replicate] at e
  subst e
  refine ⟨g, cap, rfl, ⟨List.replicate 38416 (-1), ?_, fun k hk => .inl ?_⟩, h1⟩
  · obtain ⟨h0, inner, ho, hr⟩ := Kd.R_lower h (Nat.zero_le b)
    exact ⟨fun k hk => by simpa [Value.ownBlock] using hk.symm, inner, ho, hr⟩
  · rw [List.getElem?_replicate, if_pos (kPlace_lt hk)]
theorem kiAsked_is (a b c : Int) : spec_kiAsked.f a b c = some (kAsk a b c) := by
  unfold spec_kiAsked.f spec_kiFloors.f spec_l1In.f kAsk
  by_cases h1 : a ≥ 1 <;> by_cases h2 : a ≤ 3 <;> by_cases h3 : b ≥ 1 <;> by_cases h4 : b ≤ 3 <;> by_cases h5 : c ≥ 0 <;> by_cases h6 : c ≤ 6 <;> simp [h1, h2, h3, h4, h5, h6] <;> omega
theorem kiPair_is (a b c : Int) : spec_kiPair.f a b c = some (kPair a b c) := by
  unfold spec_kiPair.f spec_l1In.f kPair
  by_cases h1 : b ≥ 0 <;> by_cases h2 : b ≤ c <;> by_cases h3 : c ≤ a <;> by_cases h4 : c ≥ 0 <;> simp [h1, h2, h3, h4] <;> omega
def spec_PlayKinds.f (a0 a1 a2 a3 a4 : Int) : Option (List S43 × Bool) := some (if kAsk a0 a1 a2 && kPair a2 a3 a4 then (playK a0 a1 a2 a3 a4, true) else ([], false))
set_option maxHeartbeats 8000000 in
set_option maxRecDepth 100000 in
theorem spec_PlayKinds.calls (a0 : Int) (a1 : Int) (a2 : Int) (a3 : Int) (a4 : Int) (r1 : List S43) (r2 : Bool) (w : World) (h : spec_PlayKinds.f a0 a1 a2 a3 a4 = some (r1, r2)) :
    Calls Try.prog 7 #[.int .i64 a0, .int .i64 a1, .int .i64 a2, .int .i64 a3, .int .i64 a4] w fun e w' => ∃ v0_ : Value, e = .returned (.tuple #[v0_, .bool r2]) ∧ Kd.R k43 43 w' w.heap.size (fun _ => True) v0_ r1 ∧ Below w.heap.size w w' := by
  have HB := Aside0.mk (Below.refl w.heap.size w)
  obtain ⟨b1, hb1⟩ : ∃ b, b = kAsk a0 a1 a2 := ⟨_, rfl⟩
  obtain ⟨b2, hb2⟩ : ∃ b, b = kPair a2 a3 a4 := ⟨_, rfl⟩
  have e1 := kiAsked_is a0 a1 a2
  have e2 := kiPair_is a2 a3 a4
  unfold spec_PlayKinds.f at h
  rw [← hb1] at e1 h
  rw [← hb2] at e2 h
  have HC := Aside0.mk (And.intro e1 e2)
  have HC1 := Aside0.mk hb1
  clear e1 e2 hb1 hb2
  cases b1 with
  | false =>
    simp only [Bool.false_and, Bool.false_eq_true, if_false, Option.some.injEq, Prod.mk.injEq] at h
    obtain ⟨rfl, rfl⟩ := h
    go_enter Try.func7, Try.ntmps7
    go_wp2_with (first | ((with_reducible refine gate_callee (f := 33) rfl ?_); refine goesL_ (some 15) rfl rfl Try.func33 (by kernel_rfl) rfl #[.int .i64 a0, .int .i64 a1, .int .i64 a2] rfl (by (try simp only [List.map_toArray, List.map_cons, List.map_nil]); first | done | rfl) ?_; refine (spec_kiAsked.calls _ _ _ _ _ HC.out.1).mono ?_; rintro e_ w_1 ⟨rfl, hd_⟩; refine ⟨_, rfl, ?_⟩; have hb_ := hd_.below; clear hd_; have n0_ : Aside0 (Below w.heap.size w w_1) := ⟨Hx.bb_below hb_ (by first | exact HB.out | exact below_drew1 HB.out | exact pw_below_drewN HB.out _)⟩; (try clear HB); have HB := n0_; clear n0_; clear hb_))
    go_ret2
    exact ⟨_, rfl, Kd.R_nil _ _ _ _ _, HB.out⟩
  | true =>
    cases b2 with
    | false =>
      simp only [Bool.and_false, Bool.false_eq_true, if_false, Option.some.injEq, Prod.mk.injEq] at h
      obtain ⟨rfl, rfl⟩ := h
      go_enter Try.func7, Try.ntmps7
      go_wp2_with (first | ((with_reducible refine gate_callee (f := 33) rfl ?_); refine goesL_ (some 15) rfl rfl Try.func33 (by kernel_rfl) rfl #[.int .i64 a0, .int .i64 a1, .int .i64 a2] rfl (by (try simp only [List.map_toArray, List.map_cons, List.map_nil]); first | done | rfl) ?_; refine (spec_kiAsked.calls _ _ _ _ _ HC.out.1).mono ?_; rintro e_ w_1 ⟨rfl, hd_⟩; refine ⟨_, rfl, ?_⟩; have hb_ := hd_.below; clear hd_; have n0_ : Aside0 (Below w.heap.size w w_1) := ⟨Hx.bb_below hb_ (by first | exact HB.out | exact below_drew1 HB.out | exact pw_below_drewN HB.out _)⟩; (try clear HB); have HB := n0_; clear n0_; clear hb_) | (go_at_call 34; refine (spec_kiPair.calls _ _ _ _ _ HC.out.2).mono ?_; rintro e_ w_2 ⟨rfl, hd_⟩; have hb_ := hd_.below; clear hd_; have n0_ : Aside0 (Below w.heap.size w w_2) := ⟨Hx.bb_below hb_ (by first | exact HB.out | exact below_drew1 HB.out | exact pw_below_drewN HB.out _)⟩; (try clear HB); have HB := n0_; clear n0_; clear hb_))
      go_ret2
      exact ⟨_, rfl, Kd.R_nil _ _ _ _ _, HB.out⟩
    | true =>
      simp only [Bool.and_true, if_true, Option.some.injEq, Prod.mk.injEq] at h
      obtain ⟨rfl, rfl⟩ := h
      have HS0 := Aside0.mk (kAsk_good HC1.out.symm)
      have HS1 := Aside0.mk (kAsk_low HC1.out.symm)
      go_enter Try.func7, Try.ntmps7
      go_wp2_with (first | ((with_reducible refine gate_callee (f := 33) rfl ?_); refine goesL_ (some 15) rfl rfl Try.func33 (by kernel_rfl) rfl #[.int .i64 a0, .int .i64 a1, .int .i64 a2] rfl (by (try simp only [List.map_toArray, List.map_cons, List.map_nil]); first | done | rfl) ?_; refine (spec_kiAsked.calls _ _ _ _ _ HC.out.1).mono ?_; rintro e_ w_1 ⟨rfl, hd_⟩; refine ⟨_, rfl, ?_⟩; have hb_ := hd_.below; clear hd_; have n0_ : Aside0 (Below w.heap.size w w_1) := ⟨Hx.bb_below hb_ (by first | exact HB.out | exact below_drew1 HB.out | exact pw_below_drewN HB.out _)⟩; (try clear HB); have HB := n0_; clear n0_; clear hb_) | (go_at_call 34; refine (spec_kiPair.calls _ _ _ _ _ HC.out.2).mono ?_; rintro e_ w_2 ⟨rfl, hd_⟩; have hb_ := hd_.below; clear hd_; have n0_ : Aside0 (Below w.heap.size w w_2) := ⟨Hx.bb_below hb_ (by first | exact HB.out | exact below_drew1 HB.out | exact pw_below_drewN HB.out _)⟩; (try clear HB); have HB := n0_; clear n0_; clear hb_) | ((with_reducible refine gate_callee (f := 36) rfl ?_); refine goesL_ (some 24) rfl rfl Try.func36 (by kernel_rfl) rfl #[] rfl (by (try simp only [List.map_toArray, List.map_cons, List.map_nil]); first | done | rfl) ?_; refine (spec_kiTable.calls 38417 _ _ kiTable_is).mono ?_; rintro e_ w_3 ⟨v_, rfl, hr_, hb_⟩; refine ⟨_, rfl, ?_⟩; obtain ⟨tb, c0, rfl, ht_, hz_⟩ := tab_of hr_; have ZZ := Aside0.mk (show w.heap.size ≤ tb from Nat.le_trans HB.out.size hz_); have n0_ : Aside0 (Below w.heap.size w w_3) := ⟨Hx.bb_below hb_ (by first | exact HB.out | exact below_drew1 HB.out | exact pw_below_drewN HB.out _)⟩; have m0_ : Aside0 (Tab w_3 tb c0) := ⟨ht_⟩; (try clear HB); have HB := n0_; have HT := m0_; clear n0_ m0_; clear ht_ hb_ hr_ hz_) | ((with_reducible refine gate_callee (f := 37) rfl ?_); refine goesL_ (some 28) rfl rfl Try.func37 (by kernel_rfl) rfl #[.int .i64 a0, .int .i64 a1, .int .i64 a2] rfl (by (try simp only [List.map_toArray, List.map_cons, List.map_nil]); first | done | rfl) ?_; refine (spec_kiStart.calls a0 a1 a2 _ _ _ _ _ _ _ rfl).mono ?_; rintro e_ w_4 ⟨rfl, hb_⟩; refine ⟨_, rfl, ?_⟩; have n0_ : Aside0 (Below w.heap.size w w_4) := ⟨Hx.bb_below hb_ (by first | exact HB.out | exact below_drew1 HB.out | exact pw_below_drewN HB.out _)⟩; have n1_ : Aside0 (Tab w_4 tb c0) := ⟨Tab.below HT.out hb_⟩; (try clear HB); (try clear HT); have HB := n0_; have HT := n1_; clear n0_ n1_; clear hb_) | ((with_reducible refine gate_callee (f := 35) rfl ?_); refine goesL_ (some 31) rfl rfl Try.func35 (by kernel_rfl) rfl #[.slice (some ⟨tb, 0, none⟩) 38416 c0, .agg #[.int .i64 0, .int .i64 a2, .int .i64 0, .int .i64 a2, .int .i64 a0, .int .i64 a1], .int .i64 a3, .int .i64 a4] rfl (by (try simp only [List.map_toArray, List.map_cons, List.map_nil]); first | done | rfl) ?_; refine (splay_of tb c0 (kStart a0 a1 a2) a3 a4 HS0.out.1 HS1.out _ rfl w_4 HT.out).mono ?_; rintro e_ w_5 ⟨v_, rfl, hr_, hs_, hg_⟩; refine ⟨_, rfl, ?_⟩; have HR := Aside0.mk (Kd.R_lower hr_ HB.out.size); have HB5 := Aside0.mk (Hx.bb_grown HB.out hg_ ZZ.out); clear HB HT hs_ hg_ hr_; have HB := HB5; clear HB5))
      go_ret2
      exact ⟨_, rfl, HR.out, HB.out⟩


/-! ### impl_CountKindTests: function 8 -/
def impl_CountKindTests.f (a0 : Int) (a1 : Int) (a2 : Int) (a3 : Int) (a4 : Int) : Option (Int × Bool) := (impl_PlayKinds.f a0 a1 a2 a3 a4).bind fun bt250 => (some ((bt250.1.length : Int), bt250.2))
set_option maxHeartbeats 8000000 in
set_option maxRecDepth 100000 in
theorem impl_CountKindTests.calls (a0 : Int) (a1 : Int) (a2 : Int) (a3 : Int) (a4 : Int) (r1 : Int) (r2 : Bool) (w : World) (h : impl_CountKindTests.f a0 a1 a2 a3 a4 = some (r1, r2)) :
    Calls Try.prog 8 #[.int .i64 a0, .int .i64 a1, .int .i64 a2, .int .i64 a3, .int .i64 a4] w fun e w' => e = .returned (.tuple #[.int .i64 r1, .bool r2]) ∧ Below w.heap.size w w' := by
  have HB := Aside0.mk (Below.refl w.heap.size w)
  have H : ((impl_PlayKinds.f a0 a1 a2 a3 a4).bind fun bt250 => (some ((bt250.1.length : Int), bt250.2))) = some (r1, r2) := h
  clear h
  replace H := Option.bind_eq_some_iff.mp H
  obtain ⟨⟨t250, t251⟩, A60, H⟩ := H
  replace H : (some ((t250.length : Int), t251)) = some (r1, r2) := H
  have A6 := Aside0.mk A60
  clear A60
  simp only [Option.some.injEq, Prod.mk.injEq] at H
  obtain ⟨rfl, rfl⟩ := H
  go_enter Try.func8, Try.ntmps8
  go_wp2_with (first | ((with_reducible refine gate_callee (f := 6) rfl ?_); refine goesL_ (some 20) rfl rfl Try.func6 (by kernel_rfl) rfl #[.int .i64 a0, .int .i64 a1, .int .i64 a2, .int .i64 a3, .int .i64 a4] rfl (by (try simp only [List.map_toArray, List.map_cons, List.map_nil]); first | done | rfl | (simp only [List.length_drop, List.length_take]; rfl)) ?_; (with_reducible refine (impl_PlayKinds.calls a0 a1 a2 a3 a4 t250 t251 _ A6.out).mono ?_); rintro e w7 ⟨v252, rfl, ho0, hb⟩; refine ⟨_, rfl, ?_⟩; have n0_ := Aside0.mk (Kd.R_lower ho0 (below_size (by repeat (first | (with_reducible first | exact HB.out | apply below_alloc | apply pw_below_drewN | apply below_drew1) | exact HB.out)))); have n1_ := Aside0.mk (below_step (by repeat (first | (with_reducible first | exact HB.out | apply below_alloc | apply pw_below_drewN | apply below_drew1) | exact HB.out)) hb); clear HB; have HO253 := n0_; have HB := n1_; clear n0_ n1_; (try clear hb); (try clear hb2); (try clear hk); (try clear hi); (try clear ho0); obtain ⟨Ao8, co8, eo8⟩ := Kd.R_slice HO253.out; subst eo8))
  go_ret2
  exact ⟨by first | rfl | (simp [errW_none, errW_some] <;> rfl) | (simp [*, errW_none, errW_some] <;> rfl), by repeat (first | (with_reducible first | exact HB.out | apply below_alloc | apply pw_below_drewN | apply below_drew1) | exact HB.out)⟩

/-! ### spec_CountKindTests: function 9 -/
def spec_CountKindTests.f (a0 : Int) (a1 : Int) (a2 : Int) (a3 : Int) (a4 : Int) : Option (Int × Bool) := (spec_PlayKinds.f a0 a1 a2 a3 a4).bind fun bt254 => (if bt254.2 = true then (some ((bt254.1.length : Int), true)) else (some (0, false)))
set_option maxHeartbeats 8000000 in
set_option maxRecDepth 100000 in
theorem spec_CountKindTests.calls (a0 : Int) (a1 : Int) (a2 : Int) (a3 : Int) (a4 : Int) (r1 : Int) (r2 : Bool) (w : World) (h : spec_CountKindTests.f a0 a1 a2 a3 a4 = some (r1, r2)) :
    Calls Try.prog 9 #[.int .i64 a0, .int .i64 a1, .int .i64 a2, .int .i64 a3, .int .i64 a4] w fun e w' => e = .returned (.tuple #[.int .i64 r1, .bool r2]) ∧ Below w.heap.size w w' := by
  have HB := Aside0.mk (Below.refl w.heap.size w)
  have H : ((spec_PlayKinds.f a0 a1 a2 a3 a4).bind fun bt254 => (if bt254.2 = true then (some ((bt254.1.length : Int), true)) else (some (0, false)))) = some (r1, r2) := h
  clear h
  replace H := Option.bind_eq_some_iff.mp H
  obtain ⟨⟨t254, t255⟩, A60, H⟩ := H
  replace H : (if t255 = true then (some ((t254.length : Int), true)) else (some (0, false))) = some (r1, r2) := H
  have A6 := Aside0.mk A60
  clear A60
  by_cases c7 : t255 = true
  · subst c7
    have H1 : (some ((t254.length : Int), true)) = some (r1, r2) := by rw [if_pos rfl] at H; exact H
    clear H
    have H := H1
    clear H1
    simp only [Option.some.injEq, Prod.mk.injEq] at H
    obtain ⟨rfl, rfl⟩ := H
    go_enter Try.func9, Try.ntmps9
    go_wp2_with (first | ((with_reducible refine gate_callee (f := 7) rfl ?_); refine goesL_ (some 20) rfl rfl Try.func7 (by kernel_rfl) rfl #[.int .i64 a0, .int .i64 a1, .int .i64 a2, .int .i64 a3, .int .i64 a4] rfl (by (try simp only [List.map_toArray, List.map_cons, List.map_nil]); first | done | rfl | (simp only [List.length_drop, List.length_take]; rfl)) ?_; (with_reducible refine (spec_PlayKinds.calls a0 a1 a2 a3 a4 t254 true _ A6.out).mono ?_); rintro e w8 ⟨v256, rfl, ho0, hb⟩; refine ⟨_, rfl, ?_⟩; have n0_ := Aside0.mk (Kd.R_lower ho0 (below_size (by repeat (first | (with_reducible first | exact HB.out | apply below_alloc | apply pw_below_drewN | apply below_drew1) | exact HB.out)))); have n1_ := Aside0.mk (below_step (by repeat (first | (with_reducible first | exact HB.out | apply below_alloc | apply pw_below_drewN | apply below_drew1) | exact HB.out)) hb); clear HB; have HO257 := n0_; have HB := n1_; clear n0_ n1_; (try clear hb); (try clear hb2); (try clear hk); (try clear hi); (try clear ho0); obtain ⟨Ao9, co9, eo9⟩ := Kd.R_slice HO257.out; subst eo9))
    go_ret2
    exact ⟨by first | rfl | (simp [errW_none, errW_some] <;> rfl) | (simp [*, errW_none, errW_some] <;> rfl), by repeat (first | (with_reducible first | exact HB.out | apply below_alloc | apply pw_below_drewN | apply below_drew1) | exact HB.out)⟩
  · replace c7 := Bool.eq_false_iff.mpr c7
    subst c7
    have H1 : (some (0, false)) = some (r1, r2) := by rw [if_neg (show ¬ (false = true) by decide)] at H; exact H
    clear H
    have H := H1
    clear H1
    simp only [Option.some.injEq, Prod.mk.injEq] at H
    obtain ⟨rfl, rfl⟩ := H
    go_enter Try.func9, Try.ntmps9
    go_wp2_with (first | ((with_reducible refine gate_callee (f := 7) rfl ?_); refine goesL_ (some 20) rfl rfl Try.func7 (by kernel_rfl) rfl #[.int .i64 a0, .int .i64 a1, .int .i64 a2, .int .i64 a3, .int .i64 a4] rfl (by (try simp only [List.map_toArray, List.map_cons, List.map_nil]); first | done | rfl | (simp only [List.length_drop, List.length_take]; rfl)) ?_; (with_reducible refine (spec_PlayKinds.calls a0 a1 a2 a3 a4 t254 false _ A6.out).mono ?_); rintro e w10 ⟨v256, rfl, ho0, hb⟩; refine ⟨_, rfl, ?_⟩; have n0_ := Aside0.mk (Kd.R_lower ho0 (below_size (by repeat (first | (with_reducible first | exact HB.out | apply below_alloc | apply pw_below_drewN | apply below_drew1) | exact HB.out)))); have n1_ := Aside0.mk (below_step (by repeat (first | (with_reducible first | exact HB.out | apply below_alloc | apply pw_below_drewN | apply below_drew1) | exact HB.out)) hb); clear HB; have HO257 := n0_; have HB := n1_; clear n0_ n1_; (try clear hb); (try clear hb2); (try clear hk); (try clear hi); (try clear ho0)))
    go_ret2
    exact ⟨by first | rfl | (simp [errW_none, errW_some] <;> rfl) | (simp [*, errW_none, errW_some] <;> rfl), by repeat (first | (with_reducible first | exact HB.out | apply below_alloc | apply pw_below_drewN | apply below_drew1) | exact HB.out)⟩

-- FOR impl.FewestKinds
-- KIND rounds=0 making=1
-- CALLS impl.PlayKinds ; impl.isKindHouse ; impl.nothing ; (*impl.solver).play
def impl_FewestKinds.f (a0 a1 a2 : Int) : Option (Int × Bool) := some (if kAsk a0 a1 a2 then (gI (kStart a0 a1 a2), true) else (0, false))
set_option maxHeartbeats 8000000 in
set_option maxRecDepth 100000 in
theorem impl_FewestKinds.calls (a0 : Int) (a1 : Int) (a2 : Int) (r1 : Int) (r2 : Bool) (w : World) (h : impl_FewestKinds.f a0 a1 a2 = some (r1, r2)) :
    Calls Try.prog 10 #[.int .i64 a0, .int .i64 a1, .int .i64 a2] w fun e w' => e = .returned (.tuple #[.int .i64 r1, .bool r2]) ∧ Below w.heap.size w w' := by
  have HB := Aside0.mk (Below.refl w.heap.size w)
  obtain ⟨b1, hb1⟩ : ∃ b, b = kAsk a0 a1 a2 := ⟨_, rfl⟩
  have e1 := isKindHouse_is a0 a1 a2
  unfold impl_FewestKinds.f at h
  rw [← hb1] at e1 h
  have HC := Aside0.mk e1
  have HC1 := Aside0.mk hb1
  clear e1 hb1
  cases b1 with
  | false =>
    simp only [Bool.false_eq_true, if_false, Option.some.injEq, Prod.mk.injEq] at h
    obtain ⟨rfl, rfl⟩ := h
    go_enter Try.func10, Try.ntmps10
    go_wp2_with (first | ((with_reducible refine gate_callee (f := 28) rfl ?_); refine goesL_ (some 11) rfl rfl Try.func28 (by kernel_rfl) rfl #[.int .i64 a0, .int .i64 a1, .int .i64 a2] rfl (by (try simp only [List.map_toArray, List.map_cons, List.map_nil]); first | done | rfl) ?_; refine (impl_isKindHouse.calls _ _ _ _ _ HC.out).mono ?_; rintro e_ w_1 ⟨rfl, hd_⟩; refine ⟨_, rfl, ?_⟩; have hb_ := hd_.below; clear hd_; have n0_ : Aside0 (Below w.heap.size w w_1) := ⟨Hx.bb_below hb_ (by first | exact HB.out | exact below_drew1 HB.out | exact pw_below_drewN HB.out _)⟩; (try clear HB); have HB := n0_; clear n0_; clear hb_))
    go_ret2
    exact ⟨rfl, HB.out⟩
  | true =>
    simp only [if_true, Option.some.injEq, Prod.mk.injEq] at h
    obtain ⟨rfl, rfl⟩ := h
    have HS0 := Aside0.mk (kAsk_good HC1.out.symm)
    go_enter Try.func10, Try.ntmps10
    go_wp2_with (first | ((with_reducible refine gate_callee (f := 28) rfl ?_); refine goesL_ (some 11) rfl rfl Try.func28 (by kernel_rfl) rfl #[.int .i64 a0, .int .i64 a1, .int .i64 a2] rfl (by (try simp only [List.map_toArray, List.map_cons, List.map_nil]); first | done | rfl) ?_; refine (impl_isKindHouse.calls _ _ _ _ _ HC.out).mono ?_; rintro e_ w_1 ⟨rfl, hd_⟩; refine ⟨_, rfl, ?_⟩; have hb_ := hd_.below; clear hd_; have n0_ : Aside0 (Below w.heap.size w w_1) := ⟨Hx.bb_below hb_ (by first | exact HB.out | exact below_drew1 HB.out | exact pw_below_drewN HB.out _)⟩; (try clear HB); have HB := n0_; clear n0_; clear hb_) | ((with_reducible refine gate_callee (f := 30) rfl ?_); refine goesL_ (some 13) rfl rfl Try.func30 (by kernel_rfl) rfl #[.bool false] rfl (by (try simp only [List.map_toArray, List.map_cons, List.map_nil]); first | done | rfl) ?_; refine (newSolver.calls _).mono ?_; rintro e_ w_3 ⟨rfl, hs_, hb_⟩; refine ⟨_, rfl, ?_⟩; have ZZ := Aside0.mk (show w.heap.size ≤ w_1.heap.size from HB.out.size); have n0_ : Aside0 (Below w.heap.size w w_3) := ⟨Hx.bb_below hb_ (by first | exact HB.out | exact below_drew1 HB.out | exact pw_below_drewN HB.out _)⟩; have m0_ : Aside0 (Slv w_3 (w_1.heap.size + 1) w_1.heap.size) := ⟨hs_⟩; (try clear HB); have HB := n0_; have HS := m0_; clear n0_ m0_; clear hs_ hb_) | ((with_reducible refine gate_callee (f := 32) rfl ?_); refine goesL_ (some 17) rfl rfl Try.func32 (by kernel_rfl) rfl #[.int .i64 a0, .int .i64 a1, .int .i64 a2] rfl (by (try simp only [List.map_toArray, List.map_cons, List.map_nil]); first | done | rfl) ?_; refine (impl_nothing.calls a0 a1 a2 _ _ _ _ _ _ _ rfl).mono ?_; rintro e_ w_4 ⟨rfl, hb_⟩; refine ⟨_, rfl, ?_⟩; have n0_ : Aside0 (Below w.heap.size w w_4) := ⟨Hx.bb_below hb_ (by first | exact HB.out | exact below_drew1 HB.out | exact pw_below_drewN HB.out _)⟩; have n1_ : Aside0 (Slv w_4 (w_1.heap.size + 1) w_1.heap.size) := ⟨Slv.below HS.out hb_⟩; (try clear HB); (try clear HS); have HB := n0_; have HS := n1_; clear n0_ n1_; clear hb_) | ((with_reducible refine gate_callee (f := 38) rfl ?_); refine goesL_ (some 18) rfl rfl Try.func38 (by kernel_rfl) rfl #[.pointer (some ⟨w_1.heap.size + 1, 0, none⟩), .agg #[.int .i64 0, .int .i64 a2, .int .i64 0, .int .i64 a2, .int .i64 a0, .int .i64 a1]] rfl (by (try simp only [List.map_toArray, List.map_cons, List.map_nil]); first | done | rfl) ?_; refine ((solver_ok (w_1.heap.size + 1) w_1.heap.size _ (kStart a0 a1 a2) HS0.out.1 (Nat.le_refl _)).1 w_4 HS.out).mono ?_; rintro e_ w_5 ⟨rfl, hs_, hg_⟩; refine ⟨_, rfl, ?_⟩; have HB5 := Aside0.mk (Hx.bb_grown HB.out hg_ ZZ.out); clear HB HS hs_ hg_; have HB := HB5; clear HB5))
    go_ret2
    exact ⟨rfl, HB.out⟩


-- FOR spec.FewestKinds
-- KIND rounds=0 making=1
-- CALLS spec.PlayKinds ; spec.kiAsked ; spec.kiStart ; spec.kiTable ; spec.kiPlay ; impl.FewestKinds
def spec_FewestKinds.f (a0 a1 a2 : Int) : Option (Int × Bool) := some (if kAsk a0 a1 a2 then (sF (kStart a0 a1 a2), true) else (0, false))
set_option maxHeartbeats 8000000 in
set_option maxRecDepth 100000 in
theorem spec_FewestKinds.calls (a0 : Int) (a1 : Int) (a2 : Int) (r1 : Int) (r2 : Bool) (w : World) (h : spec_FewestKinds.f a0 a1 a2 = some (r1, r2)) :
    Calls Try.prog 11 #[.int .i64 a0, .int .i64 a1, .int .i64 a2] w fun e w' => e = .returned (.tuple #[.int .i64 r1, .bool r2]) ∧ Below w.heap.size w w' := by
  have HB := Aside0.mk (Below.refl w.heap.size w)
  obtain ⟨b1, hb1⟩ : ∃ b, b = kAsk a0 a1 a2 := ⟨_, rfl⟩
  have e1 := kiAsked_is a0 a1 a2
  unfold spec_FewestKinds.f at h
  rw [← hb1] at e1 h
  have HC := Aside0.mk e1
  have HC1 := Aside0.mk hb1
  clear e1 hb1
  cases b1 with
  | false =>
    simp only [Bool.false_eq_true, if_false, Option.some.injEq, Prod.mk.injEq] at h
    obtain ⟨rfl, rfl⟩ := h
    go_enter Try.func11, Try.ntmps11
    go_wp2_with (first | ((with_reducible refine gate_callee (f := 33) rfl ?_); refine goesL_ (some 11) rfl rfl Try.func33 (by kernel_rfl) rfl #[.int .i64 a0, .int .i64 a1, .int .i64 a2] rfl (by (try simp only [List.map_toArray, List.map_cons, List.map_nil]); first | done | rfl) ?_; refine (spec_kiAsked.calls _ _ _ _ _ HC.out).mono ?_; rintro e_ w_1 ⟨rfl, hd_⟩; refine ⟨_, rfl, ?_⟩; have hb_ := hd_.below; clear hd_; have n0_ : Aside0 (Below w.heap.size w w_1) := ⟨Hx.bb_below hb_ (by first | exact HB.out | exact below_drew1 HB.out | exact pw_below_drewN HB.out _)⟩; (try clear HB); have HB := n0_; clear n0_; clear hb_))
    go_ret2
    exact ⟨rfl, HB.out⟩
  | true =>
    simp only [if_true, Option.some.injEq, Prod.mk.injEq] at h
    obtain ⟨rfl, rfl⟩ := h
    have HS0 := Aside0.mk (kAsk_good HC1.out.symm)
    go_enter Try.func11, Try.ntmps11
    go_wp2_with (first | ((with_reducible refine gate_callee (f := 33) rfl ?_); refine goesL_ (some 11) rfl rfl Try.func33 (by kernel_rfl) rfl #[.int .i64 a0, .int .i64 a1, .int .i64 a2] rfl (by (try simp only [List.map_toArray, List.map_cons, List.map_nil]); first | done | rfl) ?_; refine (spec_kiAsked.calls _ _ _ _ _ HC.out).mono ?_; rintro e_ w_1 ⟨rfl, hd_⟩; refine ⟨_, rfl, ?_⟩; have hb_ := hd_.below; clear hd_; have n0_ : Aside0 (Below w.heap.size w w_1) := ⟨Hx.bb_below hb_ (by first | exact HB.out | exact below_drew1 HB.out | exact pw_below_drewN HB.out _)⟩; (try clear HB); have HB := n0_; clear n0_; clear hb_) | ((with_reducible refine gate_callee (f := 36) rfl ?_); refine goesL_ (some 13) rfl rfl Try.func36 (by kernel_rfl) rfl #[] rfl (by (try simp only [List.map_toArray, List.map_cons, List.map_nil]); first | done | rfl) ?_; refine (spec_kiTable.calls 38417 _ _ kiTable_is).mono ?_; rintro e_ w_3 ⟨v_, rfl, hr_, hb_⟩; refine ⟨_, rfl, ?_⟩; obtain ⟨tb, c0, rfl, ht_, hz_⟩ := tab_of hr_; have ZZ := Aside0.mk (show w.heap.size ≤ tb from Nat.le_trans HB.out.size hz_); have n0_ : Aside0 (Below w.heap.size w w_3) := ⟨Hx.bb_below hb_ (by first | exact HB.out | exact below_drew1 HB.out | exact pw_below_drewN HB.out _)⟩; have m0_ : Aside0 (Tab w_3 tb c0) := ⟨ht_⟩; (try clear HB); have HB := n0_; have HT := m0_; clear n0_ m0_; clear ht_ hb_ hr_ hz_) | ((with_reducible refine gate_callee (f := 37) rfl ?_); refine goesL_ (some 17) rfl rfl Try.func37 (by kernel_rfl) rfl #[.int .i64 a0, .int .i64 a1, .int .i64 a2] rfl (by (try simp only [List.map_toArray, List.map_cons, List.map_nil]); first | done | rfl) ?_; refine (spec_kiStart.calls a0 a1 a2 _ _ _ _ _ _ _ rfl).mono ?_; rintro e_ w_4 ⟨rfl, hb_⟩; refine ⟨_, rfl, ?_⟩; have n0_ : Aside0 (Below w.heap.size w w_4) := ⟨Hx.bb_below hb_ (by first | exact HB.out | exact below_drew1 HB.out | exact pw_below_drewN HB.out _)⟩; have n1_ : Aside0 (Tab w_4 tb c0) := ⟨Tab.below HT.out hb_⟩; (try clear HB); (try clear HT); have HB := n0_; have HT := n1_; clear n0_ n1_; clear hb_) | ((with_reducible refine gate_callee (f := 39) rfl ?_); refine goesL_ (some 18) rfl rfl Try.func39 (by kernel_rfl) rfl #[.slice (some ⟨tb, 0, none⟩) 38416 c0, .agg #[.int .i64 0, .int .i64 a2, .int .i64 0, .int .i64 a2, .int .i64 a0, .int .i64 a1], .bool true] rfl (by (try simp only [List.map_toArray, List.map_cons, List.map_nil]); first | done | rfl) ?_; refine ((ssolver_ok tb c0 _ (kStart a0 a1 a2) HS0.out.1 (Nat.le_refl _)).1 w_4 HT.out).mono ?_; rintro e_ w_5 ⟨rfl, hs_, hg_⟩; refine ⟨_, rfl, ?_⟩; have HB5 := Aside0.mk (Hx.bb_grown HB.out hg_ ZZ.out); clear HB HT hs_ hg_; have HB := HB5; clear HB5))
    go_ret2
    exact ⟨rfl, HB.out⟩


-- FOR impl.FirstKindTest
-- KIND rounds=0 making=1
-- CALLS impl.PlayKinds ; impl.isKindHouse ; impl.nothing ; (*impl.solver).play
def impl_FirstKindTest.f (a0 a1 a2 : Int) : Option (Bool × Int × Bool) := some (if kAsk a0 a1 a2 && !(a2 == 0) then ((kFirst (kStart a0 a1 a2)).1, (kFirst (kStart a0 a1 a2)).2, true) else (false, 0, false))
set_option maxHeartbeats 8000000 in
set_option maxRecDepth 100000 in
theorem impl_FirstKindTest.calls (a0 : Int) (a1 : Int) (a2 : Int) (r1 : Bool) (r2 : Int) (r3 : Bool) (w : World) (h : impl_FirstKindTest.f a0 a1 a2 = some (r1, r2, r3)) :
    Calls Try.prog 12 #[.int .i64 a0, .int .i64 a1, .int .i64 a2] w fun e w' => e = .returned (.tuple #[.bool r1, .int .i64 r2, .bool r3]) ∧ Below w.heap.size w w' := by
  have HB := Aside0.mk (Below.refl w.heap.size w)
  obtain ⟨b1, hb1⟩ : ∃ b, b = kAsk a0 a1 a2 := ⟨_, rfl⟩
  have e1 := isKindHouse_is a0 a1 a2
  unfold impl_FirstKindTest.f at h
  rw [← hb1] at e1 h
  have HC := Aside0.mk e1
  have HC1 := Aside0.mk hb1
  clear e1 hb1
  cases b1 with
  | false =>
    simp only [Bool.false_and, Bool.false_eq_true, if_false, Option.some.injEq, Prod.mk.injEq] at h
    obtain ⟨rfl, rfl, rfl⟩ := h
    go_enter Try.func12, Try.ntmps12
    go_wp2_with (first | ((with_reducible refine gate_callee (f := 28) rfl ?_); refine goesL_ (some 13) rfl rfl Try.func28 (by kernel_rfl) rfl #[.int .i64 a0, .int .i64 a1, .int .i64 a2] rfl (by (try simp only [List.map_toArray, List.map_cons, List.map_nil]); first | done | rfl) ?_; refine (impl_isKindHouse.calls _ _ _ _ _ HC.out).mono ?_; rintro e_ w_1 ⟨rfl, hd_⟩; refine ⟨_, rfl, ?_⟩; have hb_ := hd_.below; clear hd_; have n0_ : Aside0 (Below w.heap.size w w_1) := ⟨Hx.bb_below hb_ (by first | exact HB.out | exact below_drew1 HB.out | exact pw_below_drewN HB.out _)⟩; (try clear HB); have HB := n0_; clear n0_; clear hb_))
    go_ret3
    exact ⟨rfl, HB.out⟩
  | true =>
    obtain ⟨b2, hb2⟩ : ∃ b, b = (a2 == 0) := ⟨_, rfl⟩
    rw [← hb2] at h
    have hb3 := hb2.symm
    cases b2 with
    | true =>
      simp only [Bool.not_true, Bool.and_false, Bool.false_eq_true, if_false, Option.some.injEq, Prod.mk.injEq] at h
      obtain ⟨rfl, rfl, rfl⟩ := h
      clear hb2
      go_enter Try.func12, Try.ntmps12
      go_wp2_with (first | ((with_reducible refine gate_callee (f := 28) rfl ?_); refine goesL_ (some 13) rfl rfl Try.func28 (by kernel_rfl) rfl #[.int .i64 a0, .int .i64 a1, .int .i64 a2] rfl (by (try simp only [List.map_toArray, List.map_cons, List.map_nil]); first | done | rfl) ?_; refine (impl_isKindHouse.calls _ _ _ _ _ HC.out).mono ?_; rintro e_ w_1 ⟨rfl, hd_⟩; refine ⟨_, rfl, ?_⟩; have hb_ := hd_.below; clear hd_; have n0_ : Aside0 (Below w.heap.size w w_1) := ⟨Hx.bb_below hb_ (by first | exact HB.out | exact below_drew1 HB.out | exact pw_below_drewN HB.out _)⟩; (try clear HB); have HB := n0_; clear n0_; clear hb_))
      go_ret3
      exact ⟨rfl, HB.out⟩
    | false =>
      simp only [Bool.not_false, Bool.and_true, if_true, Option.some.injEq, Prod.mk.injEq] at h
      have HS0 := Aside0.mk (kAsk_good HC1.out.symm)
      have HS1 := Aside0.mk (kAsk_low HC1.out.symm)
      have HSD : Aside0 ((kStart a0 a1 a2).done = false) := ⟨by
        have h3 : a2 ≠ 0 := by simpa using hb3
        cases hd : (kStart a0 a1 a2).done with
        | false => rfl
        | true => exact absurd ((done_iff _).1 hd).1.symm h3⟩
      clear hb2
      have HR := Aside0.mk h
      clear h
      go_enter Try.func12, Try.ntmps12
      go_upto_region 4 with (first | ((with_reducible refine gate_callee (f := 28) rfl ?_); refine goesL_ (some 13) rfl rfl Try.func28 (by kernel_rfl) rfl #[.int .i64 a0, .int .i64 a1, .int .i64 a2] rfl (by (try simp only [List.map_toArray, List.map_cons, List.map_nil]); first | done | rfl) ?_; refine (impl_isKindHouse.calls _ _ _ _ _ HC.out).mono ?_; rintro e_ w_1 ⟨rfl, hd_⟩; refine ⟨_, rfl, ?_⟩; have hb_ := hd_.below; clear hd_; have n0_ : Aside0 (Below w.heap.size w w_1) := ⟨Hx.bb_below hb_ (by first | exact HB.out | exact below_drew1 HB.out | exact pw_below_drewN HB.out _)⟩; (try clear HB); have HB := n0_; clear n0_; clear hb_) | ((with_reducible refine gate_callee (f := 30) rfl ?_); refine goesL_ (some 19) rfl rfl Try.func30 (by kernel_rfl) rfl #[.bool false] rfl (by (try simp only [List.map_toArray, List.map_cons, List.map_nil]); first | done | rfl) ?_; refine (newSolver.calls _).mono ?_; rintro e_ w_3 ⟨rfl, hs_, hb_⟩; refine ⟨_, rfl, ?_⟩; have ZZ := Aside0.mk (show w.heap.size ≤ w_1.heap.size from HB.out.size); have n0_ : Aside0 (Below w.heap.size w w_3) := ⟨Hx.bb_below hb_ (by first | exact HB.out | exact below_drew1 HB.out | exact pw_below_drewN HB.out _)⟩; have m0_ : Aside0 (Slv w_3 (w_1.heap.size + 1) w_1.heap.size) := ⟨hs_⟩; (try clear HB); have HB := n0_; have HS := m0_; clear n0_ m0_; clear hs_ hb_) | ((with_reducible refine gate_callee (f := 32) rfl ?_); refine goesL_ (some 23) rfl rfl Try.func32 (by kernel_rfl) rfl #[.int .i64 a0, .int .i64 a1, .int .i64 a2] rfl (by (try simp only [List.map_toArray, List.map_cons, List.map_nil]); first | done | rfl) ?_; refine (impl_nothing.calls a0 a1 a2 _ _ _ _ _ _ _ rfl).mono ?_; rintro e_ w_4 ⟨rfl, hb_⟩; refine ⟨_, rfl, ?_⟩; have n0_ : Aside0 (Below w.heap.size w w_4) := ⟨Hx.bb_below hb_ (by first | exact HB.out | exact below_drew1 HB.out | exact pw_below_drewN HB.out _)⟩; have n1_ : Aside0 (Slv w_4 (w_1.heap.size + 1) w_1.heap.size) := ⟨Slv.below HS.out hb_⟩; (try clear HB); (try clear HS); have HB := n0_; have HS := n1_; clear n0_ n1_; clear hb_) | ((with_reducible refine gate_callee (f := 40) rfl ?_); refine goesL_ (some 24) rfl rfl Try.func40 (by kernel_rfl) rfl #[.pointer (some ⟨w_1.heap.size + 1, 0, none⟩), .agg #[.int .i64 0, .int .i64 a2, .int .i64 0, .int .i64 a2, .int .i64 a0, .int .i64 a1]] rfl (by (try simp only [List.map_toArray, List.map_cons, List.map_nil]); first | done | rfl) ?_; refine (first_of (w_1.heap.size + 1) w_1.heap.size (kStart a0 a1 a2) HS0.out.1 HSD.out HS1.out w_4 HS.out).mono ?_; rintro e_ w_5 ⟨rfl, hs_, hg_⟩; refine ⟨_, rfl, ?_⟩; have HB5 := Aside0.mk (Hx.bb_grown HB.out hg_ ZZ.out); clear HB HS hs_ hg_; have HB := HB5; clear HB5; obtain ⟨t1, ht1⟩ : ∃ t, t = (kFirst (kStart a0 a1 a2)).1 := ⟨_, rfl⟩; obtain ⟨t2, ht2⟩ : ∃ t, t = (kFirst (kStart a0 a1 a2)).2 := ⟨_, rfl⟩; rw [← ht1, ← ht2]; rw [← ht1, ← ht2] at HR; clear ht1 ht2))
      obtain ⟨q1, q2, q3⟩ := HR.out
      subst q1 q2 q3
      go_quiet (fail)
      try go_wp2
      go_ret3
      exact ⟨by first | rfl | (simp; done) | (simp [*]; done), by repeat (first | exact HB.out | apply below_alloc | apply pw_below_drewN | apply below_drew1)⟩


end Go.Proofs.Ytibapicnljedcab.Q
