/- Plain Lean functions with the answers of Go functions, and proofs of it: printed by a program of this session (pr.py) over the kit's print, with hand-written parts. -/
import Derived.Test.YtoomacelbhojhaaEx0
import Derived.Test.YtoomacelbhojhaaEx1
import Derived.Test.YtoomacelbhojhaaEx2
import Derived.Test.YtoomacelbhojhaaEx3
import Derived.Test.YtoomacelbhojhaaEx4
import Derived.Test.YtoomacelbhojhaaEx5
import Derived.Test.YtoomacelbhojhaaEx6
import Derived.Test.YtoomacelbhojhaaEx7
namespace Go.Proofs.Ytoomacelbhojhaa.E
open Go.RowKit Go.Proofs.YtoomacelbhojhaaW.PrintWords Go.Proofs.YtoomacelbhojhaaW.PrintLast Go.Proofs.YtoomacelbhojhaaW.PrintMore
attribute [local go_sem] max2_int min2_int max_two min_two max_three min_three max_four min_four   -- for this text's walks alone
set_option linter.unusedVariables false
set_option linter.unusedSimpArgs false

-- FOR spec.CostliestBreaks
-- KIND rounds=0 making=1
-- CALLS impl.CostliestBreaks ; spec.csMake ; (*spec.csTable).play ; spec.csAsked ; spec.csCost
-- USES kd impl.Drop
-- USES info int
-- USES info []int

def spec_CostliestBreaks.f (a0_0 a0_1 a0_2 a1 a2 : Int) : Option (List Int × Bool) := some (costliest a0_0 a0_1 a0_2 a1 a2)
set_option maxHeartbeats 8000000 in
set_option maxRecDepth 100000 in
theorem spec_CostliestBreaks.calls (a0 a1 a2 a3 a4 : Int) (r1 : List Int) (r2 : Bool) (w : World) (h : spec_CostliestBreaks.f a0 a1 a2 a3 a4 = some (r1, r2)) :
    Calls Try.prog 32 #[.agg #[.int .i64 a0, .int .i64 a1, .int .i64 a2], .int .i64 a3, .int .i64 a4] w fun e w' => ∃ v0_ : Value, e = .returned (.tuple #[v0_, .bool r2]) ∧ Kd.R (Kd.int .i64) 3 w' w.heap.size (fun _ => True) v0_ r1 ∧ Below w.heap.size w w' := by
  have hu41 := Try.underlying41
  have hu81 := Try.underlying81
  have HB := Aside0.mk (Below.refl w.heap.size w)
  obtain ⟨b1, hb1⟩ : ∃ b, b = cAsk a0 a1 a2 a3 a4 := ⟨_, rfl⟩
  have e1 := csAsked_is a0 a1 a2 a3 a4
  unfold spec_CostliestBreaks.f costliest at h
  rw [← hb1] at e1 h
  have HC := Aside0.mk e1
  have HC1 := Aside0.mk hb1
  clear e1 hb1
  cases b1 with
  | false =>
    simp only [Bool.false_eq_true, if_false, Option.some.injEq, Prod.mk.injEq] at h
    obtain ⟨rfl, rfl⟩ := h
    go_enter Try.func32, Try.ntmps32
    go_wp2_with (first | ((with_reducible refine gate_dst (N := 3) rfl ?_); refine box_event ?hg (N := 3) ?hd (cs := #[.int .i64 a0, .int .i64 a1, .int .i64 a2]) (t := 41) ?hr ?_; (case hd => rfl); (case hg => rfl); (case hr => first | (go_simp; done) | (go_simp; rfl)); intro gB3 hg_ w_gB3 BK_ hb_; have ORD_ : Aside0 ((True) ∧ (w.heap.size ≤ gB3)) := ⟨by refine ⟨trivial, ?_⟩; (have := HB.out.size); omega⟩; have ORD := ORD_; clear ORD_; have n0_ : Aside0 (Below w.heap.size w w_gB3) := ⟨Hx.bb_below hb_ (by first | exact HB.out | exact below_drew1 HB.out | exact pw_below_drewN HB.out _)⟩; have m0_ : Aside0 (w_gB3.heap[gB3]? = some (.cells #[.int .i64 a0, .int .i64 a1, .int .i64 a2] 41 (0, 0))) := ⟨BK_⟩; (try clear HB); have HB := n0_; have B3 := m0_; clear n0_ m0_; have cB3_0 : w_gB3.cell? ⟨gB3, 0, none⟩ = some (.int .i64 a0) := (blk_cell B3.out 0).trans rfl; have dB3_0 := blk_frozen B3.out 0; have cB3_1 : w_gB3.cell? ⟨gB3, 1, none⟩ = some (.int .i64 a1) := (blk_cell B3.out 1).trans rfl; have dB3_1 := blk_frozen B3.out 1; have cB3_2 : w_gB3.cell? ⟨gB3, 2, none⟩ = some (.int .i64 a2) := (blk_cell B3.out 2).trans rfl; have dB3_2 := blk_frozen B3.out 2; clear hg_ BK_ hb_) | ((with_reducible refine gate_callee (f := 67) rfl ?_); refine goesL_ (some 16) rfl rfl Try.func67 (by kernel_rfl) rfl #[.agg #[.int .i64 a0, .int .i64 a1, .int .i64 a2], .int .i64 a3, .int .i64 a4] rfl (by (try simp only [List.map_toArray, List.map_cons, List.map_nil]); first | done | rfl) ?_; refine (spec_csAsked.calls 5 a0 a1 a2 a3 a4 false _ HC.out).mono ?_; rintro e_ w_1 ⟨rfl, hb_⟩; refine ⟨_, rfl, ?_⟩; have n0_ : Aside0 (Below w.heap.size w w_1) := ⟨Hx.bb_below hb_ (by first | exact HB.out | exact below_drew1 HB.out | exact pw_below_drewN HB.out _)⟩; have n1_ : Aside0 (w_1.heap[gB3]? = some (.cells #[.int .i64 a0, .int .i64 a1, .int .i64 a2] 41 (0, 0))) := ⟨Hx.b_below hb_ B3.out⟩; (try clear cB3_0 dB3_0 cB3_1 dB3_1 cB3_2 dB3_2); (try clear HB); (try clear B3); have HB := n0_; have B3 := n1_; clear n0_ n1_; have cB3_0 : w_1.cell? ⟨gB3, 0, none⟩ = some (.int .i64 a0) := (blk_cell B3.out 0).trans rfl; have dB3_0 := blk_frozen B3.out 0; have cB3_1 : w_1.cell? ⟨gB3, 1, none⟩ = some (.int .i64 a1) := (blk_cell B3.out 1).trans rfl; have dB3_1 := blk_frozen B3.out 1; have cB3_2 : w_1.cell? ⟨gB3, 2, none⟩ = some (.int .i64 a2) := (blk_cell B3.out 2).trans rfl; have dB3_2 := blk_frozen B3.out 2; clear hb_))
    go_ret2
    exact ⟨_, rfl, Kd.R_nil _ _ _ _ _, HB.out⟩
  | true =>
    simp only [if_true, Option.some.injEq, Prod.mk.injEq] at h
    obtain ⟨rfl, rfl⟩ := h
    have HA := Aside0.mk (of_decide_eq_true HC1.out.symm)
    have HM := Aside0.mk (cmakeA a0 a1 a2 a3 a4 HA.out)
    have HP : Aside0 (CP.Ok (CP.mk a0 a1 a2)) := ⟨by have := HA.out; show 0 ≤ a0 ∧ a0 ≤ 1000 ∧ 0 ≤ a1 ∧ a1 ≤ 1000 ∧ 0 ≤ a2 ∧ a2 ≤ 1000; omega⟩
    obtain ⟨f, hf⟩ : ∃ f, f = costB (CP.mk a0 a1 a2) a3.toNat a4.toNat := ⟨_, rfl⟩
    obtain ⟨N, hN⟩ : ∃ N, N = a4.toNat := ⟨_, rfl⟩
    have HFF := Aside0.mk (And.intro hf hN)
    rw [← hf, ← hN]
    clear hf hN
    go_enter Try.func32, Try.ntmps32
    go_wp2_with (first | ((with_reducible refine gate_dst (N := 3) rfl ?_); refine box_event ?hg (N := 3) ?hd (cs := #[.int .i64 a0, .int .i64 a1, .int .i64 a2]) (t := 41) ?hr ?_; (case hd => rfl); (case hg => rfl); (case hr => first | (go_simp; done) | (go_simp; rfl)); intro gB3 hg_ w_gB3 BK_ hb_; have ORD_ : Aside0 ((True) ∧ (w.heap.size ≤ gB3)) := ⟨by refine ⟨trivial, ?_⟩; (have := HB.out.size); omega⟩; have ORD := ORD_; clear ORD_; have n0_ : Aside0 (Below w.heap.size w w_gB3) := ⟨Hx.bb_below hb_ (by first | exact HB.out | exact below_drew1 HB.out | exact pw_below_drewN HB.out _)⟩; have m0_ : Aside0 (w_gB3.heap[gB3]? = some (.cells #[.int .i64 a0, .int .i64 a1, .int .i64 a2] 41 (0, 0))) := ⟨BK_⟩; (try clear HB); have HB := n0_; have B3 := m0_; clear n0_ m0_; have cB3_0 : w_gB3.cell? ⟨gB3, 0, none⟩ = some (.int .i64 a0) := (blk_cell B3.out 0).trans rfl; have dB3_0 := blk_frozen B3.out 0; have cB3_1 : w_gB3.cell? ⟨gB3, 1, none⟩ = some (.int .i64 a1) := (blk_cell B3.out 1).trans rfl; have dB3_1 := blk_frozen B3.out 1; have cB3_2 : w_gB3.cell? ⟨gB3, 2, none⟩ = some (.int .i64 a2) := (blk_cell B3.out 2).trans rfl; have dB3_2 := blk_frozen B3.out 2; clear hg_ BK_ hb_) | ((with_reducible refine gate_callee (f := 67) rfl ?_); refine goesL_ (some 16) rfl rfl Try.func67 (by kernel_rfl) rfl #[.agg #[.int .i64 a0, .int .i64 a1, .int .i64 a2], .int .i64 a3, .int .i64 a4] rfl (by (try simp only [List.map_toArray, List.map_cons, List.map_nil]); first | done | rfl) ?_; refine (spec_csAsked.calls 5 a0 a1 a2 a3 a4 true _ HC.out).mono ?_; rintro e_ w_1 ⟨rfl, hb_⟩; refine ⟨_, rfl, ?_⟩; have n0_ : Aside0 (Below w.heap.size w w_1) := ⟨Hx.bb_below hb_ (by first | exact HB.out | exact below_drew1 HB.out | exact pw_below_drewN HB.out _)⟩; have n1_ : Aside0 (w_1.heap[gB3]? = some (.cells #[.int .i64 a0, .int .i64 a1, .int .i64 a2] 41 (0, 0))) := ⟨Hx.b_below hb_ B3.out⟩; (try clear cB3_0 dB3_0 cB3_1 dB3_1 cB3_2 dB3_2); (try clear HB); (try clear B3); have HB := n0_; have B3 := n1_; clear n0_ n1_; have cB3_0 : w_1.cell? ⟨gB3, 0, none⟩ = some (.int .i64 a0) := (blk_cell B3.out 0).trans rfl; have dB3_0 := blk_frozen B3.out 0; have cB3_1 : w_1.cell? ⟨gB3, 1, none⟩ = some (.int .i64 a1) := (blk_cell B3.out 1).trans rfl; have dB3_1 := blk_frozen B3.out 1; have cB3_2 : w_1.cell? ⟨gB3, 2, none⟩ = some (.int .i64 a2) := (blk_cell B3.out 2).trans rfl; have dB3_2 := blk_frozen B3.out 2; clear hb_) | ((with_reducible refine gate_callee (f := 69) rfl ?_); refine goesL_ (some 21) rfl rfl Try.func69 (by kernel_rfl) rfl #[.agg #[.int .i64 a0, .int .i64 a1, .int .i64 a2], .int .i64 a3, .int .i64 a4] rfl (by (try simp only [List.map_toArray, List.map_cons, List.map_nil]); first | done | rfl) ?_; refine (HM.out _).mono ?_; rintro e_ w_3 ⟨t_, V_, gl_, gh_, cl_, ch_, nE_, rfl, hr_, hk_, hb_⟩; refine ⟨_, rfl, ?_⟩; have HT := Aside0.mk hk_; clear hk_; have n0_ : Aside0 (Below w.heap.size w w_3) := ⟨Hx.bb_below hb_ (by first | exact HB.out | exact below_drew1 HB.out | exact pw_below_drewN HB.out _)⟩; have n1_ : Aside0 (w_3.heap[gB3]? = some (.cells #[.int .i64 a0, .int .i64 a1, .int .i64 a2] 41 (0, 0))) := ⟨Hx.b_below hb_ B3.out⟩; have m0_ : Aside0 (Rows w_3 t_ V_) := ⟨hr_⟩; (try clear cB3_0 dB3_0 cB3_1 dB3_1 cB3_2 dB3_2); (try clear HB); (try clear B3); have HB := n0_; have B3 := n1_; have HR := m0_; clear n0_ n1_ m0_; have cB3_0 : w_3.cell? ⟨gB3, 0, none⟩ = some (.int .i64 a0) := (blk_cell B3.out 0).trans rfl; have dB3_0 := blk_frozen B3.out 0; have cB3_1 : w_3.cell? ⟨gB3, 1, none⟩ = some (.int .i64 a1) := (blk_cell B3.out 1).trans rfl; have dB3_1 := blk_frozen B3.out 1; have cB3_2 : w_3.cell? ⟨gB3, 2, none⟩ = some (.int .i64 a2) := (blk_cell B3.out 2).trans rfl; have dB3_2 := blk_frozen B3.out 2; clear hb_ hr_) | ((with_reducible refine gate_dst (N := 8) rfl ?_); refine box_event ?hg (N := 8) ?hd (cs := #[.int .i64 0, .int .i64 0, .int .i64 0, .slice none 0 0, .slice none 0 0]) (t := 81) ?hr ?_; (case hd => rfl); (case hg => rfl); (case hr => first | (go_simp; done) | (go_simp; rfl)); intro gB8 hg_ w_gB8 BK_ hb_; have ORD_ : Aside0 (((True) ∧ (w.heap.size ≤ gB3)) ∧ (gB3 < gB8 ∧ w.heap.size ≤ gB8)) := ⟨by refine ⟨ORD.out, ?_⟩; (have := HB.out.size); (have := blk_lt B3.out); omega⟩; clear ORD; have ORD := ORD_; clear ORD_; have n0_ : Aside0 (Below w.heap.size w w_gB8) := ⟨Hx.bb_below hb_ (by first | exact HB.out | exact below_drew1 HB.out | exact pw_below_drewN HB.out _)⟩; have n1_ : Aside0 (w_gB8.heap[gB3]? = some (.cells #[.int .i64 a0, .int .i64 a1, .int .i64 a2] 41 (0, 0))) := ⟨Hx.b_below hb_ B3.out⟩; have n2_ : Aside0 (Rows w_gB8 t_ V_) := ⟨Rows.below HR.out hb_⟩; have m0_ : Aside0 (w_gB8.heap[gB8]? = some (.cells #[.int .i64 0, .int .i64 0, .int .i64 0, .slice none 0 0, .slice none 0 0] 81 (0, 0))) := ⟨BK_⟩; (try clear cB3_0 dB3_0 cB3_1 dB3_1 cB3_2 dB3_2); (try clear HB); (try clear B3); (try clear HR); have HB := n0_; have B3 := n1_; have HR := n2_; have B8 := m0_; clear n0_ n1_ n2_ m0_; have cB3_0 : w_gB8.cell? ⟨gB3, 0, none⟩ = some (.int .i64 a0) := (blk_cell B3.out 0).trans rfl; have dB3_0 := blk_frozen B3.out 0; have cB3_1 : w_gB8.cell? ⟨gB3, 1, none⟩ = some (.int .i64 a1) := (blk_cell B3.out 1).trans rfl; have dB3_1 := blk_frozen B3.out 1; have cB3_2 : w_gB8.cell? ⟨gB3, 2, none⟩ = some (.int .i64 a2) := (blk_cell B3.out 2).trans rfl; have dB3_2 := blk_frozen B3.out 2; have cB8_0 : w_gB8.cell? ⟨gB8, 0, none⟩ = some (.int .i64 0) := (blk_cell B8.out 0).trans rfl; have dB8_0 := blk_frozen B8.out 0; have cB8_1 : w_gB8.cell? ⟨gB8, 1, none⟩ = some (.int .i64 0) := (blk_cell B8.out 1).trans rfl; have dB8_1 := blk_frozen B8.out 1; have cB8_2 : w_gB8.cell? ⟨gB8, 2, none⟩ = some (.int .i64 0) := (blk_cell B8.out 2).trans rfl; have dB8_2 := blk_frozen B8.out 2; have cB8_3 : w_gB8.cell? ⟨gB8, 3, none⟩ = some (.slice none 0 0) := (blk_cell B8.out 3).trans rfl; have dB8_3 := blk_frozen B8.out 3; have cB8_4 : w_gB8.cell? ⟨gB8, 4, none⟩ = some (.slice none 0 0) := (blk_cell B8.out 4).trans rfl; have dB8_4 := blk_frozen B8.out 4; clear hg_ BK_ hb_) | ((with_reducible refine gate_store (t := 81) (p := 8) rfl ?_); refine store_event (t := 81) (p := 8) (v := ?vo_w5) (w1 := ((((((w_gB8).setCell ⟨gB8, 0, none⟩ (.int .i64 a0)).setCell ⟨gB8, 1, none⟩ (.int .i64 a1)).setCell ⟨gB8, 2, none⟩ (.int .i64 a2)).setCell ⟨gB8, 3, none⟩ (.slice (some ⟨gl_, 0, none⟩) (nE_ + 1) cl_)).setCell ⟨gB8, 4, none⟩ (.slice (some ⟨gh_, 0, none⟩) (nE_ + 1) ch_))) ?hg ?ho ?hn ?hr ?_; (case ho => rfl); (case hg => rfl); (case hn => rfl); (case hr => first | (go_simp; done) | (go_simp; rfl)); intro w_5 hw_; have HNE := Aside0.mk (HR.out.apart B8.out); have e0_ : gB3 ≠ gB8 := (by have := ORD.out; omega); have n0_ : Aside0 (Below w.heap.size w w_5) := ⟨by rw [hw_]; exact below_set (g := gB8) (below_set (g := gB8) (below_set (g := gB8) (below_set (g := gB8) (below_set (g := gB8) HB.out (by have := ORD.out; omega)) (by have := ORD.out; omega)) (by have := ORD.out; omega)) (by have := ORD.out; omega)) (by have := ORD.out; omega)⟩; have n1_ : Aside0 (w_5.heap[gB3]? = some (.cells #[.int .i64 a0, .int .i64 a1, .int .i64 a2] 41 (0, 0))) := ⟨by rw [hw_]; exact blk_far (blk_far (blk_far (blk_far (blk_far B3.out e0_ _) e0_ _) e0_ _) e0_ _) e0_ _⟩; have n2_ : Aside0 (Rows w_5 t_ V_) := ⟨by rw [hw_]; exact Rows.far (Rows.far (Rows.far (Rows.far (Rows.far HR.out HNE.out 0 _) HNE.out 1 _) HNE.out 2 _) HNE.out 3 _) HNE.out 4 _⟩; have n3_ : Aside0 (w_5.heap[gB8]? = some (.cells #[.int .i64 a0, .int .i64 a1, .int .i64 a2, .slice (some ⟨gl_, 0, none⟩) (nE_ + 1) cl_, .slice (some ⟨gh_, 0, none⟩) (nE_ + 1) ch_] 81 (0, 0))) := ⟨by rw [hw_]; exact blk_put (blk_put (blk_put (blk_put (blk_put B8.out 0 _ rfl) 1 _ rfl) 2 _ rfl) 3 _ rfl) 4 _ rfl⟩; (try clear cB3_0 dB3_0 cB3_1 dB3_1 cB3_2 dB3_2 cB8_0 dB8_0 cB8_1 dB8_1 cB8_2 dB8_2 cB8_3 dB8_3 cB8_4 dB8_4); (try clear HB); (try clear B3); (try clear HR); (try clear B8); have HB := n0_; have B3 := n1_; have HR := n2_; have B8 := n3_; clear n0_ n1_ n2_ n3_; have cB3_0 : w_5.cell? ⟨gB3, 0, none⟩ = some (.int .i64 a0) := (blk_cell B3.out 0).trans rfl; have dB3_0 := blk_frozen B3.out 0; have cB3_1 : w_5.cell? ⟨gB3, 1, none⟩ = some (.int .i64 a1) := (blk_cell B3.out 1).trans rfl; have dB3_1 := blk_frozen B3.out 1; have cB3_2 : w_5.cell? ⟨gB3, 2, none⟩ = some (.int .i64 a2) := (blk_cell B3.out 2).trans rfl; have dB3_2 := blk_frozen B3.out 2; have cB8_0 : w_5.cell? ⟨gB8, 0, none⟩ = some (.int .i64 a0) := (blk_cell B8.out 0).trans rfl; have dB8_0 := blk_frozen B8.out 0; have cB8_1 : w_5.cell? ⟨gB8, 1, none⟩ = some (.int .i64 a1) := (blk_cell B8.out 1).trans rfl; have dB8_1 := blk_frozen B8.out 1; have cB8_2 : w_5.cell? ⟨gB8, 2, none⟩ = some (.int .i64 a2) := (blk_cell B8.out 2).trans rfl; have dB8_2 := blk_frozen B8.out 2; have cB8_3 : w_5.cell? ⟨gB8, 3, none⟩ = some (.slice (some ⟨gl_, 0, none⟩) (nE_ + 1) cl_) := (blk_cell B8.out 3).trans rfl; have dB8_3 := blk_frozen B8.out 3; have cB8_4 : w_5.cell? ⟨gB8, 4, none⟩ = some (.slice (some ⟨gh_, 0, none⟩) (nE_ + 1) ch_) := (blk_cell B8.out 4).trans rfl; have dB8_4 := blk_frozen B8.out 4; clear hw_ e0_))
    have HB0 := HB
    clear HB
    go_loopg [9, 10, 11, 12] (N + 1) (fun k v9 v10 v11 v12 w' => ∃ b : Nat, v11 = .int .i64 (b : Int) ∧ v9 = .int .i64 (gOut f b).2 ∧ Aside0 (b + k = N + 1) ∧ Aside0 (Kd.R (Kd.int .i64) 3 w' w_5.heap.size (fun _ => True) v10 (gOut f b).1) ∧ Aside0 (Below w_5.heap.size w_5 w'))
    case atStart => exact ⟨0, rfl, rfl, ⟨by omega⟩, ⟨Kd.R_nil _ _ _ _ _⟩, ⟨Below.refl _ _⟩⟩
    case round =>
      clear cB3_0 dB3_0 cB3_1 dB3_1 cB3_2 dB3_2 cB8_0 dB8_0 cB8_1 dB8_1 cB8_2 dB8_2 cB8_3 dB8_3 cB8_4 dB8_4
      obtain ⟨b, rfl, rfl, HK, HO, HB⟩ := hrel
      by_cases hlf : b ≤ N
      · have d4 : decide ((b : Int) ≤ a4) = true := decide_eq_true (by have := HFF.out.2; have := HA.out; omega)
        have d5 : ((b : Int) ≤ a4) = True := eq_true (by have := HFF.out.2; have := HA.out; omega)
        have wb : IntKind.i64.wrap ((b : Int) + 1) = ((b + 1 : Nat) : Int) := Hw.wrap_w (by omega) (by have := HA.out; have := HFF.out.2; omega)
        obtain ⟨n, hn⟩ : ∃ n, n = f b := ⟨_, rfl⟩
        obtain ⟨l, hl⟩ : ∃ l, l = cDrops (CP.mk a0 a1 a2) (b : Int) a4.toNat a3.toNat a4.toNat 0 0 := ⟨_, rfl⟩
        have HCC : Aside0 (spec_csCost.f 62 a0 a1 a2 l = some n) := ⟨by
          rw [hn, HFF.out.1, hl]
          exact costL_spec (CP.mk a0 a1 a2) (cDrops_ok HP.out (b : Int) (by have := HA.out; omega) (by have := HA.out; omega))⟩
        have FC : Aside0 (∀ W, Below w_5.heap.size w_5 W → Calls Try.prog 70 #[.pointer (some ⟨gB8, 0, none⟩), .int .i64 a3, .int .i64 a4, .int .i64 (b : Int)] W fun e_ w' => ∃ v, e_ = .returned v ∧ Kd.R k89 89 w' W.heap.size (fun _ => True) v l ∧ Below W.heap.size W w') := ⟨by
          intro W hW
          rw [hl]
          exact cplayA a0 a1 a2 a3 a4 (b : Int) HA.out HT.out (HR.out.below hW) (Hx.b_below hW B8.out)⟩
        have f0_ : wr.cell? ⟨gB3, 0, none⟩ = some (.int .i64 a0) := pw_cell_below HB.out ((blk_cell B3.out 0).trans rfl)
        have f1_ : wr.cell? ⟨gB3, 1, none⟩ = some (.int .i64 a1) := pw_cell_below HB.out ((blk_cell B3.out 1).trans rfl)
        have f2_ : wr.cell? ⟨gB3, 2, none⟩ = some (.int .i64 a2) := pw_cell_below HB.out ((blk_cell B3.out 2).trans rfl)
        have HXL := Aside0.mk (gOut_len f b)
        obtain ⟨xs, hxs⟩ : ∃ xs, xs = (gOut f b).1 := ⟨_, rfl⟩
        obtain ⟨m, hm⟩ : ∃ m, m = (gOut f b).2 := ⟨_, rfl⟩
        have hp : gOut f b = (xs, m) := by rw [hxs, hm]
        have HS : Aside0 (gOut f (b + 1) = if m < n then ([(b : Int)], n) else if n = m then (xs ++ [(b : Int)], m) else (xs, m)) := ⟨by rw [gOut, hp]; unfold gStep; rw [← hn]⟩
        rw [← hxs] at HXL HO
        rw [← hm]
        replace HXL : Aside0 (xs.length ≤ b ∧ b ≤ N ∧ N = a4.toNat) := ⟨HXL.out, hlf, HFF.out.2⟩
        clear hlf hxs hm hn hp hl
        go_upto_region 9 with fail
        refine start_ (n := 7) (S := fun w' => w'.cell? ⟨gB3, 0, none⟩ = some (.int .i64 a0) ∧ w'.cell? ⟨gB3, 1, none⟩ = some (.int .i64 a1) ∧ w'.cell? ⟨gB3, 2, none⟩ = some (.int .i64 a2)) (ds := []) #[false, false, false, false, false, false, false] (by kernel_rfl) rfl rfl ⟨f0_, f1_, f2_⟩ (fun hHeld => ?_)
        refine pure_ (i := 1) (N := some 28) (v := ?_) (a' := ?_) #[false, true, false, false, false, false, false] rfl rfl (by kernel_rfl) (fun _ _ _ h => h) (Or.inl ⟨by rfl, ?_⟩) ?_ ?_
        rotate_left
        · intro w'
          go_simp
          with_reducible rfl
        rotate_left
        · simp only [Act.put, List.setIfInBounds_toArray, List.set_cons_zero, List.set_cons_succ, i64_w, i32_w]
          rfl
        refine pure_ (i := 2) (N := some 29) (v := ?_) (a' := ?_) #[false, true, true, false, false, false, false] rfl rfl (by kernel_rfl) (fun _ _ _ h => h) (Or.inl ⟨by rfl, ?_⟩) ?_ ?_
        rotate_left
        · intro w'
          go_simp
          with_reducible rfl
        rotate_left
        · simp only [Act.put, List.setIfInBounds_toArray, List.set_cons_zero, List.set_cons_succ, i64_w, i32_w]
          rfl
        refine pure_ (i := 3) (N := some 30) (v := ?_) (a' := ?_) #[false, true, true, true, false, false, false] rfl rfl (by kernel_rfl) (fun _ _ _ h => h) (Or.inl ⟨by rfl, ?_⟩) ?_ ?_
        rotate_left
        · intro w'
          go_simp
          with_reducible rfl
        rotate_left
        · simp only [Act.put, List.setIfInBounds_toArray, List.set_cons_zero, List.set_cons_succ, i64_w, i32_w]
          rfl
        refine take_ (i := 0) (N := some 27) (v := ?_) (a' := ?_) #[true, true, true, true, false, false, false] rfl rfl (by kernel_rfl) (fun _ _ _ h => h) (Or.inl ⟨by rfl, ?_⟩) hHeld ?_ ?_
        rotate_left
        · rintro w' ⟨s0, s1, s2⟩
          go_simp
          with_reducible rfl
        rotate_left
        · simp only [Act.put, List.setIfInBounds_toArray, List.set_cons_zero, List.set_cons_succ, i64_w, i32_w]
          rfl
        refine one_ (i := 4) (N := some 31) #[true, true, true, true, true, false, false] rfl rfl (by kernel_rfl) (by decide) (fun K hK => ?_)
        refine goes_ Try.func70 (by kernel_rfl) rfl #[.pointer (some ⟨gB8, 0, none⟩), .int .i64 a3, .int .i64 a4, .int .i64 (b : Int)] (by rfl) rfl rfl (by simp only [List.map_toArray, List.map_cons, List.map_nil]; rfl) ?_
        with_reducible refine (FC.out _ (below_drew1 HB.out)).mono ?_
        rintro e_ w_1 ⟨v_, rfl, hr_, hb_⟩
        refine ⟨_, rfl, ?_⟩
        obtain ⟨A_, c_, ev_, hc_, hC_⟩ := Kd.R_reads hr_
        subst ev_
        have HD := Aside0.mk (Hx.undrew hb_)
        have HQ := Aside0.mk (And.intro hC_ hc_)
        clear hr_ hb_ hC_ hc_
        refine hK.out _ _ ⟨pw_cell_below HD.out f0_, pw_cell_below HD.out f1_, pw_cell_below HD.out f2_⟩ (fun hHeld => ?_)
        clear hK K
        refine norm_ (a' := ?_) ?_ ?_
        rotate_left
        · show Act.put _ (some 31) _ = _
          simp only [Act.put, List.setIfInBounds_toArray, List.set_cons_zero, List.set_cons_succ, i64_w, i32_w]
          rfl
        refine one_ (i := 5) (N := some 32) #[true, true, true, true, true, true, false] rfl rfl (by kernel_rfl) (by decide) (fun K hK => ?_)
        refine goes_ Try.func76 (by kernel_rfl) rfl #[.agg #[.int .i64 a0, .int .i64 a1, .int .i64 a2], .slice A_ l.length c_] (by rfl) rfl rfl (by simp only [List.map_toArray, List.map_cons, List.map_nil]; rfl) ?_
        with_reducible refine (spec_csCost.calls 62 a0 a1 a2 A_ c_ l n w_1 HQ.out.1 HQ.out.2 HCC.out).mono ?_
        rintro e_ w_2 ⟨rfl, hb_⟩
        refine ⟨_, rfl, ?_⟩
        have HD2 := Aside0.mk (Hx.bb_below hb_ HD.out)
        have hO_ := Kd.R_below HO.out HD2.out
        have hB_ := Hx.bb_below HD2.out HB.out
        clear hb_
        refine hK.out _ _ ⟨pw_cell_below HD2.out f0_, pw_cell_below HD2.out f1_, pw_cell_below HD2.out f2_⟩ (fun hHeld => ?_)
        clear hK K
        refine norm_ (a' := ?_) ?_ ?_
        rotate_left
        · show Act.put _ (some 32) _ = _
          simp only [Act.put, List.setIfInBounds_toArray, List.set_cons_zero, List.set_cons_succ, i64_w, i32_w]
          rfl
        refine pure_ (i := 6) (N := some 12) (v := ?_) (a' := ?_) #[true, true, true, true, true, true, true] rfl rfl (by kernel_rfl) (fun _ _ _ h => h) (Or.inl ⟨by rfl, ?_⟩) ?_ ?_
        rotate_left
        · intro w'
          go_simp
          with_reducible rfl
        rotate_left
        · simp only [Act.put, List.setIfInBounds_toArray, List.set_cons_zero, List.set_cons_succ, i64_w, i32_w]
          rfl
        refine done_ (by kernel_rfl) ?_
        clear HO HB
        have HO := Aside0.mk hO_
        have HB := Aside0.mk hB_
        clear hO_ hB_ HD HD2 HQ HCC FC f0_ f1_ f2_
        by_cases h1 : m < n
        · have e1 : decide (m < n) = true := decide_eq_true h1
          have e2 : (m < n) = True := eq_true h1
          have e3 : (n == n) = true := by simp
          obtain ⟨y, hy⟩ : ∃ y : List Int, y = [] ++ [(b : Int)] := ⟨_, rfl⟩
          have Ny := Aside0.mk hy
          rw [if_pos h1, show [(b : Int)] = y from hy.symm] at HS
          have HX := Aside0.mk h1
          clear h1 hy HO
          have HO : Aside0 (Kd.R (Kd.int .i64) 3 w_2 w_5.heap.size (fun _ => True) (.slice none 0 0) ([] : List Int)) := ⟨Kd.R_nil _ _ _ _ _⟩
          go_wp2_with (first | ((with_reducible refine gate_builtin (b := .append) (xs := #[.tmp 40, .tmp 42]) rfl ?_); at_builtin; refine Kd.R_append (Kd.int .i64) (w0 := w_5) w_5.heap.size rfl (.tmp 40) (.tmp 42) 46 3 (.int .i64 0) 8 rfl Try.underlying46 info3 rfl (by decide) (by omega) (.slice none 0 0) ([] : List Int) (b : Int) [.int .i64 ((b : Int))] (fun _ => True) (fun _ => False) rfl rfl ?aP (fun _ hk => hk.elim) ?aF ?aO ?aB ?aS ?aL ?_; (case aP => exact rfl); (case aB => exact (by repeat (first | (with_reducible first | exact HB.out | apply below_alloc | apply pw_below_drewN | apply below_drew1) | exact HB.out))); (case aF => exact (fun _ _ => trivial)); (case aO => exact (by (with_reducible repeat (first | apply Kd.R_alloc | apply Kd.R_drewN | apply Kd.R_drew)); exact HO.out)); (case aS => exact (below_size (by repeat (first | (with_reducible first | exact HB.out | apply below_alloc | apply pw_below_drewN | apply below_drew1) | exact HB.out)))); (case aL => have := HXL.out; have := HA.out; first | omega | (simp only [List.length_nil]; omega)); intro v2_ w_3 ho hb hg hat; rw [← Ny.out] at ho; clear HB HO; have HB := Aside0.mk hb; have HO := Aside0.mk ho; clear ho hb hg hat))
          go_roundg (N - b)
          case measure => have := HK.out; have := HXL.out; omega
          case rel => exact ⟨b + 1, rfl, by rw [HS.out], ⟨by have := HK.out; have := HXL.out; omega⟩, ⟨by rw [HS.out]; exact HO.out⟩, HB⟩
        · have e1 : decide (m < n) = false := decide_eq_false h1
          have e2 : (m < n) = False := eq_false h1
          rw [if_neg h1] at HS
          by_cases h2 : n = m
          · subst h2
            rw [if_pos rfl] at HS
            have e3 : (n == n) = true := by simp
            obtain ⟨y, hy⟩ : ∃ y : List Int, y = xs ++ [(b : Int)] := ⟨_, rfl⟩
            have Ny := Aside0.mk hy
            rw [← hy] at HS
            have HX := Aside0.mk h1
            clear h1 hy
            go_wp2_with (first | ((with_reducible refine gate_builtin (b := .append) (xs := #[.tmp 40, .tmp 42]) rfl ?_); at_builtin; refine Kd.R_append (Kd.int .i64) (w0 := w_5) w_5.heap.size rfl (.tmp 40) (.tmp 42) 46 3 (.int .i64 0) 8 rfl Try.underlying46 info3 rfl (by decide) (by omega) u10 xs (b : Int) [.int .i64 ((b : Int))] (fun _ => True) (fun _ => False) rfl rfl ?aP (fun _ hk => hk.elim) ?aF ?aO ?aB ?aS ?aL ?_; (case aP => exact rfl); (case aB => exact (by repeat (first | (with_reducible first | exact HB.out | apply below_alloc | apply pw_below_drewN | apply below_drew1) | exact HB.out))); (case aF => exact (fun _ _ => trivial)); (case aO => exact (by (with_reducible repeat (first | apply Kd.R_alloc | apply Kd.R_drewN | apply Kd.R_drew)); exact HO.out)); (case aS => exact (below_size (by repeat (first | (with_reducible first | exact HB.out | apply below_alloc | apply pw_below_drewN | apply below_drew1) | exact HB.out)))); (case aL => have := HXL.out; have := HA.out; first | omega | (simp only [List.length_nil]; omega)); intro v2_ w_3 ho hb hg hat; rw [← Ny.out] at ho; clear HB HO; have HB := Aside0.mk hb; have HO := Aside0.mk ho; clear ho hb hg hat))
            go_roundg (N - b)
            case measure => have := HK.out; have := HXL.out; omega
            case rel => exact ⟨b + 1, rfl, by rw [HS.out], ⟨by have := HK.out; have := HXL.out; omega⟩, ⟨by rw [HS.out]; exact HO.out⟩, HB⟩
          · have e3 : (n == m) = false := by simpa using h2
            rw [if_neg h2] at HS
            have HX := Aside0.mk (And.intro h1 h2)
            clear h1 h2
            go_wp2
            go_roundg (N - b)
            case measure => have := HK.out; have := HXL.out; omega
            case rel => exact ⟨b + 1, rfl, by rw [HS.out], ⟨by have := HK.out; have := HXL.out; omega⟩, ⟨by rw [HS.out]; exact HO.out⟩, HB⟩
      · have d4 : decide ((b : Int) ≤ a4) = false := decide_eq_false (by have := HFF.out.2; have := HA.out; omega)
        have d5 : ((b : Int) ≤ a4) = False := eq_false (by have := HFF.out.2; have := HA.out; omega)
        have HF2 : Aside0 (gOut f b = gOut f (N + 1)) := ⟨by rw [show b = N + 1 by have := HK.out; omega]⟩
        clear hlf
        go_wp2
        go_ret2
        exact ⟨_, rfl, by rw [← HF2.out]; exact Kd.R_lower HO.out HB0.out.size, Hx.bb_below HB.out HB0.out⟩


/-! ### laws_eqIntS: function 34 -/
def laws_eqIntS.l0 : Nat → List Int → List Int → Int → Option (Bool)
  | 0, _, _, _ => none
  | k + 1, x0, x1, x5 => if x5 < (x0.length : Int) then (if 0 ≤ x5 then (if x5 < (x1.length : Int) then (if (rd x0 x5) = (rd x1 x5) then (laws_eqIntS.l0 k x0 x1 (wrap64 (x5 + 1))) else (some false)) else (none)) else (none)) else (some true)
def laws_eqIntS.f (k : Nat) (l0 : List Int) (l1 : List Int) : Option (Bool) := if (l0.length : Int) = (l1.length : Int) then (laws_eqIntS.l0 k l0 l1 0) else (some false)
theorem laws_eqIntS.mono_l : ∀ k, (∀ y0 y1 y2, LeO (laws_eqIntS.l0 k y0 y1 y2) (laws_eqIntS.l0 (k + 1) y0 y1 y2))
  | 0 => fun _ _ _ r h => by simp [laws_eqIntS.l0] at h
  | k + 1 => by
    have ih0 := laws_eqIntS.mono_l k
    · intro y0 y1 y2
      unfold laws_eqIntS.l0
      repeat' first
      | (with_reducible exact ih0 _ _ _)
      | (with_reducible exact LeO.refl _)
      | (with_reducible exact LeO.none _)
      | (with_reducible refine LeO.ite ?_ ?_)
      | (with_reducible refine LeO.bind ?_ (fun _ => ?_))
      | exact ih0 _ _ _
      | exact LeO.none _
      | refine LeO.ite ?_ ?_
      | refine LeO.bind ?_ (fun _ => ?_)
theorem laws_eqIntS.mono : ∀ a0 a1 k, LeO (laws_eqIntS.f k a0 a1) (laws_eqIntS.f (k + 1) a0 a1) := by
  intro a0 a1 k
  have ih0 := laws_eqIntS.mono_l k
  unfold laws_eqIntS.f
  repeat' first
      | (with_reducible exact ih0 _ _ _)
      | (with_reducible exact LeO.refl _)
      | (with_reducible exact LeO.none _)
      | (with_reducible refine LeO.ite ?_ ?_)
      | (with_reducible refine LeO.bind ?_ (fun _ => ?_))
      | exact ih0 _ _ _
      | exact LeO.none _
      | refine LeO.ite ?_ ?_
      | refine LeO.bind ?_ (fun _ => ?_)
set_option maxHeartbeats 8000000 in
set_option maxRecDepth 100000 in
theorem laws_eqIntS.calls (k : Nat) (A0 : Option Addr) (c0 : Nat) (l0 : List Int) (A1 : Option Addr) (c1 : Nat) (l1 : List Int) (r : Bool) (w : World) (hr0 : Kd.C (Kd.int .i64) w A0 l0.length l0) (hc0 : l0.length ≤ c0) (hr1 : Kd.C (Kd.int .i64) w A1 l1.length l1) (hc1 : l1.length ≤ c1) (h : laws_eqIntS.f k l0 l1 = some r) :
    Calls Try.prog 34 #[.slice A0 l0.length c0, .slice A1 l1.length c1] w fun e w' => e = .returned (.bool r) ∧ Drawn0 w w' := by
  have HR0 := Aside0.mk hr0
  have HC0 := Aside0.mk hc0
  clear hr0 hc0
  have HR1 := Aside0.mk hr1
  have HC1 := Aside0.mk hc1
  clear hr1 hc1
  have H : (if (l0.length : Int) = (l1.length : Int) then (laws_eqIntS.l0 k l0 l1 0) else (some false)) = some r := h
  clear h
  by_cases c3 : (l0.length : Int) = (l1.length : Int)
  · rw [if_pos c3] at H
    have c3b0 : ((l0.length : Int) == (l1.length : Int)) = true := beq_iff_eq.mpr c3
    have c3b1 : ((l0.length : Int) != (l1.length : Int)) = false := bne_eq_false_iff_eq.mpr c3
    have c3b2 : (l0.length == l1.length) = true := by first | simpa using c3 | (simp at c3 ⊢; omega)
    clear c3
    have H' := Aside0.mk H
    clear H
    go_enter Try.func34, Try.ntmps34
    go_wp2
    repeat (go_quiet (fail); try go_wp2)
    go_loopg [5] k (fun kq v5 w' => ∃ (x5_1 : Int), v5 = .int .i64 x5_1 ∧ Aside0 (laws_eqIntS.l0 kq l0 l1 x5_1 = some r) ∧ Aside0 (kq ≤ k) ∧ Drawn0 w w')
    case atStart => exact ⟨(0), (by first | rfl | (simp; done) | (simp [*]; done)), H', ⟨Nat.le_refl _⟩, by repeat (first | exact Drawn0.refl _ | apply Drawn0.step)⟩
    case round =>
      clear H'
      try clear c1
      try clear p2
      try clear c3
      try clear c3b0
      try clear c3b1
      try clear c3b2
      obtain ⟨x5_1, rfl, HA, HK1, ⟨m1, rfl⟩⟩ := hrel
      cases gk with
      | zero => exact absurd HA.out (by simp [laws_eqIntS.l0])
      | succ k1 =>
        have H := HA.out
        clear HA
        simp only [laws_eqIntS.l0] at H
        by_cases c4 : x5_1 < (l0.length : Int)
        · rw [if_pos c4] at H
          have c4b0 : decide (x5_1 < (l0.length : Int)) = true := decide_eq_true c4
          clear c4
          by_cases c5 : 0 ≤ x5_1
          · rw [if_pos c5] at H
            have c5b0 : decide (0 ≤ x5_1) = true := decide_eq_true c5
            clear c5
            by_cases c6 : x5_1 < (l1.length : Int)
            · rw [if_pos c6] at H
              have c6b0 : decide (x5_1 < (l1.length : Int)) = true := decide_eq_true c6
              clear c6
              by_cases c7 : (rd l0 x5_1) = (rd l1 x5_1)
              · rw [if_pos c7] at H
                have c7b0 : ((rd l0 x5_1) == (rd l1 x5_1)) = true := beq_iff_eq.mpr c7
                have c7b1 : ((rd l0 x5_1) != (rd l1 x5_1)) = false := bne_eq_false_iff_eq.mpr c7
                clear c7
                have H' := Aside0.mk H
                clear H
                have p142 : 0 ≤ (x5_1 : Int) := of_decide_eq_true (by first | (with_reducible assumption) | assumption)
                have q142 : x5_1 < (l0.length : Int) := of_decide_eq_true (by first | (with_reducible assumption) | assumption)
                obtain ⟨ad142, e142, hx142_0⟩ := Kd.at_int HR0.out x5_1 p142 q142
                cases e142
                replace p142 := eq_true p142
                replace q142 := eq_true q142
                have p143 : 0 ≤ (x5_1 : Int) := of_decide_eq_true (by first | (with_reducible assumption) | assumption)
                have q143 : x5_1 < (l1.length : Int) := of_decide_eq_true (by first | (with_reducible assumption) | assumption)
                obtain ⟨ad143, e143, hx143_0⟩ := Kd.at_int HR1.out x5_1 p143 q143
                cases e143
                replace p143 := eq_true p143
                replace q143 := eq_true q143
                go_wp2
                repeat (go_quiet (fail); try go_wp2)
                go_roundg k1
                case measure => have := HK1.out; omega
                case rel => exact ⟨(wrap64 (x5_1 + 1)), (by first | rfl | (simp; done) | (simp [*]; done)), H', ⟨by have := HK1.out; omega⟩, by repeat (first | exact Drawn0.refl _ | apply Drawn0.step)⟩
              · rw [if_neg c7] at H
                have c7b0 : ((rd l0 x5_1) == (rd l1 x5_1)) = false := beq_eq_false_iff_ne.mpr c7
                have c7b1 : ((rd l0 x5_1) != (rd l1 x5_1)) = true := bne_iff_ne.mpr c7
                obtain rfl := Option.some.inj H
                have p142 : 0 ≤ (x5_1 : Int) := of_decide_eq_true (by first | (with_reducible assumption) | assumption)
                have q142 : x5_1 < (l0.length : Int) := of_decide_eq_true (by first | (with_reducible assumption) | assumption)
                obtain ⟨ad142, e142, hx142_0⟩ := Kd.at_int HR0.out x5_1 p142 q142
                cases e142
                replace p142 := eq_true p142
                replace q142 := eq_true q142
                have p143 : 0 ≤ (x5_1 : Int) := of_decide_eq_true (by first | (with_reducible assumption) | assumption)
                have q143 : x5_1 < (l1.length : Int) := of_decide_eq_true (by first | (with_reducible assumption) | assumption)
                obtain ⟨ad143, e143, hx143_0⟩ := Kd.at_int HR1.out x5_1 p143 q143
                cases e143
                replace p143 := eq_true p143
                replace q143 := eq_true q143
                go_wp2
                repeat (go_quiet (fail); try go_wp2)
                go_ret
                exact ⟨by first | rfl | (simp; done) | (simp [*]; done), by repeat (first | exact Drawn0.refl _ | apply Drawn0.step)⟩
            · rw [if_neg c6] at H
              exact absurd H (by simp)
          · rw [if_neg c5] at H
            exact absurd H (by simp)
        · rw [if_neg c4] at H
          have c4b0 : decide (x5_1 < (l0.length : Int)) = false := decide_eq_false c4
          clear c4
          obtain rfl := Option.some.inj H
          go_wp2
          repeat (go_quiet (fail); try go_wp2)
          go_ret
          exact ⟨by first | rfl | (simp; done) | (simp [*]; done), by repeat (first | exact Drawn0.refl _ | apply Drawn0.step)⟩
  · rw [if_neg c3] at H
    have c3b0 : ((l0.length : Int) == (l1.length : Int)) = false := beq_eq_false_iff_ne.mpr c3
    have c3b1 : ((l0.length : Int) != (l1.length : Int)) = true := bne_iff_ne.mpr c3
    have c3b2 : (l0.length == l1.length) = false := by first | simpa using c3 | (simp at c3 ⊢; omega)
    obtain rfl := Option.some.inj H
    go_enter Try.func34, Try.ntmps34
    go_wp2
    repeat (go_quiet (fail); try go_wp2)
    go_ret
    exact ⟨by first | rfl | (simp; done) | (simp [*]; done), by repeat (first | exact Drawn0.refl _ | apply Drawn0.step)⟩

/-! ### laws_markIntS: function 35 -/
def laws_markIntS.l0 : Nat → List Int → Int → Int → Option (Int × List Int)
  | 0, _, _, _ => none
  | k + 1, x0, x1, x5 => if x5 < (x0.length : Int) then (if 0 ≤ x5 then (laws_markIntS.l0 k (x0.set (x5 : Int).toNat x1) (wrap64 (x1 + 1)) (wrap64 (x5 + 1))) else (none)) else (some (x1, x0))
def laws_markIntS.f (k : Nat) (l0 : List Int) (a1 : Int) : Option (Int × List Int) := laws_markIntS.l0 k l0 a1 0
theorem laws_markIntS.mono_l : ∀ k, (∀ y0 y1 y2, LeO (laws_markIntS.l0 k y0 y1 y2) (laws_markIntS.l0 (k + 1) y0 y1 y2))
  | 0 => fun _ _ _ r h => by simp [laws_markIntS.l0] at h
  | k + 1 => by
    have ih0 := laws_markIntS.mono_l k
    · intro y0 y1 y2
      unfold laws_markIntS.l0
      repeat' first
      | (with_reducible exact ih0 _ _ _)
      | (with_reducible exact LeO.refl _)
      | (with_reducible exact LeO.none _)
      | (with_reducible refine LeO.ite ?_ ?_)
      | (with_reducible refine LeO.bind ?_ (fun _ => ?_))
      | exact ih0 _ _ _
      | exact LeO.none _
      | refine LeO.ite ?_ ?_
      | refine LeO.bind ?_ (fun _ => ?_)
theorem laws_markIntS.mono : ∀ a0 a1 k, LeO (laws_markIntS.f k a0 a1) (laws_markIntS.f (k + 1) a0 a1) := by
  intro a0 a1 k
  have ih0 := laws_markIntS.mono_l k
  unfold laws_markIntS.f
  repeat' first
      | (with_reducible exact ih0 _ _ _)
      | (with_reducible exact LeO.refl _)
      | (with_reducible exact LeO.none _)
      | (with_reducible refine LeO.ite ?_ ?_)
      | (with_reducible refine LeO.bind ?_ (fun _ => ?_))
      | exact ih0 _ _ _
      | exact LeO.none _
      | refine LeO.ite ?_ ?_
      | refine LeO.bind ?_ (fun _ => ?_)
set_option maxHeartbeats 8000000 in
set_option maxRecDepth 100000 in
theorem laws_markIntS.calls (k : Nat) (P0_ : Nat → Prop) (u9000_ : Value) (l0 : List Int) (a1 : Int) (r1 : Int) (r2 : List Int) (w0 w : World) (hB : Below w0.heap.size w0 w) (ho0 : Kd.R (Kd.int .i64) 3 w w0.heap.size P0_ u9000_ l0) (h : laws_markIntS.f k l0 a1 = some (r1, r2)) :
    Calls Try.prog 35 #[u9000_, .int .i64 a1] w fun e w' => e = .returned (.int .i64 r1) ∧ Kd.R (Kd.int .i64) 3 w' w0.heap.size (fun k_ => (P0_ k_ ∨ w.heap.size ≤ k_)) u9000_ r2 ∧ Below w0.heap.size w0 w' ∧ Kept w w' (fun k_ => P0_ k_) := by
  have HO0 := Aside0.mk (show Kd.R (Kd.int .i64) 3 w w0.heap.size (fun k_ => (P0_ k_ ∨ w.heap.size ≤ k_)) u9000_ l0 from Kd.R_mono ho0 (fun k_ hk => (.inl hk)))
  have HK := Aside0.mk (Kept.refl w (fun k_ => P0_ k_))
  have HW0 := Aside0.mk hB.size
  have HB := Aside0.mk hB
  clear hB
  have H : (laws_markIntS.l0 k l0 a1 0) = some (r1, r2) := h
  clear h
  have H' := Aside0.mk H
  clear H
  go_enter Try.func35, Try.ntmps35
  go_wp2
  go_loopg [1, 5] k (fun kq v1 v5 w' => ∃ (x0_1 : List Int) (x1_1 : Int) (x5_1 : Int), v1 = .int .i64 x1_1 ∧ v5 = .int .i64 x5_1 ∧ Aside0 (laws_markIntS.l0 kq x0_1 x1_1 x5_1 = some (r1, r2)) ∧ Aside0 (kq ≤ k) ∧ Aside0 (Kd.R (Kd.int .i64) 3 w' w0.heap.size (fun k_ => (P0_ k_ ∨ w.heap.size ≤ k_)) u9000_ x0_1) ∧ Aside0 (Kept w w' (fun k_ => P0_ k_)) ∧ Aside0 (Below w0.heap.size w0 w'))
  case atStart => exact ⟨(l0), (a1), (0), (by first | rfl | (simp; done) | (simp [*]; done)), (by first | rfl | (simp; done) | (simp [*]; done)), H', ⟨Nat.le_refl _⟩, ⟨by (with_reducible repeat (first | apply Kd.R_alloc | apply Kd.R_drewN | apply Kd.R_drew)); exact HO0.out⟩, ⟨by repeat (first | (with_reducible first | exact HK.out | apply Kept.alloc | apply Kept.drewN | apply Kept.drew) | exact HK.out)⟩, ⟨by repeat (first | (with_reducible first | exact HB.out | apply below_alloc | apply pw_below_drewN | apply below_drew1) | exact HB.out)⟩⟩
  case round =>
    clear H'
    try clear p2
    obtain ⟨x0_1, x1_1, x5_1, rfl, rfl, HA, HK1, HO_0, HK, HB⟩ := hrel
    cases gk with
    | zero => exact absurd HA.out (by simp [laws_markIntS.l0])
    | succ k1 =>
      have H := HA.out
      clear HA
      simp only [laws_markIntS.l0] at H
      by_cases c3 : x5_1 < (x0_1.length : Int)
      · rw [if_pos c3] at H
        have c3b0 : decide (x5_1 < (x0_1.length : Int)) = true := decide_eq_true c3
        clear c3
        by_cases c4 : 0 ≤ x5_1
        · rw [if_pos c4] at H
          have c4b0 : decide (0 ≤ x5_1) = true := decide_eq_true c4
          clear c4
          obtain ⟨y144, hy144⟩ : ∃ y_ : List Int, y_ = (x0_1.set (x5_1 : Int).toNat x1_1) := ⟨_, rfl⟩
          replace H : (laws_markIntS.l0 k1 y144 (wrap64 (x1_1 + 1)) (wrap64 (x5_1 + 1))) = some (r1, r2) := by first | (rw [hy144]; with_reducible exact H) | (have H2_ := (Option.bind_some _ _).symm.trans H; rw [hy144]; with_reducible exact H2_) | (have H2_ := (Option.bind_some _ _).symm.trans H; with_reducible exact H2_) | with_reducible exact H | (rw [hy144]; exact H) | exact H
          have Ny144 := Aside0.mk hy144
          clear hy144
          have H' := Aside0.mk H
          clear H
          obtain ⟨Ao6, co6, eo6⟩ := Kd.R_slice HO_0.out
          subst eo6
          have p5 : 0 ≤ (x5_1 : Int) := of_decide_eq_true (by first | (with_reducible assumption) | assumption)
          have q5 : (x5_1 : Int) < ((x0_1.length : Int) : Int) := of_decide_eq_true (by first | (with_reducible assumption) | assumption)
          obtain ⟨go5, co5, eo5, gb5, gl5, cl5, HG5⟩ := Kd.R_form HO_0.out (by omega)
          (first | cases eo5 | (injection eo5 with ea_ en_ ec_; (first | subst ea_ | (injection ea_ with ea_; subst ea_)); subst ec_; clear en_))
          have GB5 := Aside0.mk gb5
          have GG5 := Aside0.mk HG5
          clear gb5 gl5 HG5
          have HMgo5 := Aside0.mk (show (P0_ go5 ∨ w.heap.size ≤ go5) from (HO_0.out.1 _ rfl))
          obtain ⟨hx5_0, hf5_0⟩ := Kd.R_celln 0 HO_0.out (x5_1 : Int) p5 q5
          replace p5 := eq_true p5
          replace q5 := eq_true q5
          have HP7 := Kd.R_putg HO_0.out (x5_1 : Int) x1_1
          go_wp2_with (first | ((with_reducible refine gate_store (t := 3) (p := 15) rfl ?_); refine store_event (t := 3) (p := 15) (v := ?vo_w8) (w1 := (wr.setCell ⟨go5, (x5_1 : Int).toNat, none⟩ (.int .i64 x1_1))) ?hg ?ho ?hn ?hr ?_; (case ho => rfl); (case hg => rfl); (case hn => rfl); (case hr => first | (go_simp; done) | (go_simp; rfl)); intro w8 hw; have hg : wr.grownBy w8 (some go5) := (by rw [hw]; exact HP7.2); have hp_ : Kd.R (Kd.int .i64) 3 w8 w0.heap.size (fun k_ => (P0_ k_ ∨ w.heap.size ≤ k_)) (.slice (some ⟨go5, 0, none⟩) x0_1.length co6) y144 := (by rw [hw, Ny144.out]; exact HP7.1); clear HP7; have n0_ := Aside0.mk (hp_); have n1_ := Aside0.mk ((by rw [hw]; exact below_set (HB.out) GB5.out : Below w0.heap.size w0 w8)); have n2_ := Aside0.mk (Kept.of_grown (S := (fun k_ => P0_ k_)) hg (by repeat (first | (with_reducible first | exact HK.out | apply Kept.alloc | apply Kept.drewN | apply Kept.drew) | exact HK.out)) (fun k_ e_ => (HO_0.out.1 k_ e_))); clear HO_0; clear HB; clear HK; have HO_0 := n0_; have HB := n1_; have HK := n2_; clear n0_ n1_ n2_; clear hg hw hp_))
          go_roundg k1
          case measure => have := HK1.out; omega
          case rel => exact ⟨(y144), (wrap64 (x1_1 + 1)), (wrap64 (x5_1 + 1)), (by first | rfl | (simp; done) | (simp [*]; done)), (by first | rfl | (simp; done) | (simp [*]; done)), H', ⟨by have := HK1.out; omega⟩, ⟨by (with_reducible repeat (first | apply Kd.R_alloc | apply Kd.R_drewN | apply Kd.R_drew)); exact HO_0.out⟩, ⟨by repeat (first | (with_reducible first | exact HK.out | apply Kept.alloc | apply Kept.drewN | apply Kept.drew) | exact HK.out)⟩, ⟨by repeat (first | (with_reducible first | exact HB.out | apply below_alloc | apply pw_below_drewN | apply below_drew1) | exact HB.out)⟩⟩
        · rw [if_neg c4] at H
          exact absurd H (by simp)
      · rw [if_neg c3] at H
        have c3b0 : decide (x5_1 < (x0_1.length : Int)) = false := decide_eq_false c3
        clear c3
        simp only [Option.some.injEq, Prod.mk.injEq] at H
        obtain ⟨rfl, rfl⟩ := H
        obtain ⟨Ao9, co9, eo9⟩ := Kd.R_slice HO_0.out
        subst eo9
        go_wp2
        go_ret
        exact ⟨by first | rfl | (simp [errW_none, errW_some] <;> rfl) | (simp [*, errW_none, errW_some] <;> rfl), by (with_reducible repeat (first | apply Kd.R_alloc | apply Kd.R_drewN | apply Kd.R_drew)); exact HO_0.out, by repeat (first | (with_reducible first | exact HB.out | apply below_alloc | apply pw_below_drewN | apply below_drew1) | exact HB.out), by repeat (first | (with_reducible first | exact HK.out | apply Kept.alloc | apply Kept.drewN | apply Kept.drew) | exact HK.out)⟩

/-! ### laws_heldIntS: function 36 -/
def laws_heldIntS.l0 : Nat → List Int → Int → Int → Option (Int)
  | 0, _, _, _ => none
  | k + 1, x0, x1, x5 => if x5 < (x0.length : Int) then (if 0 ≤ x5 then (if (rd x0 x5) = x1 then (laws_heldIntS.l0 k x0 (wrap64 (x1 + 1)) (wrap64 (x5 + 1))) else (some (-1))) else (none)) else (some x1)
def laws_heldIntS.f (k : Nat) (l0 : List Int) (a1 : Int) : Option (Int) := laws_heldIntS.l0 k l0 a1 0
theorem laws_heldIntS.mono_l : ∀ k, (∀ y0 y1 y2, LeO (laws_heldIntS.l0 k y0 y1 y2) (laws_heldIntS.l0 (k + 1) y0 y1 y2))
  | 0 => fun _ _ _ r h => by simp [laws_heldIntS.l0] at h
  | k + 1 => by
    have ih0 := laws_heldIntS.mono_l k
    · intro y0 y1 y2
      unfold laws_heldIntS.l0
      repeat' first
      | (with_reducible exact ih0 _ _ _)
      | (with_reducible exact LeO.refl _)
      | (with_reducible exact LeO.none _)
      | (with_reducible refine LeO.ite ?_ ?_)
      | (with_reducible refine LeO.bind ?_ (fun _ => ?_))
      | exact ih0 _ _ _
      | exact LeO.none _
      | refine LeO.ite ?_ ?_
      | refine LeO.bind ?_ (fun _ => ?_)
theorem laws_heldIntS.mono : ∀ a0 a1 k, LeO (laws_heldIntS.f k a0 a1) (laws_heldIntS.f (k + 1) a0 a1) := by
  intro a0 a1 k
  have ih0 := laws_heldIntS.mono_l k
  unfold laws_heldIntS.f
  repeat' first
      | (with_reducible exact ih0 _ _ _)
      | (with_reducible exact LeO.refl _)
      | (with_reducible exact LeO.none _)
      | (with_reducible refine LeO.ite ?_ ?_)
      | (with_reducible refine LeO.bind ?_ (fun _ => ?_))
      | exact ih0 _ _ _
      | exact LeO.none _
      | refine LeO.ite ?_ ?_
      | refine LeO.bind ?_ (fun _ => ?_)
set_option maxHeartbeats 8000000 in
set_option maxRecDepth 100000 in
theorem laws_heldIntS.calls (k : Nat) (A0 : Option Addr) (c0 : Nat) (l0 : List Int) (a1 : Int) (r : Int) (w : World) (hr0 : Kd.C (Kd.int .i64) w A0 l0.length l0) (hc0 : l0.length ≤ c0) (h : laws_heldIntS.f k l0 a1 = some r) :
    Calls Try.prog 36 #[.slice A0 l0.length c0, .int .i64 a1] w fun e w' => e = .returned (.int .i64 r) ∧ Drawn0 w w' := by
  have HR0 := Aside0.mk hr0
  have HC0 := Aside0.mk hc0
  clear hr0 hc0
  have H : (laws_heldIntS.l0 k l0 a1 0) = some r := h
  clear h
  have H' := Aside0.mk H
  clear H
  go_enter Try.func36, Try.ntmps36
  go_wp2
  go_loopg [1, 5] k (fun kq v1 v5 w' => ∃ (x1_1 : Int) (x5_1 : Int), v1 = .int .i64 x1_1 ∧ v5 = .int .i64 x5_1 ∧ Aside0 (laws_heldIntS.l0 kq l0 x1_1 x5_1 = some r) ∧ Aside0 (kq ≤ k) ∧ Drawn0 w w')
  case atStart => exact ⟨(a1), (0), (by first | rfl | (simp; done) | (simp [*]; done)), (by first | rfl | (simp; done) | (simp [*]; done)), H', ⟨Nat.le_refl _⟩, by repeat (first | exact Drawn0.refl _ | apply Drawn0.step)⟩
  case round =>
    clear H'
    try clear p2
    obtain ⟨x1_1, x5_1, rfl, rfl, HA, HK1, ⟨m1, rfl⟩⟩ := hrel
    cases gk with
    | zero => exact absurd HA.out (by simp [laws_heldIntS.l0])
    | succ k1 =>
      have H := HA.out
      clear HA
      simp only [laws_heldIntS.l0] at H
      by_cases c3 : x5_1 < (l0.length : Int)
      · rw [if_pos c3] at H
        have c3b0 : decide (x5_1 < (l0.length : Int)) = true := decide_eq_true c3
        clear c3
        by_cases c4 : 0 ≤ x5_1
        · rw [if_pos c4] at H
          have c4b0 : decide (0 ≤ x5_1) = true := decide_eq_true c4
          clear c4
          by_cases c5 : (rd l0 x5_1) = x1_1
          · rw [if_pos c5] at H
            have c5b0 : ((rd l0 x5_1) == x1_1) = true := beq_iff_eq.mpr c5
            have c5b1 : ((rd l0 x5_1) != x1_1) = false := bne_eq_false_iff_eq.mpr c5
            clear c5
            have H' := Aside0.mk H
            clear H
            have p145 : 0 ≤ (x5_1 : Int) := of_decide_eq_true (by first | (with_reducible assumption) | assumption)
            have q145 : x5_1 < (l0.length : Int) := of_decide_eq_true (by first | (with_reducible assumption) | assumption)
            obtain ⟨ad145, e145, hx145_0⟩ := Kd.at_int HR0.out x5_1 p145 q145
            cases e145
            replace p145 := eq_true p145
            replace q145 := eq_true q145
            go_wp2
            go_roundg k1
            case measure => have := HK1.out; omega
            case rel => exact ⟨(wrap64 (x1_1 + 1)), (wrap64 (x5_1 + 1)), (by first | rfl | (simp; done) | (simp [*]; done)), (by first | rfl | (simp; done) | (simp [*]; done)), H', ⟨by have := HK1.out; omega⟩, by repeat (first | exact Drawn0.refl _ | apply Drawn0.step)⟩
          · rw [if_neg c5] at H
            have c5b0 : ((rd l0 x5_1) == x1_1) = false := beq_eq_false_iff_ne.mpr c5
            have c5b1 : ((rd l0 x5_1) != x1_1) = true := bne_iff_ne.mpr c5
            obtain rfl := Option.some.inj H
            have p145 : 0 ≤ (x5_1 : Int) := of_decide_eq_true (by first | (with_reducible assumption) | assumption)
            have q145 : x5_1 < (l0.length : Int) := of_decide_eq_true (by first | (with_reducible assumption) | assumption)
            obtain ⟨ad145, e145, hx145_0⟩ := Kd.at_int HR0.out x5_1 p145 q145
            cases e145
            replace p145 := eq_true p145
            replace q145 := eq_true q145
            go_wp2
            go_ret
            exact ⟨by first | rfl | (simp; done) | (simp [*]; done), by repeat (first | exact Drawn0.refl _ | apply Drawn0.step)⟩
        · rw [if_neg c4] at H
          exact absurd H (by simp)
      · rw [if_neg c3] at H
        have c3b0 : decide (x5_1 < (l0.length : Int)) = false := decide_eq_false c3
        clear c3
        obtain rfl := Option.some.inj H
        go_wp2
        go_ret
        exact ⟨by first | rfl | (simp; done) | (simp [*]; done), by repeat (first | exact Drawn0.refl _ | apply Drawn0.step)⟩

end Go.Proofs.Ytoomacelbhojhaa.E
