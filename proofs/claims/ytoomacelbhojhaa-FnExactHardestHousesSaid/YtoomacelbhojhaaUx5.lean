/- Plain Lean functions with the answers of Go functions, and proofs of it: printed by a program of this session (pr.py) over the kit's print, with hand-written parts. -/
import Derived.Test.YtoomacelbhojhaaUx0
import Derived.Test.YtoomacelbhojhaaUx3
import Derived.Test.YtoomacelbhojhaaUx4
namespace Go.Proofs.Ytoomacelbhojhaa.U
open Go.RowKit Go.Proofs.YtoomacelbhojhaaW.PrintWords Go.Proofs.YtoomacelbhojhaaW.PrintLast Go.Proofs.YtoomacelbhojhaaW.PrintMore
attribute [local go_sem] max2_int min2_int max_two min_two max_three min_three max_four min_four   -- for this text's walks alone
set_option linter.unusedVariables false
set_option linter.unusedSimpArgs false

-- NOT PRINTED: function 124 (impl_houser_with)

-- FOR (impl.houser).good
-- CALLS (impl.village).parts ; impl.eggsNeeded
-- USES kd [][]int
-- USES info []int
-- USES info impl.HouseDrop
theorem hou_drew {w : World} {mb : Nat} (h : Hou w mb) : Hou w.drew mb := Hm.Mem.same h rfl
def VS.aft (v : VS) (br : Bool) (t : Nat × Int) : VS := if br then v.brk t.1 t.2 else v.whl t.1 t.2
def HLeastOk (mb : Nat) (v : VS) : Prop := ∀ w : World, Hou w mb → Calls Try.prog 125 #[.map (some mb), vCells v] w fun e w' => e = .returned (.int .i64 (hI v)) ∧ Hou w' mb ∧ w.grownBy w' (some mb)
def HWithOk (mb : Nat) (v : VS) (t : Nat × Int) : Prop := ∀ w : World, Hou w mb → Calls Try.prog 124 #[.map (some mb), vCells v, .int .i64 (t.1 : Int), .int .i64 t.2] w fun e w' => e = .returned (.int .i64 (hWt v t)) ∧ Hou w' mb ∧ w.grownBy w' (some mb)

set_option maxHeartbeats 8000000 in
set_option maxRecDepth 100000 in
theorem hwith0 (mb : Nat) (x0 x1 x2 e f r : Int) (hx : f ≤ x0 ∧ 1 ≤ f ∧ x0 ≤ 8 ∧ 0 ≤ e ∧ e ≤ 6) (p q : Int) (hr : IntKind.i64.wrap (1 + max p q) = r)
    (H0 : ∀ w : World, Hou w mb → Calls Try.prog 125 #[.map (some mb), .agg #[.int .i64 (f - 1), .int .i64 x1, .int .i64 x2, .int .i64 (e - 1)]] w fun e_ w' => e_ = .returned (.int .i64 p) ∧ Hou w' mb ∧ w.grownBy w' (some mb))
    (H1 : ∀ w : World, Hou w mb → Calls Try.prog 125 #[.map (some mb), .agg #[.int .i64 (x0 - f), .int .i64 x1, .int .i64 x2, .int .i64 e]] w fun e_ w' => e_ = .returned (.int .i64 q) ∧ Hou w' mb ∧ w.grownBy w' (some mb)) (w : World) (hS : Hou w mb) :
    Calls Try.prog 124 #[.map (some mb), .agg #[.int .i64 x0, .int .i64 x1, .int .i64 x2, .int .i64 e], .int .i64 0, .int .i64 f] w fun e_ w' => e_ = .returned (.int .i64 r) ∧ Hou w' mb ∧ w.grownBy w' (some mb) := by
  have HS := Aside0.mk hS
  have HG := Aside0.mk (Hx.g_refl w (some mb))
  have HX := Aside0.mk hx
  have HH := Aside0.mk (And.intro H0 H1)
  have hmx : (if p < q then q else p) = max p q := by split <;> omega
  clear hS hx H0 H1
  go_enter Try.func124, Try.ntmps124
  go_upto_region 2 with (first | ((with_reducible refine gate_dst (N := 5) rfl ?_); refine box_event ?hg (N := 5) ?hd (cs := #[.int .i64 x0, .int .i64 x1, .int .i64 x2, .int .i64 e]) (t := 101) ?hr ?_; (case hd => rfl); (case hg => rfl); (case hr => first | (go_simp; done) | (go_simp; rfl)); intro gB5 hg_ w_gB5 BK_ hb_; have ORD_ : Aside0 ((True) ∧ (mb < gB5 ∧ w.heap.size ≤ gB5)) := ⟨by refine ⟨trivial, ?_⟩; (have := HS.out.lt); (have := HG.out.size); omega⟩; have ORD := ORD_; clear ORD_; have n0_ : Aside0 (Hou w_gB5 mb) := ⟨Hm.Mem.below (w := _) (by exact HS.out) hb_⟩; have n1_ : Aside0 (w.grownBy w_gB5 (some mb)) := ⟨Hx.g_below (by first | exact HG.out | exact Hx.g_drew HG.out | exact Hx.g_drewN HG.out _) hb_⟩; have m0_ : Aside0 (w_gB5.heap[gB5]? = some (.cells #[.int .i64 x0, .int .i64 x1, .int .i64 x2, .int .i64 e] 101 (0, 0))) := ⟨BK_⟩; (try clear HS); (try clear HG); have HS := n0_; have HG := n1_; have B5 := m0_; clear n0_ n1_ m0_; have cB5_0 : w_gB5.cell? ⟨gB5, 0, none⟩ = some (.int .i64 x0) := (blk_cell B5.out 0).trans rfl; have dB5_0 := blk_frozen B5.out 0; have cB5_1 : w_gB5.cell? ⟨gB5, 1, none⟩ = some (.int .i64 x1) := (blk_cell B5.out 1).trans rfl; have dB5_1 := blk_frozen B5.out 1; have cB5_2 : w_gB5.cell? ⟨gB5, 2, none⟩ = some (.int .i64 x2) := (blk_cell B5.out 2).trans rfl; have dB5_2 := blk_frozen B5.out 2; have cB5_3 : w_gB5.cell? ⟨gB5, 3, none⟩ = some (.int .i64 e) := (blk_cell B5.out 3).trans rfl; have dB5_3 := blk_frozen B5.out 3; clear hg_ BK_ hb_) | ((with_reducible refine gate_callee (f := 127) rfl ?_); refine goesL_ (some 15) rfl rfl Try.func127 (by kernel_rfl) rfl #[.agg #[.int .i64 x0, .int .i64 x1, .int .i64 x2, .int .i64 e], .int .i64 0, .int .i64 f] rfl (by (try simp only [List.map_toArray, List.map_cons, List.map_nil]); first | done | rfl) ?_; refine (parts0.calls x0 x1 x2 e f _ HX.out).mono ?_; rintro e_ w_1 ⟨rfl, hb_⟩; refine ⟨_, rfl, ?_⟩; have n0_ : Aside0 (Hou w_1 mb) := ⟨Hm.Mem.below (w := _) (by exact HS.out) hb_⟩; have n1_ : Aside0 (w.grownBy w_1 (some mb)) := ⟨Hx.g_below (by first | exact HG.out | exact Hx.g_drew HG.out | exact Hx.g_drewN HG.out _) hb_⟩; have n2_ : Aside0 (w_1.heap[gB5]? = some (.cells #[.int .i64 x0, .int .i64 x1, .int .i64 x2, .int .i64 e] 101 (0, 0))) := ⟨Hx.b_below hb_ B5.out⟩; (try clear cB5_0 dB5_0 cB5_1 dB5_1 cB5_2 dB5_2 cB5_3 dB5_3); (try clear HS); (try clear HG); (try clear B5); have HS := n0_; have HG := n1_; have B5 := n2_; clear n0_ n1_ n2_; have cB5_0 : w_1.cell? ⟨gB5, 0, none⟩ = some (.int .i64 x0) := (blk_cell B5.out 0).trans rfl; have dB5_0 := blk_frozen B5.out 0; have cB5_1 : w_1.cell? ⟨gB5, 1, none⟩ = some (.int .i64 x1) := (blk_cell B5.out 1).trans rfl; have dB5_1 := blk_frozen B5.out 1; have cB5_2 : w_1.cell? ⟨gB5, 2, none⟩ = some (.int .i64 x2) := (blk_cell B5.out 2).trans rfl; have dB5_2 := blk_frozen B5.out 2; have cB5_3 : w_1.cell? ⟨gB5, 3, none⟩ = some (.int .i64 e) := (blk_cell B5.out 3).trans rfl; have dB5_3 := blk_frozen B5.out 3; clear hb_) | ((with_reducible refine gate_dst (N := 9) rfl ?_); refine box_event ?hg (N := 9) ?hd (cs := #[.int .i64 0, .int .i64 0, .int .i64 0, .int .i64 0]) (t := 101) ?hr ?_; (case hd => rfl); (case hg => rfl); (case hr => first | (go_simp; done) | (go_simp; rfl)); intro gB9 hg_ w_gB9 BK_ hb_; have ORD_ : Aside0 (((True) ∧ (mb < gB5 ∧ w.heap.size ≤ gB5)) ∧ (gB5 < gB9 ∧ mb < gB9 ∧ w.heap.size ≤ gB9)) := ⟨by refine ⟨ORD.out, ?_⟩; (have := HS.out.lt); (have := HG.out.size); (have := blk_lt B5.out); omega⟩; clear ORD; have ORD := ORD_; clear ORD_; have n0_ : Aside0 (Hou w_gB9 mb) := ⟨Hm.Mem.below (w := _) (by exact HS.out) hb_⟩; have n1_ : Aside0 (w.grownBy w_gB9 (some mb)) := ⟨Hx.g_below (by first | exact HG.out | exact Hx.g_drew HG.out | exact Hx.g_drewN HG.out _) hb_⟩; have n2_ : Aside0 (w_gB9.heap[gB5]? = some (.cells #[.int .i64 x0, .int .i64 x1, .int .i64 x2, .int .i64 e] 101 (0, 0))) := ⟨Hx.b_below hb_ B5.out⟩; have m0_ : Aside0 (w_gB9.heap[gB9]? = some (.cells #[.int .i64 0, .int .i64 0, .int .i64 0, .int .i64 0] 101 (0, 0))) := ⟨BK_⟩; (try clear cB5_0 dB5_0 cB5_1 dB5_1 cB5_2 dB5_2 cB5_3 dB5_3); (try clear HS); (try clear HG); (try clear B5); have HS := n0_; have HG := n1_; have B5 := n2_; have B9 := m0_; clear n0_ n1_ n2_ m0_; have cB5_0 : w_gB9.cell? ⟨gB5, 0, none⟩ = some (.int .i64 x0) := (blk_cell B5.out 0).trans rfl; have dB5_0 := blk_frozen B5.out 0; have cB5_1 : w_gB9.cell? ⟨gB5, 1, none⟩ = some (.int .i64 x1) := (blk_cell B5.out 1).trans rfl; have dB5_1 := blk_frozen B5.out 1; have cB5_2 : w_gB9.cell? ⟨gB5, 2, none⟩ = some (.int .i64 x2) := (blk_cell B5.out 2).trans rfl; have dB5_2 := blk_frozen B5.out 2; have cB5_3 : w_gB9.cell? ⟨gB5, 3, none⟩ = some (.int .i64 e) := (blk_cell B5.out 3).trans rfl; have dB5_3 := blk_frozen B5.out 3; have cB9_0 : w_gB9.cell? ⟨gB9, 0, none⟩ = some (.int .i64 0) := (blk_cell B9.out 0).trans rfl; have dB9_0 := blk_frozen B9.out 0; have cB9_1 : w_gB9.cell? ⟨gB9, 1, none⟩ = some (.int .i64 0) := (blk_cell B9.out 1).trans rfl; have dB9_1 := blk_frozen B9.out 1; have cB9_2 : w_gB9.cell? ⟨gB9, 2, none⟩ = some (.int .i64 0) := (blk_cell B9.out 2).trans rfl; have dB9_2 := blk_frozen B9.out 2; have cB9_3 : w_gB9.cell? ⟨gB9, 3, none⟩ = some (.int .i64 0) := (blk_cell B9.out 3).trans rfl; have dB9_3 := blk_frozen B9.out 3; clear hg_ BK_ hb_) | ((with_reducible refine gate_dst (N := 10) rfl ?_); refine box_event ?hg (N := 10) ?hd (cs := #[.int .i64 0, .int .i64 0, .int .i64 0, .int .i64 0]) (t := 101) ?hr ?_; (case hd => rfl); (case hg => rfl); (case hr => first | (go_simp; done) | (go_simp; rfl)); intro gB10 hg_ w_gB10 BK_ hb_; have ORD_ : Aside0 ((((True) ∧ (mb < gB5 ∧ w.heap.size ≤ gB5)) ∧ (gB5 < gB9 ∧ mb < gB9 ∧ w.heap.size ≤ gB9)) ∧ (gB5 < gB10 ∧ gB9 < gB10 ∧ mb < gB10 ∧ w.heap.size ≤ gB10)) := ⟨by refine ⟨ORD.out, ?_⟩; (have := HS.out.lt); (have := HG.out.size); (have := blk_lt B5.out); (have := blk_lt B9.out); omega⟩; clear ORD; have ORD := ORD_; clear ORD_; have n0_ : Aside0 (Hou w_gB10 mb) := ⟨Hm.Mem.below (w := _) (by exact HS.out) hb_⟩; have n1_ : Aside0 (w.grownBy w_gB10 (some mb)) := ⟨Hx.g_below (by first | exact HG.out | exact Hx.g_drew HG.out | exact Hx.g_drewN HG.out _) hb_⟩; have n2_ : Aside0 (w_gB10.heap[gB5]? = some (.cells #[.int .i64 x0, .int .i64 x1, .int .i64 x2, .int .i64 e] 101 (0, 0))) := ⟨Hx.b_below hb_ B5.out⟩; have n3_ : Aside0 (w_gB10.heap[gB9]? = some (.cells #[.int .i64 0, .int .i64 0, .int .i64 0, .int .i64 0] 101 (0, 0))) := ⟨Hx.b_below hb_ B9.out⟩; have m0_ : Aside0 (w_gB10.heap[gB10]? = some (.cells #[.int .i64 0, .int .i64 0, .int .i64 0, .int .i64 0] 101 (0, 0))) := ⟨BK_⟩; (try clear cB5_0 dB5_0 cB5_1 dB5_1 cB5_2 dB5_2 cB5_3 dB5_3 cB9_0 dB9_0 cB9_1 dB9_1 cB9_2 dB9_2 cB9_3 dB9_3); (try clear HS); (try clear HG); (try clear B5); (try clear B9); have HS := n0_; have HG := n1_; have B5 := n2_; have B9 := n3_; have B10 := m0_; clear n0_ n1_ n2_ n3_ m0_; have cB5_0 : w_gB10.cell? ⟨gB5, 0, none⟩ = some (.int .i64 x0) := (blk_cell B5.out 0).trans rfl; have dB5_0 := blk_frozen B5.out 0; have cB5_1 : w_gB10.cell? ⟨gB5, 1, none⟩ = some (.int .i64 x1) := (blk_cell B5.out 1).trans rfl; have dB5_1 := blk_frozen B5.out 1; have cB5_2 : w_gB10.cell? ⟨gB5, 2, none⟩ = some (.int .i64 x2) := (blk_cell B5.out 2).trans rfl; have dB5_2 := blk_frozen B5.out 2; have cB5_3 : w_gB10.cell? ⟨gB5, 3, none⟩ = some (.int .i64 e) := (blk_cell B5.out 3).trans rfl; have dB5_3 := blk_frozen B5.out 3; have cB9_0 : w_gB10.cell? ⟨gB9, 0, none⟩ = some (.int .i64 0) := (blk_cell B9.out 0).trans rfl; have dB9_0 := blk_frozen B9.out 0; have cB9_1 : w_gB10.cell? ⟨gB9, 1, none⟩ = some (.int .i64 0) := (blk_cell B9.out 1).trans rfl; have dB9_1 := blk_frozen B9.out 1; have cB9_2 : w_gB10.cell? ⟨gB9, 2, none⟩ = some (.int .i64 0) := (blk_cell B9.out 2).trans rfl; have dB9_2 := blk_frozen B9.out 2; have cB9_3 : w_gB10.cell? ⟨gB9, 3, none⟩ = some (.int .i64 0) := (blk_cell B9.out 3).trans rfl; have dB9_3 := blk_frozen B9.out 3; have cB10_0 : w_gB10.cell? ⟨gB10, 0, none⟩ = some (.int .i64 0) := (blk_cell B10.out 0).trans rfl; have dB10_0 := blk_frozen B10.out 0; have cB10_1 : w_gB10.cell? ⟨gB10, 1, none⟩ = some (.int .i64 0) := (blk_cell B10.out 1).trans rfl; have dB10_1 := blk_frozen B10.out 1; have cB10_2 : w_gB10.cell? ⟨gB10, 2, none⟩ = some (.int .i64 0) := (blk_cell B10.out 2).trans rfl; have dB10_2 := blk_frozen B10.out 2; have cB10_3 : w_gB10.cell? ⟨gB10, 3, none⟩ = some (.int .i64 0) := (blk_cell B10.out 3).trans rfl; have dB10_3 := blk_frozen B10.out 3; clear hg_ BK_ hb_) | ((with_reducible refine gate_store (t := 101) (p := 9) rfl ?_); refine store_event (t := 101) (p := 9) (v := ?vo_w2) (w1 := (((((w_gB10).setCell ⟨gB9, 0, none⟩ (.int .i64 (f - 1))).setCell ⟨gB9, 1, none⟩ (.int .i64 x1)).setCell ⟨gB9, 2, none⟩ (.int .i64 x2)).setCell ⟨gB9, 3, none⟩ (.int .i64 (e - 1)))) ?hg ?ho ?hn ?hr ?_; (case ho => rfl); (case hg => rfl); (case hn => rfl); (case hr => first | (go_simp; done) | (go_simp; rfl)); intro w_2 hw_; have n0_ : Aside0 (Hou w_2 mb) := ⟨by rw [hw_]; exact Hm.Mem.same (Hm.Mem.same (Hm.Mem.same (Hm.Mem.same HS.out (Below.heap_setCell _ _ _ _ (show mb ≠ gB9 by have := ORD.out; omega))) (Below.heap_setCell _ _ _ _ (show mb ≠ gB9 by have := ORD.out; omega))) (Below.heap_setCell _ _ _ _ (show mb ≠ gB9 by have := ORD.out; omega))) (Below.heap_setCell _ _ _ _ (show mb ≠ gB9 by have := ORD.out; omega))⟩; have n1_ : Aside0 (w.grownBy w_2 (some mb)) := ⟨by rw [hw_]; exact Hx.g_set (Hx.g_set (Hx.g_set (Hx.g_set HG.out (by have := ORD.out; omega)) (by have := ORD.out; omega)) (by have := ORD.out; omega)) (by have := ORD.out; omega)⟩; have n2_ : Aside0 (w_2.heap[gB5]? = some (.cells #[.int .i64 x0, .int .i64 x1, .int .i64 x2, .int .i64 e] 101 (0, 0))) := ⟨by rw [hw_]; exact blk_far (blk_far (blk_far (blk_far B5.out (show gB5 ≠ gB9 by have := ORD.out; omega) _) (show gB5 ≠ gB9 by have := ORD.out; omega) _) (show gB5 ≠ gB9 by have := ORD.out; omega) _) (show gB5 ≠ gB9 by have := ORD.out; omega) _⟩; have n3_ : Aside0 (w_2.heap[gB9]? = some (.cells #[.int .i64 (f - 1), .int .i64 x1, .int .i64 x2, .int .i64 (e - 1)] 101 (0, 0))) := ⟨by rw [hw_]; exact blk_put (blk_put (blk_put (blk_put B9.out 0 _ rfl) 1 _ rfl) 2 _ rfl) 3 _ rfl⟩; have n4_ : Aside0 (w_2.heap[gB10]? = some (.cells #[.int .i64 0, .int .i64 0, .int .i64 0, .int .i64 0] 101 (0, 0))) := ⟨by rw [hw_]; exact blk_far (blk_far (blk_far (blk_far B10.out (show gB10 ≠ gB9 by have := ORD.out; omega) _) (show gB10 ≠ gB9 by have := ORD.out; omega) _) (show gB10 ≠ gB9 by have := ORD.out; omega) _) (show gB10 ≠ gB9 by have := ORD.out; omega) _⟩; (try clear cB5_0 dB5_0 cB5_1 dB5_1 cB5_2 dB5_2 cB5_3 dB5_3 cB9_0 dB9_0 cB9_1 dB9_1 cB9_2 dB9_2 cB9_3 dB9_3 cB10_0 dB10_0 cB10_1 dB10_1 cB10_2 dB10_2 cB10_3 dB10_3); (try clear HS); (try clear HG); (try clear B5); (try clear B9); (try clear B10); have HS := n0_; have HG := n1_; have B5 := n2_; have B9 := n3_; have B10 := n4_; clear n0_ n1_ n2_ n3_ n4_; have cB5_0 : w_2.cell? ⟨gB5, 0, none⟩ = some (.int .i64 x0) := (blk_cell B5.out 0).trans rfl; have dB5_0 := blk_frozen B5.out 0; have cB5_1 : w_2.cell? ⟨gB5, 1, none⟩ = some (.int .i64 x1) := (blk_cell B5.out 1).trans rfl; have dB5_1 := blk_frozen B5.out 1; have cB5_2 : w_2.cell? ⟨gB5, 2, none⟩ = some (.int .i64 x2) := (blk_cell B5.out 2).trans rfl; have dB5_2 := blk_frozen B5.out 2; have cB5_3 : w_2.cell? ⟨gB5, 3, none⟩ = some (.int .i64 e) := (blk_cell B5.out 3).trans rfl; have dB5_3 := blk_frozen B5.out 3; have cB9_0 : w_2.cell? ⟨gB9, 0, none⟩ = some (.int .i64 (f - 1)) := (blk_cell B9.out 0).trans rfl; have dB9_0 := blk_frozen B9.out 0; have cB9_1 : w_2.cell? ⟨gB9, 1, none⟩ = some (.int .i64 x1) := (blk_cell B9.out 1).trans rfl; have dB9_1 := blk_frozen B9.out 1; have cB9_2 : w_2.cell? ⟨gB9, 2, none⟩ = some (.int .i64 x2) := (blk_cell B9.out 2).trans rfl; have dB9_2 := blk_frozen B9.out 2; have cB9_3 : w_2.cell? ⟨gB9, 3, none⟩ = some (.int .i64 (e - 1)) := (blk_cell B9.out 3).trans rfl; have dB9_3 := blk_frozen B9.out 3; have cB10_0 : w_2.cell? ⟨gB10, 0, none⟩ = some (.int .i64 0) := (blk_cell B10.out 0).trans rfl; have dB10_0 := blk_frozen B10.out 0; have cB10_1 : w_2.cell? ⟨gB10, 1, none⟩ = some (.int .i64 0) := (blk_cell B10.out 1).trans rfl; have dB10_1 := blk_frozen B10.out 1; have cB10_2 : w_2.cell? ⟨gB10, 2, none⟩ = some (.int .i64 0) := (blk_cell B10.out 2).trans rfl; have dB10_2 := blk_frozen B10.out 2; have cB10_3 : w_2.cell? ⟨gB10, 3, none⟩ = some (.int .i64 0) := (blk_cell B10.out 3).trans rfl; have dB10_3 := blk_frozen B10.out 3; clear hw_) | ((with_reducible refine gate_store (t := 101) (p := 10) rfl ?_); refine store_event (t := 101) (p := 10) (v := ?vo_w3) (w1 := (((((w_2).setCell ⟨gB10, 0, none⟩ (.int .i64 (x0 - f))).setCell ⟨gB10, 1, none⟩ (.int .i64 x1)).setCell ⟨gB10, 2, none⟩ (.int .i64 x2)).setCell ⟨gB10, 3, none⟩ (.int .i64 e))) ?hg ?ho ?hn ?hr ?_; (case ho => rfl); (case hg => rfl); (case hn => rfl); (case hr => first | (go_simp; done) | (go_simp; rfl)); intro w_3 hw_; have n0_ : Aside0 (Hou w_3 mb) := ⟨by rw [hw_]; exact Hm.Mem.same (Hm.Mem.same (Hm.Mem.same (Hm.Mem.same HS.out (Below.heap_setCell _ _ _ _ (show mb ≠ gB10 by have := ORD.out; omega))) (Below.heap_setCell _ _ _ _ (show mb ≠ gB10 by have := ORD.out; omega))) (Below.heap_setCell _ _ _ _ (show mb ≠ gB10 by have := ORD.out; omega))) (Below.heap_setCell _ _ _ _ (show mb ≠ gB10 by have := ORD.out; omega))⟩; have n1_ : Aside0 (w.grownBy w_3 (some mb)) := ⟨by rw [hw_]; exact Hx.g_set (Hx.g_set (Hx.g_set (Hx.g_set HG.out (by have := ORD.out; omega)) (by have := ORD.out; omega)) (by have := ORD.out; omega)) (by have := ORD.out; omega)⟩; have n2_ : Aside0 (w_3.heap[gB5]? = some (.cells #[.int .i64 x0, .int .i64 x1, .int .i64 x2, .int .i64 e] 101 (0, 0))) := ⟨by rw [hw_]; exact blk_far (blk_far (blk_far (blk_far B5.out (show gB5 ≠ gB10 by have := ORD.out; omega) _) (show gB5 ≠ gB10 by have := ORD.out; omega) _) (show gB5 ≠ gB10 by have := ORD.out; omega) _) (show gB5 ≠ gB10 by have := ORD.out; omega) _⟩; have n3_ : Aside0 (w_3.heap[gB9]? = some (.cells #[.int .i64 (f - 1), .int .i64 x1, .int .i64 x2, .int .i64 (e - 1)] 101 (0, 0))) := ⟨by rw [hw_]; exact blk_far (blk_far (blk_far (blk_far B9.out (show gB9 ≠ gB10 by have := ORD.out; omega) _) (show gB9 ≠ gB10 by have := ORD.out; omega) _) (show gB9 ≠ gB10 by have := ORD.out; omega) _) (show gB9 ≠ gB10 by have := ORD.out; omega) _⟩; have n4_ : Aside0 (w_3.heap[gB10]? = some (.cells #[.int .i64 (x0 - f), .int .i64 x1, .int .i64 x2, .int .i64 e] 101 (0, 0))) := ⟨by rw [hw_]; exact blk_put (blk_put (blk_put (blk_put B10.out 0 _ rfl) 1 _ rfl) 2 _ rfl) 3 _ rfl⟩; (try clear cB5_0 dB5_0 cB5_1 dB5_1 cB5_2 dB5_2 cB5_3 dB5_3 cB9_0 dB9_0 cB9_1 dB9_1 cB9_2 dB9_2 cB9_3 dB9_3 cB10_0 dB10_0 cB10_1 dB10_1 cB10_2 dB10_2 cB10_3 dB10_3); (try clear HS); (try clear HG); (try clear B5); (try clear B9); (try clear B10); have HS := n0_; have HG := n1_; have B5 := n2_; have B9 := n3_; have B10 := n4_; clear n0_ n1_ n2_ n3_ n4_; have cB5_0 : w_3.cell? ⟨gB5, 0, none⟩ = some (.int .i64 x0) := (blk_cell B5.out 0).trans rfl; have dB5_0 := blk_frozen B5.out 0; have cB5_1 : w_3.cell? ⟨gB5, 1, none⟩ = some (.int .i64 x1) := (blk_cell B5.out 1).trans rfl; have dB5_1 := blk_frozen B5.out 1; have cB5_2 : w_3.cell? ⟨gB5, 2, none⟩ = some (.int .i64 x2) := (blk_cell B5.out 2).trans rfl; have dB5_2 := blk_frozen B5.out 2; have cB5_3 : w_3.cell? ⟨gB5, 3, none⟩ = some (.int .i64 e) := (blk_cell B5.out 3).trans rfl; have dB5_3 := blk_frozen B5.out 3; have cB9_0 : w_3.cell? ⟨gB9, 0, none⟩ = some (.int .i64 (f - 1)) := (blk_cell B9.out 0).trans rfl; have dB9_0 := blk_frozen B9.out 0; have cB9_1 : w_3.cell? ⟨gB9, 1, none⟩ = some (.int .i64 x1) := (blk_cell B9.out 1).trans rfl; have dB9_1 := blk_frozen B9.out 1; have cB9_2 : w_3.cell? ⟨gB9, 2, none⟩ = some (.int .i64 x2) := (blk_cell B9.out 2).trans rfl; have dB9_2 := blk_frozen B9.out 2; have cB9_3 : w_3.cell? ⟨gB9, 3, none⟩ = some (.int .i64 (e - 1)) := (blk_cell B9.out 3).trans rfl; have dB9_3 := blk_frozen B9.out 3; have cB10_0 : w_3.cell? ⟨gB10, 0, none⟩ = some (.int .i64 (x0 - f)) := (blk_cell B10.out 0).trans rfl; have dB10_0 := blk_frozen B10.out 0; have cB10_1 : w_3.cell? ⟨gB10, 1, none⟩ = some (.int .i64 x1) := (blk_cell B10.out 1).trans rfl; have dB10_1 := blk_frozen B10.out 1; have cB10_2 : w_3.cell? ⟨gB10, 2, none⟩ = some (.int .i64 x2) := (blk_cell B10.out 2).trans rfl; have dB10_2 := blk_frozen B10.out 2; have cB10_3 : w_3.cell? ⟨gB10, 3, none⟩ = some (.int .i64 e) := (blk_cell B10.out 3).trans rfl; have dB10_3 := blk_frozen B10.out 3; clear hw_))
  go_region_held3 (fun w' => w'.cell? ⟨gB9, 0, none⟩ = some (.int .i64 (f - 1)) ∧ w'.cell? ⟨gB9, 1, none⟩ = some (.int .i64 x1) ∧ w'.cell? ⟨gB9, 2, none⟩ = some (.int .i64 x2) ∧ w'.cell? ⟨gB9, 3, none⟩ = some (.int .i64 (e - 1)) ∧ w'.cell? ⟨gB10, 0, none⟩ = some (.int .i64 (x0 - f)) ∧ w'.cell? ⟨gB10, 1, none⟩ = some (.int .i64 x1) ∧ w'.cell? ⟨gB10, 2, none⟩ = some (.int .i64 x2) ∧ w'.cell? ⟨gB10, 3, none⟩ = some (.int .i64 e)) (exact ⟨cB9_0, cB9_1, cB9_2, cB9_3, cB10_0, cB10_1, cB10_2, cB10_3⟩) (first | (have st_ := ST2; clear st_; go_at_call 125; refine (HH.out.2 _ HS.out).mono ?_; rintro e_ w_6 ⟨rfl, hs_, hg_⟩; have n0_ : Aside0 (Hou w_6 mb) := ⟨hs_⟩; have n1_ : Aside0 (w.grownBy w_6 (some mb)) := ⟨World.grownBy.trans (by first | exact HG.out | exact Hx.g_drew HG.out | exact Hx.g_drewN HG.out _) hg_⟩; have n2_ : Aside0 (w_6.heap[gB9]? = some (.cells #[.int .i64 (f - 1), .int .i64 x1, .int .i64 x2, .int .i64 (e - 1)] 101 (0, 0))) := ⟨Hx.b_grown hg_ B9.out (by simp only [ne_eq, Option.some.injEq]; have := ORD.out; omega)⟩; have n3_ : Aside0 (w_6.heap[gB10]? = some (.cells #[.int .i64 (x0 - f), .int .i64 x1, .int .i64 x2, .int .i64 e] 101 (0, 0))) := ⟨Hx.b_grown hg_ B10.out (by simp only [ne_eq, Option.some.injEq]; have := ORD.out; omega)⟩; (try clear cB9_0 dB9_0 cB9_1 dB9_1 cB9_2 dB9_2 cB9_3 dB9_3 cB10_0 dB10_0 cB10_1 dB10_1 cB10_2 dB10_2 cB10_3 dB10_3); (try clear HS); (try clear HG); (try clear B9); (try clear B10); have HS := n0_; have HG := n1_; have B9 := n2_; have B10 := n3_; clear n0_ n1_ n2_ n3_; have cB9_0 : w_6.cell? ⟨gB9, 0, none⟩ = some (.int .i64 (f - 1)) := (blk_cell B9.out 0).trans rfl; have dB9_0 := blk_frozen B9.out 0; have cB9_1 : w_6.cell? ⟨gB9, 1, none⟩ = some (.int .i64 x1) := (blk_cell B9.out 1).trans rfl; have dB9_1 := blk_frozen B9.out 1; have cB9_2 : w_6.cell? ⟨gB9, 2, none⟩ = some (.int .i64 x2) := (blk_cell B9.out 2).trans rfl; have dB9_2 := blk_frozen B9.out 2; have cB9_3 : w_6.cell? ⟨gB9, 3, none⟩ = some (.int .i64 (e - 1)) := (blk_cell B9.out 3).trans rfl; have dB9_3 := blk_frozen B9.out 3; have cB10_0 : w_6.cell? ⟨gB10, 0, none⟩ = some (.int .i64 (x0 - f)) := (blk_cell B10.out 0).trans rfl; have dB10_0 := blk_frozen B10.out 0; have cB10_1 : w_6.cell? ⟨gB10, 1, none⟩ = some (.int .i64 x1) := (blk_cell B10.out 1).trans rfl; have dB10_1 := blk_frozen B10.out 1; have cB10_2 : w_6.cell? ⟨gB10, 2, none⟩ = some (.int .i64 x2) := (blk_cell B10.out 2).trans rfl; have dB10_2 := blk_frozen B10.out 2; have cB10_3 : w_6.cell? ⟨gB10, 3, none⟩ = some (.int .i64 e) := (blk_cell B10.out 3).trans rfl; have dB10_3 := blk_frozen B10.out 3; clear hs_ hg_) | (skip; go_at_call 125; refine (HH.out.1 w_3.drew (hou_drew HS.out)).mono ?_; rintro e_ w_5 ⟨rfl, hs_, hg_⟩; replace hg_ := Hx.g_undrew hg_; have ST2 : Aside0 True := ⟨trivial⟩; have n0_ : Aside0 (Hou w_5 mb) := ⟨hs_⟩; have n1_ : Aside0 (w.grownBy w_5 (some mb)) := ⟨World.grownBy.trans (by first | exact HG.out | exact Hx.g_drew HG.out | exact Hx.g_drewN HG.out _) hg_⟩; have n2_ : Aside0 (w_5.heap[gB9]? = some (.cells #[.int .i64 (f - 1), .int .i64 x1, .int .i64 x2, .int .i64 (e - 1)] 101 (0, 0))) := ⟨Hx.b_grown hg_ B9.out (by simp only [ne_eq, Option.some.injEq]; have := ORD.out; omega)⟩; have n3_ : Aside0 (w_5.heap[gB10]? = some (.cells #[.int .i64 (x0 - f), .int .i64 x1, .int .i64 x2, .int .i64 e] 101 (0, 0))) := ⟨Hx.b_grown hg_ B10.out (by simp only [ne_eq, Option.some.injEq]; have := ORD.out; omega)⟩; (try clear cB5_0 dB5_0 cB5_1 dB5_1 cB5_2 dB5_2 cB5_3 dB5_3 cB9_0 dB9_0 cB9_1 dB9_1 cB9_2 dB9_2 cB9_3 dB9_3 cB10_0 dB10_0 cB10_1 dB10_1 cB10_2 dB10_2 cB10_3 dB10_3); (try clear HS); (try clear HG); (try clear B9); (try clear B10); have HS := n0_; have HG := n1_; have B9 := n2_; have B10 := n3_; clear n0_ n1_ n2_ n3_; have cB9_0 : w_5.cell? ⟨gB9, 0, none⟩ = some (.int .i64 (f - 1)) := (blk_cell B9.out 0).trans rfl; have dB9_0 := blk_frozen B9.out 0; have cB9_1 : w_5.cell? ⟨gB9, 1, none⟩ = some (.int .i64 x1) := (blk_cell B9.out 1).trans rfl; have dB9_1 := blk_frozen B9.out 1; have cB9_2 : w_5.cell? ⟨gB9, 2, none⟩ = some (.int .i64 x2) := (blk_cell B9.out 2).trans rfl; have dB9_2 := blk_frozen B9.out 2; have cB9_3 : w_5.cell? ⟨gB9, 3, none⟩ = some (.int .i64 (e - 1)) := (blk_cell B9.out 3).trans rfl; have dB9_3 := blk_frozen B9.out 3; have cB10_0 : w_5.cell? ⟨gB10, 0, none⟩ = some (.int .i64 (x0 - f)) := (blk_cell B10.out 0).trans rfl; have dB10_0 := blk_frozen B10.out 0; have cB10_1 : w_5.cell? ⟨gB10, 1, none⟩ = some (.int .i64 x1) := (blk_cell B10.out 1).trans rfl; have dB10_1 := blk_frozen B10.out 1; have cB10_2 : w_5.cell? ⟨gB10, 2, none⟩ = some (.int .i64 x2) := (blk_cell B10.out 2).trans rfl; have dB10_2 := blk_frozen B10.out 2; have cB10_3 : w_5.cell? ⟨gB10, 3, none⟩ = some (.int .i64 e) := (blk_cell B10.out 3).trans rfl; have dB10_3 := blk_frozen B10.out 3; clear hs_ hg_))
  go_wp2
  go_ret
  exact ⟨rfl, HS.out, HG.out⟩

set_option maxHeartbeats 8000000 in
set_option maxRecDepth 100000 in
theorem hwith1 (mb : Nat) (x0 x1 x2 e f r : Int) (hx : f ≤ x1 ∧ 1 ≤ f ∧ x1 ≤ 8 ∧ 0 ≤ e ∧ e ≤ 6) (p q : Int) (hr : IntKind.i64.wrap (1 + max p q) = r)
    (H0 : ∀ w : World, Hou w mb → Calls Try.prog 125 #[.map (some mb), .agg #[.int .i64 x0, .int .i64 (f - 1), .int .i64 x2, .int .i64 (e - 1)]] w fun e_ w' => e_ = .returned (.int .i64 p) ∧ Hou w' mb ∧ w.grownBy w' (some mb))
    (H1 : ∀ w : World, Hou w mb → Calls Try.prog 125 #[.map (some mb), .agg #[.int .i64 x0, .int .i64 (x1 - f), .int .i64 x2, .int .i64 e]] w fun e_ w' => e_ = .returned (.int .i64 q) ∧ Hou w' mb ∧ w.grownBy w' (some mb)) (w : World) (hS : Hou w mb) :
    Calls Try.prog 124 #[.map (some mb), .agg #[.int .i64 x0, .int .i64 x1, .int .i64 x2, .int .i64 e], .int .i64 1, .int .i64 f] w fun e_ w' => e_ = .returned (.int .i64 r) ∧ Hou w' mb ∧ w.grownBy w' (some mb) := by
  have HS := Aside0.mk hS
  have HG := Aside0.mk (Hx.g_refl w (some mb))
  have HX := Aside0.mk hx
  have HH := Aside0.mk (And.intro H0 H1)
  have hmx : (if p < q then q else p) = max p q := by split <;> omega
  clear hS hx H0 H1
  go_enter Try.func124, Try.ntmps124
  go_upto_region 2 with (first | ((with_reducible refine gate_dst (N := 5) rfl ?_); refine box_event ?hg (N := 5) ?hd (cs := #[.int .i64 x0, .int .i64 x1, .int .i64 x2, .int .i64 e]) (t := 101) ?hr ?_; (case hd => rfl); (case hg => rfl); (case hr => first | (go_simp; done) | (go_simp; rfl)); intro gB5 hg_ w_gB5 BK_ hb_; have ORD_ : Aside0 ((True) ∧ (mb < gB5 ∧ w.heap.size ≤ gB5)) := ⟨by refine ⟨trivial, ?_⟩; (have := HS.out.lt); (have := HG.out.size); omega⟩; have ORD := ORD_; clear ORD_; have n0_ : Aside0 (Hou w_gB5 mb) := ⟨Hm.Mem.below (w := _) (by exact HS.out) hb_⟩; have n1_ : Aside0 (w.grownBy w_gB5 (some mb)) := ⟨Hx.g_below (by first | exact HG.out | exact Hx.g_drew HG.out | exact Hx.g_drewN HG.out _) hb_⟩; have m0_ : Aside0 (w_gB5.heap[gB5]? = some (.cells #[.int .i64 x0, .int .i64 x1, .int .i64 x2, .int .i64 e] 101 (0, 0))) := ⟨BK_⟩; (try clear HS); (try clear HG); have HS := n0_; have HG := n1_; have B5 := m0_; clear n0_ n1_ m0_; have cB5_0 : w_gB5.cell? ⟨gB5, 0, none⟩ = some (.int .i64 x0) := (blk_cell B5.out 0).trans rfl; have dB5_0 := blk_frozen B5.out 0; have cB5_1 : w_gB5.cell? ⟨gB5, 1, none⟩ = some (.int .i64 x1) := (blk_cell B5.out 1).trans rfl; have dB5_1 := blk_frozen B5.out 1; have cB5_2 : w_gB5.cell? ⟨gB5, 2, none⟩ = some (.int .i64 x2) := (blk_cell B5.out 2).trans rfl; have dB5_2 := blk_frozen B5.out 2; have cB5_3 : w_gB5.cell? ⟨gB5, 3, none⟩ = some (.int .i64 e) := (blk_cell B5.out 3).trans rfl; have dB5_3 := blk_frozen B5.out 3; clear hg_ BK_ hb_) | ((with_reducible refine gate_callee (f := 127) rfl ?_); refine goesL_ (some 15) rfl rfl Try.func127 (by kernel_rfl) rfl #[.agg #[.int .i64 x0, .int .i64 x1, .int .i64 x2, .int .i64 e], .int .i64 1, .int .i64 f] rfl (by (try simp only [List.map_toArray, List.map_cons, List.map_nil]); first | done | rfl) ?_; refine (parts1.calls x0 x1 x2 e f _ HX.out).mono ?_; rintro e_ w_1 ⟨rfl, hb_⟩; refine ⟨_, rfl, ?_⟩; have n0_ : Aside0 (Hou w_1 mb) := ⟨Hm.Mem.below (w := _) (by exact HS.out) hb_⟩; have n1_ : Aside0 (w.grownBy w_1 (some mb)) := ⟨Hx.g_below (by first | exact HG.out | exact Hx.g_drew HG.out | exact Hx.g_drewN HG.out _) hb_⟩; have n2_ : Aside0 (w_1.heap[gB5]? = some (.cells #[.int .i64 x0, .int .i64 x1, .int .i64 x2, .int .i64 e] 101 (0, 0))) := ⟨Hx.b_below hb_ B5.out⟩; (try clear cB5_0 dB5_0 cB5_1 dB5_1 cB5_2 dB5_2 cB5_3 dB5_3); (try clear HS); (try clear HG); (try clear B5); have HS := n0_; have HG := n1_; have B5 := n2_; clear n0_ n1_ n2_; have cB5_0 : w_1.cell? ⟨gB5, 0, none⟩ = some (.int .i64 x0) := (blk_cell B5.out 0).trans rfl; have dB5_0 := blk_frozen B5.out 0; have cB5_1 : w_1.cell? ⟨gB5, 1, none⟩ = some (.int .i64 x1) := (blk_cell B5.out 1).trans rfl; have dB5_1 := blk_frozen B5.out 1; have cB5_2 : w_1.cell? ⟨gB5, 2, none⟩ = some (.int .i64 x2) := (blk_cell B5.out 2).trans rfl; have dB5_2 := blk_frozen B5.out 2; have cB5_3 : w_1.cell? ⟨gB5, 3, none⟩ = some (.int .i64 e) := (blk_cell B5.out 3).trans rfl; have dB5_3 := blk_frozen B5.out 3; clear hb_) | ((with_reducible refine gate_dst (N := 9) rfl ?_); refine box_event ?hg (N := 9) ?hd (cs := #[.int .i64 0, .int .i64 0, .int .i64 0, .int .i64 0]) (t := 101) ?hr ?_; (case hd => rfl); (case hg => rfl); (case hr => first | (go_simp; done) | (go_simp; rfl)); intro gB9 hg_ w_gB9 BK_ hb_; have ORD_ : Aside0 (((True) ∧ (mb < gB5 ∧ w.heap.size ≤ gB5)) ∧ (gB5 < gB9 ∧ mb < gB9 ∧ w.heap.size ≤ gB9)) := ⟨by refine ⟨ORD.out, ?_⟩; (have := HS.out.lt); (have := HG.out.size); (have := blk_lt B5.out); omega⟩; clear ORD; have ORD := ORD_; clear ORD_; have n0_ : Aside0 (Hou w_gB9 mb) := ⟨Hm.Mem.below (w := _) (by exact HS.out) hb_⟩; have n1_ : Aside0 (w.grownBy w_gB9 (some mb)) := ⟨Hx.g_below (by first | exact HG.out | exact Hx.g_drew HG.out | exact Hx.g_drewN HG.out _) hb_⟩; have n2_ : Aside0 (w_gB9.heap[gB5]? = some (.cells #[.int .i64 x0, .int .i64 x1, .int .i64 x2, .int .i64 e] 101 (0, 0))) := ⟨Hx.b_below hb_ B5.out⟩; have m0_ : Aside0 (w_gB9.heap[gB9]? = some (.cells #[.int .i64 0, .int .i64 0, .int .i64 0, .int .i64 0] 101 (0, 0))) := ⟨BK_⟩; (try clear cB5_0 dB5_0 cB5_1 dB5_1 cB5_2 dB5_2 cB5_3 dB5_3); (try clear HS); (try clear HG); (try clear B5); have HS := n0_; have HG := n1_; have B5 := n2_; have B9 := m0_; clear n0_ n1_ n2_ m0_; have cB5_0 : w_gB9.cell? ⟨gB5, 0, none⟩ = some (.int .i64 x0) := (blk_cell B5.out 0).trans rfl; have dB5_0 := blk_frozen B5.out 0; have cB5_1 : w_gB9.cell? ⟨gB5, 1, none⟩ = some (.int .i64 x1) := (blk_cell B5.out 1).trans rfl; have dB5_1 := blk_frozen B5.out 1; have cB5_2 : w_gB9.cell? ⟨gB5, 2, none⟩ = some (.int .i64 x2) := (blk_cell B5.out 2).trans rfl; have dB5_2 := blk_frozen B5.out 2; have cB5_3 : w_gB9.cell? ⟨gB5, 3, none⟩ = some (.int .i64 e) := (blk_cell B5.out 3).trans rfl; have dB5_3 := blk_frozen B5.out 3; have cB9_0 : w_gB9.cell? ⟨gB9, 0, none⟩ = some (.int .i64 0) := (blk_cell B9.out 0).trans rfl; have dB9_0 := blk_frozen B9.out 0; have cB9_1 : w_gB9.cell? ⟨gB9, 1, none⟩ = some (.int .i64 0) := (blk_cell B9.out 1).trans rfl; have dB9_1 := blk_frozen B9.out 1; have cB9_2 : w_gB9.cell? ⟨gB9, 2, none⟩ = some (.int .i64 0) := (blk_cell B9.out 2).trans rfl; have dB9_2 := blk_frozen B9.out 2; have cB9_3 : w_gB9.cell? ⟨gB9, 3, none⟩ = some (.int .i64 0) := (blk_cell B9.out 3).trans rfl; have dB9_3 := blk_frozen B9.out 3; clear hg_ BK_ hb_) | ((with_reducible refine gate_dst (N := 10) rfl ?_); refine box_event ?hg (N := 10) ?hd (cs := #[.int .i64 0, .int .i64 0, .int .i64 0, .int .i64 0]) (t := 101) ?hr ?_; (case hd => rfl); (case hg => rfl); (case hr => first | (go_simp; done) | (go_simp; rfl)); intro gB10 hg_ w_gB10 BK_ hb_; have ORD_ : Aside0 ((((True) ∧ (mb < gB5 ∧ w.heap.size ≤ gB5)) ∧ (gB5 < gB9 ∧ mb < gB9 ∧ w.heap.size ≤ gB9)) ∧ (gB5 < gB10 ∧ gB9 < gB10 ∧ mb < gB10 ∧ w.heap.size ≤ gB10)) := ⟨by refine ⟨ORD.out, ?_⟩; (have := HS.out.lt); (have := HG.out.size); (have := blk_lt B5.out); (have := blk_lt B9.out); omega⟩; clear ORD; have ORD := ORD_; clear ORD_; have n0_ : Aside0 (Hou w_gB10 mb) := ⟨Hm.Mem.below (w := _) (by exact HS.out) hb_⟩; have n1_ : Aside0 (w.grownBy w_gB10 (some mb)) := ⟨Hx.g_below (by first | exact HG.out | exact Hx.g_drew HG.out | exact Hx.g_drewN HG.out _) hb_⟩; have n2_ : Aside0 (w_gB10.heap[gB5]? = some (.cells #[.int .i64 x0, .int .i64 x1, .int .i64 x2, .int .i64 e] 101 (0, 0))) := ⟨Hx.b_below hb_ B5.out⟩; have n3_ : Aside0 (w_gB10.heap[gB9]? = some (.cells #[.int .i64 0, .int .i64 0, .int .i64 0, .int .i64 0] 101 (0, 0))) := ⟨Hx.b_below hb_ B9.out⟩; have m0_ : Aside0 (w_gB10.heap[gB10]? = some (.cells #[.int .i64 0, .int .i64 0, .int .i64 0, .int .i64 0] 101 (0, 0))) := ⟨BK_⟩; (try clear cB5_0 dB5_0 cB5_1 dB5_1 cB5_2 dB5_2 cB5_3 dB5_3 cB9_0 dB9_0 cB9_1 dB9_1 cB9_2 dB9_2 cB9_3 dB9_3); (try clear HS); (try clear HG); (try clear B5); (try clear B9); have HS := n0_; have HG := n1_; have B5 := n2_; have B9 := n3_; have B10 := m0_; clear n0_ n1_ n2_ n3_ m0_; have cB5_0 : w_gB10.cell? ⟨gB5, 0, none⟩ = some (.int .i64 x0) := (blk_cell B5.out 0).trans rfl; have dB5_0 := blk_frozen B5.out 0; have cB5_1 : w_gB10.cell? ⟨gB5, 1, none⟩ = some (.int .i64 x1) := (blk_cell B5.out 1).trans rfl; have dB5_1 := blk_frozen B5.out 1; have cB5_2 : w_gB10.cell? ⟨gB5, 2, none⟩ = some (.int .i64 x2) := (blk_cell B5.out 2).trans rfl; have dB5_2 := blk_frozen B5.out 2; have cB5_3 : w_gB10.cell? ⟨gB5, 3, none⟩ = some (.int .i64 e) := (blk_cell B5.out 3).trans rfl; have dB5_3 := blk_frozen B5.out 3; have cB9_0 : w_gB10.cell? ⟨gB9, 0, none⟩ = some (.int .i64 0) := (blk_cell B9.out 0).trans rfl; have dB9_0 := blk_frozen B9.out 0; have cB9_1 : w_gB10.cell? ⟨gB9, 1, none⟩ = some (.int .i64 0) := (blk_cell B9.out 1).trans rfl; have dB9_1 := blk_frozen B9.out 1; have cB9_2 : w_gB10.cell? ⟨gB9, 2, none⟩ = some (.int .i64 0) := (blk_cell B9.out 2).trans rfl; have dB9_2 := blk_frozen B9.out 2; have cB9_3 : w_gB10.cell? ⟨gB9, 3, none⟩ = some (.int .i64 0) := (blk_cell B9.out 3).trans rfl; have dB9_3 := blk_frozen B9.out 3; have cB10_0 : w_gB10.cell? ⟨gB10, 0, none⟩ = some (.int .i64 0) := (blk_cell B10.out 0).trans rfl; have dB10_0 := blk_frozen B10.out 0; have cB10_1 : w_gB10.cell? ⟨gB10, 1, none⟩ = some (.int .i64 0) := (blk_cell B10.out 1).trans rfl; have dB10_1 := blk_frozen B10.out 1; have cB10_2 : w_gB10.cell? ⟨gB10, 2, none⟩ = some (.int .i64 0) := (blk_cell B10.out 2).trans rfl; have dB10_2 := blk_frozen B10.out 2; have cB10_3 : w_gB10.cell? ⟨gB10, 3, none⟩ = some (.int .i64 0) := (blk_cell B10.out 3).trans rfl; have dB10_3 := blk_frozen B10.out 3; clear hg_ BK_ hb_) | ((with_reducible refine gate_store (t := 101) (p := 9) rfl ?_); refine store_event (t := 101) (p := 9) (v := ?vo_w2) (w1 := (((((w_gB10).setCell ⟨gB9, 0, none⟩ (.int .i64 x0)).setCell ⟨gB9, 1, none⟩ (.int .i64 (f - 1))).setCell ⟨gB9, 2, none⟩ (.int .i64 x2)).setCell ⟨gB9, 3, none⟩ (.int .i64 (e - 1)))) ?hg ?ho ?hn ?hr ?_; (case ho => rfl); (case hg => rfl); (case hn => rfl); (case hr => first | (go_simp; done) | (go_simp; rfl)); intro w_2 hw_; have n0_ : Aside0 (Hou w_2 mb) := ⟨by rw [hw_]; exact Hm.Mem.same (Hm.Mem.same (Hm.Mem.same (Hm.Mem.same HS.out (Below.heap_setCell _ _ _ _ (show mb ≠ gB9 by have := ORD.out; omega))) (Below.heap_setCell _ _ _ _ (show mb ≠ gB9 by have := ORD.out; omega))) (Below.heap_setCell _ _ _ _ (show mb ≠ gB9 by have := ORD.out; omega))) (Below.heap_setCell _ _ _ _ (show mb ≠ gB9 by have := ORD.out; omega))⟩; have n1_ : Aside0 (w.grownBy w_2 (some mb)) := ⟨by rw [hw_]; exact Hx.g_set (Hx.g_set (Hx.g_set (Hx.g_set HG.out (by have := ORD.out; omega)) (by have := ORD.out; omega)) (by have := ORD.out; omega)) (by have := ORD.out; omega)⟩; have n2_ : Aside0 (w_2.heap[gB5]? = some (.cells #[.int .i64 x0, .int .i64 x1, .int .i64 x2, .int .i64 e] 101 (0, 0))) := ⟨by rw [hw_]; exact blk_far (blk_far (blk_far (blk_far B5.out (show gB5 ≠ gB9 by have := ORD.out; omega) _) (show gB5 ≠ gB9 by have := ORD.out; omega) _) (show gB5 ≠ gB9 by have := ORD.out; omega) _) (show gB5 ≠ gB9 by have := ORD.out; omega) _⟩; have n3_ : Aside0 (w_2.heap[gB9]? = some (.cells #[.int .i64 x0, .int .i64 (f - 1), .int .i64 x2, .int .i64 (e - 1)] 101 (0, 0))) := ⟨by rw [hw_]; exact blk_put (blk_put (blk_put (blk_put B9.out 0 _ rfl) 1 _ rfl) 2 _ rfl) 3 _ rfl⟩; have n4_ : Aside0 (w_2.heap[gB10]? = some (.cells #[.int .i64 0, .int .i64 0, .int .i64 0, .int .i64 0] 101 (0, 0))) := ⟨by rw [hw_]; exact blk_far (blk_far (blk_far (blk_far B10.out (show gB10 ≠ gB9 by have := ORD.out; omega) _) (show gB10 ≠ gB9 by have := ORD.out; omega) _) (show gB10 ≠ gB9 by have := ORD.out; omega) _) (show gB10 ≠ gB9 by have := ORD.out; omega) _⟩; (try clear cB5_0 dB5_0 cB5_1 dB5_1 cB5_2 dB5_2 cB5_3 dB5_3 cB9_0 dB9_0 cB9_1 dB9_1 cB9_2 dB9_2 cB9_3 dB9_3 cB10_0 dB10_0 cB10_1 dB10_1 cB10_2 dB10_2 cB10_3 dB10_3); (try clear HS); (try clear HG); (try clear B5); (try clear B9); (try clear B10); have HS := n0_; have HG := n1_; have B5 := n2_; have B9 := n3_; have B10 := n4_; clear n0_ n1_ n2_ n3_ n4_; have cB5_0 : w_2.cell? ⟨gB5, 0, none⟩ = some (.int .i64 x0) := (blk_cell B5.out 0).trans rfl; have dB5_0 := blk_frozen B5.out 0; have cB5_1 : w_2.cell? ⟨gB5, 1, none⟩ = some (.int .i64 x1) := (blk_cell B5.out 1).trans rfl; have dB5_1 := blk_frozen B5.out 1; have cB5_2 : w_2.cell? ⟨gB5, 2, none⟩ = some (.int .i64 x2) := (blk_cell B5.out 2).trans rfl; have dB5_2 := blk_frozen B5.out 2; have cB5_3 : w_2.cell? ⟨gB5, 3, none⟩ = some (.int .i64 e) := (blk_cell B5.out 3).trans rfl; have dB5_3 := blk_frozen B5.out 3; have cB9_0 : w_2.cell? ⟨gB9, 0, none⟩ = some (.int .i64 x0) := (blk_cell B9.out 0).trans rfl; have dB9_0 := blk_frozen B9.out 0; have cB9_1 : w_2.cell? ⟨gB9, 1, none⟩ = some (.int .i64 (f - 1)) := (blk_cell B9.out 1).trans rfl; have dB9_1 := blk_frozen B9.out 1; have cB9_2 : w_2.cell? ⟨gB9, 2, none⟩ = some (.int .i64 x2) := (blk_cell B9.out 2).trans rfl; have dB9_2 := blk_frozen B9.out 2; have cB9_3 : w_2.cell? ⟨gB9, 3, none⟩ = some (.int .i64 (e - 1)) := (blk_cell B9.out 3).trans rfl; have dB9_3 := blk_frozen B9.out 3; have cB10_0 : w_2.cell? ⟨gB10, 0, none⟩ = some (.int .i64 0) := (blk_cell B10.out 0).trans rfl; have dB10_0 := blk_frozen B10.out 0; have cB10_1 : w_2.cell? ⟨gB10, 1, none⟩ = some (.int .i64 0) := (blk_cell B10.out 1).trans rfl; have dB10_1 := blk_frozen B10.out 1; have cB10_2 : w_2.cell? ⟨gB10, 2, none⟩ = some (.int .i64 0) := (blk_cell B10.out 2).trans rfl; have dB10_2 := blk_frozen B10.out 2; have cB10_3 : w_2.cell? ⟨gB10, 3, none⟩ = some (.int .i64 0) := (blk_cell B10.out 3).trans rfl; have dB10_3 := blk_frozen B10.out 3; clear hw_) | ((with_reducible refine gate_store (t := 101) (p := 10) rfl ?_); refine store_event (t := 101) (p := 10) (v := ?vo_w3) (w1 := (((((w_2).setCell ⟨gB10, 0, none⟩ (.int .i64 x0)).setCell ⟨gB10, 1, none⟩ (.int .i64 (x1 - f))).setCell ⟨gB10, 2, none⟩ (.int .i64 x2)).setCell ⟨gB10, 3, none⟩ (.int .i64 e))) ?hg ?ho ?hn ?hr ?_; (case ho => rfl); (case hg => rfl); (case hn => rfl); (case hr => first | (go_simp; done) | (go_simp; rfl)); intro w_3 hw_; have n0_ : Aside0 (Hou w_3 mb) := ⟨by rw [hw_]; exact Hm.Mem.same (Hm.Mem.same (Hm.Mem.same (Hm.Mem.same HS.out (Below.heap_setCell _ _ _ _ (show mb ≠ gB10 by have := ORD.out; omega))) (Below.heap_setCell _ _ _ _ (show mb ≠ gB10 by have := ORD.out; omega))) (Below.heap_setCell _ _ _ _ (show mb ≠ gB10 by have := ORD.out; omega))) (Below.heap_setCell _ _ _ _ (show mb ≠ gB10 by have := ORD.out; omega))⟩; have n1_ : Aside0 (w.grownBy w_3 (some mb)) := ⟨by rw [hw_]; exact Hx.g_set (Hx.g_set (Hx.g_set (Hx.g_set HG.out (by have := ORD.out; omega)) (by have := ORD.out; omega)) (by have := ORD.out; omega)) (by have := ORD.out; omega)⟩; have n2_ : Aside0 (w_3.heap[gB5]? = some (.cells #[.int .i64 x0, .int .i64 x1, .int .i64 x2, .int .i64 e] 101 (0, 0))) := ⟨by rw [hw_]; exact blk_far (blk_far (blk_far (blk_far B5.out (show gB5 ≠ gB10 by have := ORD.out; omega) _) (show gB5 ≠ gB10 by have := ORD.out; omega) _) (show gB5 ≠ gB10 by have := ORD.out; omega) _) (show gB5 ≠ gB10 by have := ORD.out; omega) _⟩; have n3_ : Aside0 (w_3.heap[gB9]? = some (.cells #[.int .i64 x0, .int .i64 (f - 1), .int .i64 x2, .int .i64 (e - 1)] 101 (0, 0))) := ⟨by rw [hw_]; exact blk_far (blk_far (blk_far (blk_far B9.out (show gB9 ≠ gB10 by have := ORD.out; omega) _) (show gB9 ≠ gB10 by have := ORD.out; omega) _) (show gB9 ≠ gB10 by have := ORD.out; omega) _) (show gB9 ≠ gB10 by have := ORD.out; omega) _⟩; have n4_ : Aside0 (w_3.heap[gB10]? = some (.cells #[.int .i64 x0, .int .i64 (x1 - f), .int .i64 x2, .int .i64 e] 101 (0, 0))) := ⟨by rw [hw_]; exact blk_put (blk_put (blk_put (blk_put B10.out 0 _ rfl) 1 _ rfl) 2 _ rfl) 3 _ rfl⟩; (try clear cB5_0 dB5_0 cB5_1 dB5_1 cB5_2 dB5_2 cB5_3 dB5_3 cB9_0 dB9_0 cB9_1 dB9_1 cB9_2 dB9_2 cB9_3 dB9_3 cB10_0 dB10_0 cB10_1 dB10_1 cB10_2 dB10_2 cB10_3 dB10_3); (try clear HS); (try clear HG); (try clear B5); (try clear B9); (try clear B10); have HS := n0_; have HG := n1_; have B5 := n2_; have B9 := n3_; have B10 := n4_; clear n0_ n1_ n2_ n3_ n4_; have cB5_0 : w_3.cell? ⟨gB5, 0, none⟩ = some (.int .i64 x0) := (blk_cell B5.out 0).trans rfl; have dB5_0 := blk_frozen B5.out 0; have cB5_1 : w_3.cell? ⟨gB5, 1, none⟩ = some (.int .i64 x1) := (blk_cell B5.out 1).trans rfl; have dB5_1 := blk_frozen B5.out 1; have cB5_2 : w_3.cell? ⟨gB5, 2, none⟩ = some (.int .i64 x2) := (blk_cell B5.out 2).trans rfl; have dB5_2 := blk_frozen B5.out 2; have cB5_3 : w_3.cell? ⟨gB5, 3, none⟩ = some (.int .i64 e) := (blk_cell B5.out 3).trans rfl; have dB5_3 := blk_frozen B5.out 3; have cB9_0 : w_3.cell? ⟨gB9, 0, none⟩ = some (.int .i64 x0) := (blk_cell B9.out 0).trans rfl; have dB9_0 := blk_frozen B9.out 0; have cB9_1 : w_3.cell? ⟨gB9, 1, none⟩ = some (.int .i64 (f - 1)) := (blk_cell B9.out 1).trans rfl; have dB9_1 := blk_frozen B9.out 1; have cB9_2 : w_3.cell? ⟨gB9, 2, none⟩ = some (.int .i64 x2) := (blk_cell B9.out 2).trans rfl; have dB9_2 := blk_frozen B9.out 2; have cB9_3 : w_3.cell? ⟨gB9, 3, none⟩ = some (.int .i64 (e - 1)) := (blk_cell B9.out 3).trans rfl; have dB9_3 := blk_frozen B9.out 3; have cB10_0 : w_3.cell? ⟨gB10, 0, none⟩ = some (.int .i64 x0) := (blk_cell B10.out 0).trans rfl; have dB10_0 := blk_frozen B10.out 0; have cB10_1 : w_3.cell? ⟨gB10, 1, none⟩ = some (.int .i64 (x1 - f)) := (blk_cell B10.out 1).trans rfl; have dB10_1 := blk_frozen B10.out 1; have cB10_2 : w_3.cell? ⟨gB10, 2, none⟩ = some (.int .i64 x2) := (blk_cell B10.out 2).trans rfl; have dB10_2 := blk_frozen B10.out 2; have cB10_3 : w_3.cell? ⟨gB10, 3, none⟩ = some (.int .i64 e) := (blk_cell B10.out 3).trans rfl; have dB10_3 := blk_frozen B10.out 3; clear hw_))
  go_region_held3 (fun w' => w'.cell? ⟨gB9, 0, none⟩ = some (.int .i64 x0) ∧ w'.cell? ⟨gB9, 1, none⟩ = some (.int .i64 (f - 1)) ∧ w'.cell? ⟨gB9, 2, none⟩ = some (.int .i64 x2) ∧ w'.cell? ⟨gB9, 3, none⟩ = some (.int .i64 (e - 1)) ∧ w'.cell? ⟨gB10, 0, none⟩ = some (.int .i64 x0) ∧ w'.cell? ⟨gB10, 1, none⟩ = some (.int .i64 (x1 - f)) ∧ w'.cell? ⟨gB10, 2, none⟩ = some (.int .i64 x2) ∧ w'.cell? ⟨gB10, 3, none⟩ = some (.int .i64 e)) (exact ⟨cB9_0, cB9_1, cB9_2, cB9_3, cB10_0, cB10_1, cB10_2, cB10_3⟩) (first | (have st_ := ST2; clear st_; go_at_call 125; refine (HH.out.2 _ HS.out).mono ?_; rintro e_ w_6 ⟨rfl, hs_, hg_⟩; have n0_ : Aside0 (Hou w_6 mb) := ⟨hs_⟩; have n1_ : Aside0 (w.grownBy w_6 (some mb)) := ⟨World.grownBy.trans (by first | exact HG.out | exact Hx.g_drew HG.out | exact Hx.g_drewN HG.out _) hg_⟩; have n2_ : Aside0 (w_6.heap[gB9]? = some (.cells #[.int .i64 x0, .int .i64 (f - 1), .int .i64 x2, .int .i64 (e - 1)] 101 (0, 0))) := ⟨Hx.b_grown hg_ B9.out (by simp only [ne_eq, Option.some.injEq]; have := ORD.out; omega)⟩; have n3_ : Aside0 (w_6.heap[gB10]? = some (.cells #[.int .i64 x0, .int .i64 (x1 - f), .int .i64 x2, .int .i64 e] 101 (0, 0))) := ⟨Hx.b_grown hg_ B10.out (by simp only [ne_eq, Option.some.injEq]; have := ORD.out; omega)⟩; (try clear cB9_0 dB9_0 cB9_1 dB9_1 cB9_2 dB9_2 cB9_3 dB9_3 cB10_0 dB10_0 cB10_1 dB10_1 cB10_2 dB10_2 cB10_3 dB10_3); (try clear HS); (try clear HG); (try clear B9); (try clear B10); have HS := n0_; have HG := n1_; have B9 := n2_; have B10 := n3_; clear n0_ n1_ n2_ n3_; have cB9_0 : w_6.cell? ⟨gB9, 0, none⟩ = some (.int .i64 x0) := (blk_cell B9.out 0).trans rfl; have dB9_0 := blk_frozen B9.out 0; have cB9_1 : w_6.cell? ⟨gB9, 1, none⟩ = some (.int .i64 (f - 1)) := (blk_cell B9.out 1).trans rfl; have dB9_1 := blk_frozen B9.out 1; have cB9_2 : w_6.cell? ⟨gB9, 2, none⟩ = some (.int .i64 x2) := (blk_cell B9.out 2).trans rfl; have dB9_2 := blk_frozen B9.out 2; have cB9_3 : w_6.cell? ⟨gB9, 3, none⟩ = some (.int .i64 (e - 1)) := (blk_cell B9.out 3).trans rfl; have dB9_3 := blk_frozen B9.out 3; have cB10_0 : w_6.cell? ⟨gB10, 0, none⟩ = some (.int .i64 x0) := (blk_cell B10.out 0).trans rfl; have dB10_0 := blk_frozen B10.out 0; have cB10_1 : w_6.cell? ⟨gB10, 1, none⟩ = some (.int .i64 (x1 - f)) := (blk_cell B10.out 1).trans rfl; have dB10_1 := blk_frozen B10.out 1; have cB10_2 : w_6.cell? ⟨gB10, 2, none⟩ = some (.int .i64 x2) := (blk_cell B10.out 2).trans rfl; have dB10_2 := blk_frozen B10.out 2; have cB10_3 : w_6.cell? ⟨gB10, 3, none⟩ = some (.int .i64 e) := (blk_cell B10.out 3).trans rfl; have dB10_3 := blk_frozen B10.out 3; clear hs_ hg_) | (skip; go_at_call 125; refine (HH.out.1 w_3.drew (hou_drew HS.out)).mono ?_; rintro e_ w_5 ⟨rfl, hs_, hg_⟩; replace hg_ := Hx.g_undrew hg_; have ST2 : Aside0 True := ⟨trivial⟩; have n0_ : Aside0 (Hou w_5 mb) := ⟨hs_⟩; have n1_ : Aside0 (w.grownBy w_5 (some mb)) := ⟨World.grownBy.trans (by first | exact HG.out | exact Hx.g_drew HG.out | exact Hx.g_drewN HG.out _) hg_⟩; have n2_ : Aside0 (w_5.heap[gB9]? = some (.cells #[.int .i64 x0, .int .i64 (f - 1), .int .i64 x2, .int .i64 (e - 1)] 101 (0, 0))) := ⟨Hx.b_grown hg_ B9.out (by simp only [ne_eq, Option.some.injEq]; have := ORD.out; omega)⟩; have n3_ : Aside0 (w_5.heap[gB10]? = some (.cells #[.int .i64 x0, .int .i64 (x1 - f), .int .i64 x2, .int .i64 e] 101 (0, 0))) := ⟨Hx.b_grown hg_ B10.out (by simp only [ne_eq, Option.some.injEq]; have := ORD.out; omega)⟩; (try clear cB5_0 dB5_0 cB5_1 dB5_1 cB5_2 dB5_2 cB5_3 dB5_3 cB9_0 dB9_0 cB9_1 dB9_1 cB9_2 dB9_2 cB9_3 dB9_3 cB10_0 dB10_0 cB10_1 dB10_1 cB10_2 dB10_2 cB10_3 dB10_3); (try clear HS); (try clear HG); (try clear B9); (try clear B10); have HS := n0_; have HG := n1_; have B9 := n2_; have B10 := n3_; clear n0_ n1_ n2_ n3_; have cB9_0 : w_5.cell? ⟨gB9, 0, none⟩ = some (.int .i64 x0) := (blk_cell B9.out 0).trans rfl; have dB9_0 := blk_frozen B9.out 0; have cB9_1 : w_5.cell? ⟨gB9, 1, none⟩ = some (.int .i64 (f - 1)) := (blk_cell B9.out 1).trans rfl; have dB9_1 := blk_frozen B9.out 1; have cB9_2 : w_5.cell? ⟨gB9, 2, none⟩ = some (.int .i64 x2) := (blk_cell B9.out 2).trans rfl; have dB9_2 := blk_frozen B9.out 2; have cB9_3 : w_5.cell? ⟨gB9, 3, none⟩ = some (.int .i64 (e - 1)) := (blk_cell B9.out 3).trans rfl; have dB9_3 := blk_frozen B9.out 3; have cB10_0 : w_5.cell? ⟨gB10, 0, none⟩ = some (.int .i64 x0) := (blk_cell B10.out 0).trans rfl; have dB10_0 := blk_frozen B10.out 0; have cB10_1 : w_5.cell? ⟨gB10, 1, none⟩ = some (.int .i64 (x1 - f)) := (blk_cell B10.out 1).trans rfl; have dB10_1 := blk_frozen B10.out 1; have cB10_2 : w_5.cell? ⟨gB10, 2, none⟩ = some (.int .i64 x2) := (blk_cell B10.out 2).trans rfl; have dB10_2 := blk_frozen B10.out 2; have cB10_3 : w_5.cell? ⟨gB10, 3, none⟩ = some (.int .i64 e) := (blk_cell B10.out 3).trans rfl; have dB10_3 := blk_frozen B10.out 3; clear hs_ hg_))
  go_wp2
  go_ret
  exact ⟨rfl, HS.out, HG.out⟩

set_option maxHeartbeats 8000000 in
set_option maxRecDepth 100000 in
theorem hwith2 (mb : Nat) (x0 x1 x2 e f r : Int) (hx : f ≤ x2 ∧ 1 ≤ f ∧ x2 ≤ 8 ∧ 0 ≤ e ∧ e ≤ 6) (p q : Int) (hr : IntKind.i64.wrap (1 + max p q) = r)
    (H0 : ∀ w : World, Hou w mb → Calls Try.prog 125 #[.map (some mb), .agg #[.int .i64 x0, .int .i64 x1, .int .i64 (f - 1), .int .i64 (e - 1)]] w fun e_ w' => e_ = .returned (.int .i64 p) ∧ Hou w' mb ∧ w.grownBy w' (some mb))
    (H1 : ∀ w : World, Hou w mb → Calls Try.prog 125 #[.map (some mb), .agg #[.int .i64 x0, .int .i64 x1, .int .i64 (x2 - f), .int .i64 e]] w fun e_ w' => e_ = .returned (.int .i64 q) ∧ Hou w' mb ∧ w.grownBy w' (some mb)) (w : World) (hS : Hou w mb) :
    Calls Try.prog 124 #[.map (some mb), .agg #[.int .i64 x0, .int .i64 x1, .int .i64 x2, .int .i64 e], .int .i64 2, .int .i64 f] w fun e_ w' => e_ = .returned (.int .i64 r) ∧ Hou w' mb ∧ w.grownBy w' (some mb) := by
  have HS := Aside0.mk hS
  have HG := Aside0.mk (Hx.g_refl w (some mb))
  have HX := Aside0.mk hx
  have HH := Aside0.mk (And.intro H0 H1)
  have hmx : (if p < q then q else p) = max p q := by split <;> omega
  clear hS hx H0 H1
  go_enter Try.func124, Try.ntmps124
  go_upto_region 2 with (first | ((with_reducible refine gate_dst (N := 5) rfl ?_); refine box_event ?hg (N := 5) ?hd (cs := #[.int .i64 x0, .int .i64 x1, .int .i64 x2, .int .i64 e]) (t := 101) ?hr ?_; (case hd => rfl); (case hg => rfl); (case hr => first | (go_simp; done) | (go_simp; rfl)); intro gB5 hg_ w_gB5 BK_ hb_; have ORD_ : Aside0 ((True) ∧ (mb < gB5 ∧ w.heap.size ≤ gB5)) := ⟨by refine ⟨trivial, ?_⟩; (have := HS.out.lt); (have := HG.out.size); omega⟩; have ORD := ORD_; clear ORD_; have n0_ : Aside0 (Hou w_gB5 mb) := ⟨Hm.Mem.below (w := _) (by exact HS.out) hb_⟩; have n1_ : Aside0 (w.grownBy w_gB5 (some mb)) := ⟨Hx.g_below (by first | exact HG.out | exact Hx.g_drew HG.out | exact Hx.g_drewN HG.out _) hb_⟩; have m0_ : Aside0 (w_gB5.heap[gB5]? = some (.cells #[.int .i64 x0, .int .i64 x1, .int .i64 x2, .int .i64 e] 101 (0, 0))) := ⟨BK_⟩; (try clear HS); (try clear HG); have HS := n0_; have HG := n1_; have B5 := m0_; clear n0_ n1_ m0_; have cB5_0 : w_gB5.cell? ⟨gB5, 0, none⟩ = some (.int .i64 x0) := (blk_cell B5.out 0).trans rfl; have dB5_0 := blk_frozen B5.out 0; have cB5_1 : w_gB5.cell? ⟨gB5, 1, none⟩ = some (.int .i64 x1) := (blk_cell B5.out 1).trans rfl; have dB5_1 := blk_frozen B5.out 1; have cB5_2 : w_gB5.cell? ⟨gB5, 2, none⟩ = some (.int .i64 x2) := (blk_cell B5.out 2).trans rfl; have dB5_2 := blk_frozen B5.out 2; have cB5_3 : w_gB5.cell? ⟨gB5, 3, none⟩ = some (.int .i64 e) := (blk_cell B5.out 3).trans rfl; have dB5_3 := blk_frozen B5.out 3; clear hg_ BK_ hb_) | ((with_reducible refine gate_callee (f := 127) rfl ?_); refine goesL_ (some 15) rfl rfl Try.func127 (by kernel_rfl) rfl #[.agg #[.int .i64 x0, .int .i64 x1, .int .i64 x2, .int .i64 e], .int .i64 2, .int .i64 f] rfl (by (try simp only [List.map_toArray, List.map_cons, List.map_nil]); first | done | rfl) ?_; refine (parts2.calls x0 x1 x2 e f _ HX.out).mono ?_; rintro e_ w_1 ⟨rfl, hb_⟩; refine ⟨_, rfl, ?_⟩; have n0_ : Aside0 (Hou w_1 mb) := ⟨Hm.Mem.below (w := _) (by exact HS.out) hb_⟩; have n1_ : Aside0 (w.grownBy w_1 (some mb)) := ⟨Hx.g_below (by first | exact HG.out | exact Hx.g_drew HG.out | exact Hx.g_drewN HG.out _) hb_⟩; have n2_ : Aside0 (w_1.heap[gB5]? = some (.cells #[.int .i64 x0, .int .i64 x1, .int .i64 x2, .int .i64 e] 101 (0, 0))) := ⟨Hx.b_below hb_ B5.out⟩; (try clear cB5_0 dB5_0 cB5_1 dB5_1 cB5_2 dB5_2 cB5_3 dB5_3); (try clear HS); (try clear HG); (try clear B5); have HS := n0_; have HG := n1_; have B5 := n2_; clear n0_ n1_ n2_; have cB5_0 : w_1.cell? ⟨gB5, 0, none⟩ = some (.int .i64 x0) := (blk_cell B5.out 0).trans rfl; have dB5_0 := blk_frozen B5.out 0; have cB5_1 : w_1.cell? ⟨gB5, 1, none⟩ = some (.int .i64 x1) := (blk_cell B5.out 1).trans rfl; have dB5_1 := blk_frozen B5.out 1; have cB5_2 : w_1.cell? ⟨gB5, 2, none⟩ = some (.int .i64 x2) := (blk_cell B5.out 2).trans rfl; have dB5_2 := blk_frozen B5.out 2; have cB5_3 : w_1.cell? ⟨gB5, 3, none⟩ = some (.int .i64 e) := (blk_cell B5.out 3).trans rfl; have dB5_3 := blk_frozen B5.out 3; clear hb_) | ((with_reducible refine gate_dst (N := 9) rfl ?_); refine box_event ?hg (N := 9) ?hd (cs := #[.int .i64 0, .int .i64 0, .int .i64 0, .int .i64 0]) (t := 101) ?hr ?_; (case hd => rfl); (case hg => rfl); (case hr => first | (go_simp; done) | (go_simp; rfl)); intro gB9 hg_ w_gB9 BK_ hb_; have ORD_ : Aside0 (((True) ∧ (mb < gB5 ∧ w.heap.size ≤ gB5)) ∧ (gB5 < gB9 ∧ mb < gB9 ∧ w.heap.size ≤ gB9)) := ⟨by refine ⟨ORD.out, ?_⟩; (have := HS.out.lt); (have := HG.out.size); (have := blk_lt B5.out); omega⟩; clear ORD; have ORD := ORD_; clear ORD_; have n0_ : Aside0 (Hou w_gB9 mb) := ⟨Hm.Mem.below (w := _) (by exact HS.out) hb_⟩; have n1_ : Aside0 (w.grownBy w_gB9 (some mb)) := ⟨Hx.g_below (by first | exact HG.out | exact Hx.g_drew HG.out | exact Hx.g_drewN HG.out _) hb_⟩; have n2_ : Aside0 (w_gB9.heap[gB5]? = some (.cells #[.int .i64 x0, .int .i64 x1, .int .i64 x2, .int .i64 e] 101 (0, 0))) := ⟨Hx.b_below hb_ B5.out⟩; have m0_ : Aside0 (w_gB9.heap[gB9]? = some (.cells #[.int .i64 0, .int .i64 0, .int .i64 0, .int .i64 0] 101 (0, 0))) := ⟨BK_⟩; (try clear cB5_0 dB5_0 cB5_1 dB5_1 cB5_2 dB5_2 cB5_3 dB5_3); (try clear HS); (try clear HG); (try clear B5); have HS := n0_; have HG := n1_; have B5 := n2_; have B9 := m0_; clear n0_ n1_ n2_ m0_; have cB5_0 : w_gB9.cell? ⟨gB5, 0, none⟩ = some (.int .i64 x0) := (blk_cell B5.out 0).trans rfl; have dB5_0 := blk_frozen B5.out 0; have cB5_1 : w_gB9.cell? ⟨gB5, 1, none⟩ = some (.int .i64 x1) := (blk_cell B5.out 1).trans rfl; have dB5_1 := blk_frozen B5.out 1; have cB5_2 : w_gB9.cell? ⟨gB5, 2, none⟩ = some (.int .i64 x2) := (blk_cell B5.out 2).trans rfl; have dB5_2 := blk_frozen B5.out 2; have cB5_3 : w_gB9.cell? ⟨gB5, 3, none⟩ = some (.int .i64 e) := (blk_cell B5.out 3).trans rfl; have dB5_3 := blk_frozen B5.out 3; have cB9_0 : w_gB9.cell? ⟨gB9, 0, none⟩ = some (.int .i64 0) := (blk_cell B9.out 0).trans rfl; have dB9_0 := blk_frozen B9.out 0; have cB9_1 : w_gB9.cell? ⟨gB9, 1, none⟩ = some (.int .i64 0) := (blk_cell B9.out 1).trans rfl; have dB9_1 := blk_frozen B9.out 1; have cB9_2 : w_gB9.cell? ⟨gB9, 2, none⟩ = some (.int .i64 0) := (blk_cell B9.out 2).trans rfl; have dB9_2 := blk_frozen B9.out 2; have cB9_3 : w_gB9.cell? ⟨gB9, 3, none⟩ = some (.int .i64 0) := (blk_cell B9.out 3).trans rfl; have dB9_3 := blk_frozen B9.out 3; clear hg_ BK_ hb_) | ((with_reducible refine gate_dst (N := 10) rfl ?_); refine box_event ?hg (N := 10) ?hd (cs := #[.int .i64 0, .int .i64 0, .int .i64 0, .int .i64 0]) (t := 101) ?hr ?_; (case hd => rfl); (case hg => rfl); (case hr => first | (go_simp; done) | (go_simp; rfl)); intro gB10 hg_ w_gB10 BK_ hb_; have ORD_ : Aside0 ((((True) ∧ (mb < gB5 ∧ w.heap.size ≤ gB5)) ∧ (gB5 < gB9 ∧ mb < gB9 ∧ w.heap.size ≤ gB9)) ∧ (gB5 < gB10 ∧ gB9 < gB10 ∧ mb < gB10 ∧ w.heap.size ≤ gB10)) := ⟨by refine ⟨ORD.out, ?_⟩; (have := HS.out.lt); (have := HG.out.size); (have := blk_lt B5.out); (have := blk_lt B9.out); omega⟩; clear ORD; have ORD := ORD_; clear ORD_; have n0_ : Aside0 (Hou w_gB10 mb) := ⟨Hm.Mem.below (w := _) (by exact HS.out) hb_⟩; have n1_ : Aside0 (w.grownBy w_gB10 (some mb)) := ⟨Hx.g_below (by first | exact HG.out | exact Hx.g_drew HG.out | exact Hx.g_drewN HG.out _) hb_⟩; have n2_ : Aside0 (w_gB10.heap[gB5]? = some (.cells #[.int .i64 x0, .int .i64 x1, .int .i64 x2, .int .i64 e] 101 (0, 0))) := ⟨Hx.b_below hb_ B5.out⟩; have n3_ : Aside0 (w_gB10.heap[gB9]? = some (.cells #[.int .i64 0, .int .i64 0, .int .i64 0, .int .i64 0] 101 (0, 0))) := ⟨Hx.b_below hb_ B9.out⟩; have m0_ : Aside0 (w_gB10.heap[gB10]? = some (.cells #[.int .i64 0, .int .i64 0, .int .i64 0, .int .i64 0] 101 (0, 0))) := ⟨BK_⟩; (try clear cB5_0 dB5_0 cB5_1 dB5_1 cB5_2 dB5_2 cB5_3 dB5_3 cB9_0 dB9_0 cB9_1 dB9_1 cB9_2 dB9_2 cB9_3 dB9_3); (try clear HS); (try clear HG); (try clear B5); (try clear B9); have HS := n0_; have HG := n1_; have B5 := n2_; have B9 := n3_; have B10 := m0_; clear n0_ n1_ n2_ n3_ m0_; have cB5_0 : w_gB10.cell? ⟨gB5, 0, none⟩ = some (.int .i64 x0) := (blk_cell B5.out 0).trans rfl; have dB5_0 := blk_frozen B5.out 0; have cB5_1 : w_gB10.cell? ⟨gB5, 1, none⟩ = some (.int .i64 x1) := (blk_cell B5.out 1).trans rfl; have dB5_1 := blk_frozen B5.out 1; have cB5_2 : w_gB10.cell? ⟨gB5, 2, none⟩ = some (.int .i64 x2) := (blk_cell B5.out 2).trans rfl; have dB5_2 := blk_frozen B5.out 2; have cB5_3 : w_gB10.cell? ⟨gB5, 3, none⟩ = some (.int .i64 e) := (blk_cell B5.out 3).trans rfl; have dB5_3 := blk_frozen B5.out 3; have cB9_0 : w_gB10.cell? ⟨gB9, 0, none⟩ = some (.int .i64 0) := (blk_cell B9.out 0).trans rfl; have dB9_0 := blk_frozen B9.out 0; have cB9_1 : w_gB10.cell? ⟨gB9, 1, none⟩ = some (.int .i64 0) := (blk_cell B9.out 1).trans rfl; have dB9_1 := blk_frozen B9.out 1; have cB9_2 : w_gB10.cell? ⟨gB9, 2, none⟩ = some (.int .i64 0) := (blk_cell B9.out 2).trans rfl; have dB9_2 := blk_frozen B9.out 2; have cB9_3 : w_gB10.cell? ⟨gB9, 3, none⟩ = some (.int .i64 0) := (blk_cell B9.out 3).trans rfl; have dB9_3 := blk_frozen B9.out 3; have cB10_0 : w_gB10.cell? ⟨gB10, 0, none⟩ = some (.int .i64 0) := (blk_cell B10.out 0).trans rfl; have dB10_0 := blk_frozen B10.out 0; have cB10_1 : w_gB10.cell? ⟨gB10, 1, none⟩ = some (.int .i64 0) := (blk_cell B10.out 1).trans rfl; have dB10_1 := blk_frozen B10.out 1; have cB10_2 : w_gB10.cell? ⟨gB10, 2, none⟩ = some (.int .i64 0) := (blk_cell B10.out 2).trans rfl; have dB10_2 := blk_frozen B10.out 2; have cB10_3 : w_gB10.cell? ⟨gB10, 3, none⟩ = some (.int .i64 0) := (blk_cell B10.out 3).trans rfl; have dB10_3 := blk_frozen B10.out 3; clear hg_ BK_ hb_) | ((with_reducible refine gate_store (t := 101) (p := 9) rfl ?_); refine store_event (t := 101) (p := 9) (v := ?vo_w2) (w1 := (((((w_gB10).setCell ⟨gB9, 0, none⟩ (.int .i64 x0)).setCell ⟨gB9, 1, none⟩ (.int .i64 x1)).setCell ⟨gB9, 2, none⟩ (.int .i64 (f - 1))).setCell ⟨gB9, 3, none⟩ (.int .i64 (e - 1)))) ?hg ?ho ?hn ?hr ?_; (case ho => rfl); (case hg => rfl); (case hn => rfl); (case hr => first | (go_simp; done) | (go_simp; rfl)); intro w_2 hw_; have n0_ : Aside0 (Hou w_2 mb) := ⟨by rw [hw_]; exact Hm.Mem.same (Hm.Mem.same (Hm.Mem.same (Hm.Mem.same HS.out (Below.heap_setCell _ _ _ _ (show mb ≠ gB9 by have := ORD.out; omega))) (Below.heap_setCell _ _ _ _ (show mb ≠ gB9 by have := ORD.out; omega))) (Below.heap_setCell _ _ _ _ (show mb ≠ gB9 by have := ORD.out; omega))) (Below.heap_setCell _ _ _ _ (show mb ≠ gB9 by have := ORD.out; omega))⟩; have n1_ : Aside0 (w.grownBy w_2 (some mb)) := ⟨by rw [hw_]; exact Hx.g_set (Hx.g_set (Hx.g_set (Hx.g_set HG.out (by have := ORD.out; omega)) (by have := ORD.out; omega)) (by have := ORD.out; omega)) (by have := ORD.out; omega)⟩; have n2_ : Aside0 (w_2.heap[gB5]? = some (.cells #[.int .i64 x0, .int .i64 x1, .int .i64 x2, .int .i64 e] 101 (0, 0))) := ⟨by rw [hw_]; exact blk_far (blk_far (blk_far (blk_far B5.out (show gB5 ≠ gB9 by have := ORD.out; omega) _) (show gB5 ≠ gB9 by have := ORD.out; omega) _) (show gB5 ≠ gB9 by have := ORD.out; omega) _) (show gB5 ≠ gB9 by have := ORD.out; omega) _⟩; have n3_ : Aside0 (w_2.heap[gB9]? = some (.cells #[.int .i64 x0, .int .i64 x1, .int .i64 (f - 1), .int .i64 (e - 1)] 101 (0, 0))) := ⟨by rw [hw_]; exact blk_put (blk_put (blk_put (blk_put B9.out 0 _ rfl) 1 _ rfl) 2 _ rfl) 3 _ rfl⟩; have n4_ : Aside0 (w_2.heap[gB10]? = some (.cells #[.int .i64 0, .int .i64 0, .int .i64 0, .int .i64 0] 101 (0, 0))) := ⟨by rw [hw_]; exact blk_far (blk_far (blk_far (blk_far B10.out (show gB10 ≠ gB9 by have := ORD.out; omega) _) (show gB10 ≠ gB9 by have := ORD.out; omega) _) (show gB10 ≠ gB9 by have := ORD.out; omega) _) (show gB10 ≠ gB9 by have := ORD.out; omega) _⟩; (try clear cB5_0 dB5_0 cB5_1 dB5_1 cB5_2 dB5_2 cB5_3 dB5_3 cB9_0 dB9_0 cB9_1 dB9_1 cB9_2 dB9_2 cB9_3 dB9_3 cB10_0 dB10_0 cB10_1 dB10_1 cB10_2 dB10_2 cB10_3 dB10_3); (try clear HS); (try clear HG); (try clear B5); (try clear B9); (try clear B10); have HS := n0_; have HG := n1_; have B5 := n2_; have B9 := n3_; have B10 := n4_; clear n0_ n1_ n2_ n3_ n4_; have cB5_0 : w_2.cell? ⟨gB5, 0, none⟩ = some (.int .i64 x0) := (blk_cell B5.out 0).trans rfl; have dB5_0 := blk_frozen B5.out 0; have cB5_1 : w_2.cell? ⟨gB5, 1, none⟩ = some (.int .i64 x1) := (blk_cell B5.out 1).trans rfl; have dB5_1 := blk_frozen B5.out 1; have cB5_2 : w_2.cell? ⟨gB5, 2, none⟩ = some (.int .i64 x2) := (blk_cell B5.out 2).trans rfl; have dB5_2 := blk_frozen B5.out 2; have cB5_3 : w_2.cell? ⟨gB5, 3, none⟩ = some (.int .i64 e) := (blk_cell B5.out 3).trans rfl; have dB5_3 := blk_frozen B5.out 3; have cB9_0 : w_2.cell? ⟨gB9, 0, none⟩ = some (.int .i64 x0) := (blk_cell B9.out 0).trans rfl; have dB9_0 := blk_frozen B9.out 0; have cB9_1 : w_2.cell? ⟨gB9, 1, none⟩ = some (.int .i64 x1) := (blk_cell B9.out 1).trans rfl; have dB9_1 := blk_frozen B9.out 1; have cB9_2 : w_2.cell? ⟨gB9, 2, none⟩ = some (.int .i64 (f - 1)) := (blk_cell B9.out 2).trans rfl; have dB9_2 := blk_frozen B9.out 2; have cB9_3 : w_2.cell? ⟨gB9, 3, none⟩ = some (.int .i64 (e - 1)) := (blk_cell B9.out 3).trans rfl; have dB9_3 := blk_frozen B9.out 3; have cB10_0 : w_2.cell? ⟨gB10, 0, none⟩ = some (.int .i64 0) := (blk_cell B10.out 0).trans rfl; have dB10_0 := blk_frozen B10.out 0; have cB10_1 : w_2.cell? ⟨gB10, 1, none⟩ = some (.int .i64 0) := (blk_cell B10.out 1).trans rfl; have dB10_1 := blk_frozen B10.out 1; have cB10_2 : w_2.cell? ⟨gB10, 2, none⟩ = some (.int .i64 0) := (blk_cell B10.out 2).trans rfl; have dB10_2 := blk_frozen B10.out 2; have cB10_3 : w_2.cell? ⟨gB10, 3, none⟩ = some (.int .i64 0) := (blk_cell B10.out 3).trans rfl; have dB10_3 := blk_frozen B10.out 3; clear hw_) | ((with_reducible refine gate_store (t := 101) (p := 10) rfl ?_); refine store_event (t := 101) (p := 10) (v := ?vo_w3) (w1 := (((((w_2).setCell ⟨gB10, 0, none⟩ (.int .i64 x0)).setCell ⟨gB10, 1, none⟩ (.int .i64 x1)).setCell ⟨gB10, 2, none⟩ (.int .i64 (x2 - f))).setCell ⟨gB10, 3, none⟩ (.int .i64 e))) ?hg ?ho ?hn ?hr ?_; (case ho => rfl); (case hg => rfl); (case hn => rfl); (case hr => first | (go_simp; done) | (go_simp; rfl)); intro w_3 hw_; have n0_ : Aside0 (Hou w_3 mb) := ⟨by rw [hw_]; exact Hm.Mem.same (Hm.Mem.same (Hm.Mem.same (Hm.Mem.same HS.out (Below.heap_setCell _ _ _ _ (show mb ≠ gB10 by have := ORD.out; omega))) (Below.heap_setCell _ _ _ _ (show mb ≠ gB10 by have := ORD.out; omega))) (Below.heap_setCell _ _ _ _ (show mb ≠ gB10 by have := ORD.out; omega))) (Below.heap_setCell _ _ _ _ (show mb ≠ gB10 by have := ORD.out; omega))⟩; have n1_ : Aside0 (w.grownBy w_3 (some mb)) := ⟨by rw [hw_]; exact Hx.g_set (Hx.g_set (Hx.g_set (Hx.g_set HG.out (by have := ORD.out; omega)) (by have := ORD.out; omega)) (by have := ORD.out; omega)) (by have := ORD.out; omega)⟩; have n2_ : Aside0 (w_3.heap[gB5]? = some (.cells #[.int .i64 x0, .int .i64 x1, .int .i64 x2, .int .i64 e] 101 (0, 0))) := ⟨by rw [hw_]; exact blk_far (blk_far (blk_far (blk_far B5.out (show gB5 ≠ gB10 by have := ORD.out; omega) _) (show gB5 ≠ gB10 by have := ORD.out; omega) _) (show gB5 ≠ gB10 by have := ORD.out; omega) _) (show gB5 ≠ gB10 by have := ORD.out; omega) _⟩; have n3_ : Aside0 (w_3.heap[gB9]? = some (.cells #[.int .i64 x0, .int .i64 x1, .int .i64 (f - 1), .int .i64 (e - 1)] 101 (0, 0))) := ⟨by rw [hw_]; exact blk_far (blk_far (blk_far (blk_far B9.out (show gB9 ≠ gB10 by have := ORD.out; omega) _) (show gB9 ≠ gB10 by have := ORD.out; omega) _) (show gB9 ≠ gB10 by have := ORD.out; omega) _) (show gB9 ≠ gB10 by have := ORD.out; omega) _⟩; have n4_ : Aside0 (w_3.heap[gB10]? = some (.cells #[.int .i64 x0, .int .i64 x1, .int .i64 (x2 - f), .int .i64 e] 101 (0, 0))) := ⟨by rw [hw_]; exact blk_put (blk_put (blk_put (blk_put B10.out 0 _ rfl) 1 _ rfl) 2 _ rfl) 3 _ rfl⟩; (try clear cB5_0 dB5_0 cB5_1 dB5_1 cB5_2 dB5_2 cB5_3 dB5_3 cB9_0 dB9_0 cB9_1 dB9_1 cB9_2 dB9_2 cB9_3 dB9_3 cB10_0 dB10_0 cB10_1 dB10_1 cB10_2 dB10_2 cB10_3 dB10_3); (try clear HS); (try clear HG); (try clear B5); (try clear B9); (try clear B10); have HS := n0_; have HG := n1_; have B5 := n2_; have B9 := n3_; have B10 := n4_; clear n0_ n1_ n2_ n3_ n4_; have cB5_0 : w_3.cell? ⟨gB5, 0, none⟩ = some (.int .i64 x0) := (blk_cell B5.out 0).trans rfl; have dB5_0 := blk_frozen B5.out 0; have cB5_1 : w_3.cell? ⟨gB5, 1, none⟩ = some (.int .i64 x1) := (blk_cell B5.out 1).trans rfl; have dB5_1 := blk_frozen B5.out 1; have cB5_2 : w_3.cell? ⟨gB5, 2, none⟩ = some (.int .i64 x2) := (blk_cell B5.out 2).trans rfl; have dB5_2 := blk_frozen B5.out 2; have cB5_3 : w_3.cell? ⟨gB5, 3, none⟩ = some (.int .i64 e) := (blk_cell B5.out 3).trans rfl; have dB5_3 := blk_frozen B5.out 3; have cB9_0 : w_3.cell? ⟨gB9, 0, none⟩ = some (.int .i64 x0) := (blk_cell B9.out 0).trans rfl; have dB9_0 := blk_frozen B9.out 0; have cB9_1 : w_3.cell? ⟨gB9, 1, none⟩ = some (.int .i64 x1) := (blk_cell B9.out 1).trans rfl; have dB9_1 := blk_frozen B9.out 1; have cB9_2 : w_3.cell? ⟨gB9, 2, none⟩ = some (.int .i64 (f - 1)) := (blk_cell B9.out 2).trans rfl; have dB9_2 := blk_frozen B9.out 2; have cB9_3 : w_3.cell? ⟨gB9, 3, none⟩ = some (.int .i64 (e - 1)) := (blk_cell B9.out 3).trans rfl; have dB9_3 := blk_frozen B9.out 3; have cB10_0 : w_3.cell? ⟨gB10, 0, none⟩ = some (.int .i64 x0) := (blk_cell B10.out 0).trans rfl; have dB10_0 := blk_frozen B10.out 0; have cB10_1 : w_3.cell? ⟨gB10, 1, none⟩ = some (.int .i64 x1) := (blk_cell B10.out 1).trans rfl; have dB10_1 := blk_frozen B10.out 1; have cB10_2 : w_3.cell? ⟨gB10, 2, none⟩ = some (.int .i64 (x2 - f)) := (blk_cell B10.out 2).trans rfl; have dB10_2 := blk_frozen B10.out 2; have cB10_3 : w_3.cell? ⟨gB10, 3, none⟩ = some (.int .i64 e) := (blk_cell B10.out 3).trans rfl; have dB10_3 := blk_frozen B10.out 3; clear hw_))
  go_region_held3 (fun w' => w'.cell? ⟨gB9, 0, none⟩ = some (.int .i64 x0) ∧ w'.cell? ⟨gB9, 1, none⟩ = some (.int .i64 x1) ∧ w'.cell? ⟨gB9, 2, none⟩ = some (.int .i64 (f - 1)) ∧ w'.cell? ⟨gB9, 3, none⟩ = some (.int .i64 (e - 1)) ∧ w'.cell? ⟨gB10, 0, none⟩ = some (.int .i64 x0) ∧ w'.cell? ⟨gB10, 1, none⟩ = some (.int .i64 x1) ∧ w'.cell? ⟨gB10, 2, none⟩ = some (.int .i64 (x2 - f)) ∧ w'.cell? ⟨gB10, 3, none⟩ = some (.int .i64 e)) (exact ⟨cB9_0, cB9_1, cB9_2, cB9_3, cB10_0, cB10_1, cB10_2, cB10_3⟩) (first | (have st_ := ST2; clear st_; go_at_call 125; refine (HH.out.2 _ HS.out).mono ?_; rintro e_ w_6 ⟨rfl, hs_, hg_⟩; have n0_ : Aside0 (Hou w_6 mb) := ⟨hs_⟩; have n1_ : Aside0 (w.grownBy w_6 (some mb)) := ⟨World.grownBy.trans (by first | exact HG.out | exact Hx.g_drew HG.out | exact Hx.g_drewN HG.out _) hg_⟩; have n2_ : Aside0 (w_6.heap[gB9]? = some (.cells #[.int .i64 x0, .int .i64 x1, .int .i64 (f - 1), .int .i64 (e - 1)] 101 (0, 0))) := ⟨Hx.b_grown hg_ B9.out (by simp only [ne_eq, Option.some.injEq]; have := ORD.out; omega)⟩; have n3_ : Aside0 (w_6.heap[gB10]? = some (.cells #[.int .i64 x0, .int .i64 x1, .int .i64 (x2 - f), .int .i64 e] 101 (0, 0))) := ⟨Hx.b_grown hg_ B10.out (by simp only [ne_eq, Option.some.injEq]; have := ORD.out; omega)⟩; (try clear cB9_0 dB9_0 cB9_1 dB9_1 cB9_2 dB9_2 cB9_3 dB9_3 cB10_0 dB10_0 cB10_1 dB10_1 cB10_2 dB10_2 cB10_3 dB10_3); (try clear HS); (try clear HG); (try clear B9); (try clear B10); have HS := n0_; have HG := n1_; have B9 := n2_; have B10 := n3_; clear n0_ n1_ n2_ n3_; have cB9_0 : w_6.cell? ⟨gB9, 0, none⟩ = some (.int .i64 x0) := (blk_cell B9.out 0).trans rfl; have dB9_0 := blk_frozen B9.out 0; have cB9_1 : w_6.cell? ⟨gB9, 1, none⟩ = some (.int .i64 x1) := (blk_cell B9.out 1).trans rfl; have dB9_1 := blk_frozen B9.out 1; have cB9_2 : w_6.cell? ⟨gB9, 2, none⟩ = some (.int .i64 (f - 1)) := (blk_cell B9.out 2).trans rfl; have dB9_2 := blk_frozen B9.out 2; have cB9_3 : w_6.cell? ⟨gB9, 3, none⟩ = some (.int .i64 (e - 1)) := (blk_cell B9.out 3).trans rfl; have dB9_3 := blk_frozen B9.out 3; have cB10_0 : w_6.cell? ⟨gB10, 0, none⟩ = some (.int .i64 x0) := (blk_cell B10.out 0).trans rfl; have dB10_0 := blk_frozen B10.out 0; have cB10_1 : w_6.cell? ⟨gB10, 1, none⟩ = some (.int .i64 x1) := (blk_cell B10.out 1).trans rfl; have dB10_1 := blk_frozen B10.out 1; have cB10_2 : w_6.cell? ⟨gB10, 2, none⟩ = some (.int .i64 (x2 - f)) := (blk_cell B10.out 2).trans rfl; have dB10_2 := blk_frozen B10.out 2; have cB10_3 : w_6.cell? ⟨gB10, 3, none⟩ = some (.int .i64 e) := (blk_cell B10.out 3).trans rfl; have dB10_3 := blk_frozen B10.out 3; clear hs_ hg_) | (skip; go_at_call 125; refine (HH.out.1 w_3.drew (hou_drew HS.out)).mono ?_; rintro e_ w_5 ⟨rfl, hs_, hg_⟩; replace hg_ := Hx.g_undrew hg_; have ST2 : Aside0 True := ⟨trivial⟩; have n0_ : Aside0 (Hou w_5 mb) := ⟨hs_⟩; have n1_ : Aside0 (w.grownBy w_5 (some mb)) := ⟨World.grownBy.trans (by first | exact HG.out | exact Hx.g_drew HG.out | exact Hx.g_drewN HG.out _) hg_⟩; have n2_ : Aside0 (w_5.heap[gB9]? = some (.cells #[.int .i64 x0, .int .i64 x1, .int .i64 (f - 1), .int .i64 (e - 1)] 101 (0, 0))) := ⟨Hx.b_grown hg_ B9.out (by simp only [ne_eq, Option.some.injEq]; have := ORD.out; omega)⟩; have n3_ : Aside0 (w_5.heap[gB10]? = some (.cells #[.int .i64 x0, .int .i64 x1, .int .i64 (x2 - f), .int .i64 e] 101 (0, 0))) := ⟨Hx.b_grown hg_ B10.out (by simp only [ne_eq, Option.some.injEq]; have := ORD.out; omega)⟩; (try clear cB5_0 dB5_0 cB5_1 dB5_1 cB5_2 dB5_2 cB5_3 dB5_3 cB9_0 dB9_0 cB9_1 dB9_1 cB9_2 dB9_2 cB9_3 dB9_3 cB10_0 dB10_0 cB10_1 dB10_1 cB10_2 dB10_2 cB10_3 dB10_3); (try clear HS); (try clear HG); (try clear B9); (try clear B10); have HS := n0_; have HG := n1_; have B9 := n2_; have B10 := n3_; clear n0_ n1_ n2_ n3_; have cB9_0 : w_5.cell? ⟨gB9, 0, none⟩ = some (.int .i64 x0) := (blk_cell B9.out 0).trans rfl; have dB9_0 := blk_frozen B9.out 0; have cB9_1 : w_5.cell? ⟨gB9, 1, none⟩ = some (.int .i64 x1) := (blk_cell B9.out 1).trans rfl; have dB9_1 := blk_frozen B9.out 1; have cB9_2 : w_5.cell? ⟨gB9, 2, none⟩ = some (.int .i64 (f - 1)) := (blk_cell B9.out 2).trans rfl; have dB9_2 := blk_frozen B9.out 2; have cB9_3 : w_5.cell? ⟨gB9, 3, none⟩ = some (.int .i64 (e - 1)) := (blk_cell B9.out 3).trans rfl; have dB9_3 := blk_frozen B9.out 3; have cB10_0 : w_5.cell? ⟨gB10, 0, none⟩ = some (.int .i64 x0) := (blk_cell B10.out 0).trans rfl; have dB10_0 := blk_frozen B10.out 0; have cB10_1 : w_5.cell? ⟨gB10, 1, none⟩ = some (.int .i64 x1) := (blk_cell B10.out 1).trans rfl; have dB10_1 := blk_frozen B10.out 1; have cB10_2 : w_5.cell? ⟨gB10, 2, none⟩ = some (.int .i64 (x2 - f)) := (blk_cell B10.out 2).trans rfl; have dB10_2 := blk_frozen B10.out 2; have cB10_3 : w_5.cell? ⟨gB10, 3, none⟩ = some (.int .i64 e) := (blk_cell B10.out 3).trans rfl; have dB10_3 := blk_frozen B10.out 3; clear hs_ hg_))
  go_wp2
  go_ret
  exact ⟨rfl, HS.out, HG.out⟩
theorem village_C {w : World} {g : Nat} {x0 x1 x2 e : Int} (h : w.heap[g]? = some (.cells #[.int .i64 x0, .int .i64 x1, .int .i64 x2, .int .i64 e] 101 (0, 0))) : Kd.C (Kd.int .i64) w (some ⟨g, 0, none⟩) [x0, x1, x2].length [x0, x1, x2] := by
  refine ⟨rfl, by simp, fun _ => ⟨⟨g, 0, none⟩, rfl, ?_⟩⟩
  intro j p hj
  have hc : ∀ i u, #[Value.int .i64 x0, .int .i64 x1, .int .i64 x2, .int .i64 e][i]? = some u → w.cell? ⟨g, i, none⟩ = some u := fun i u hu => (blk_cell h i).trans hu
  refine ⟨[.int .i64 p], rfl, rfl, ?_⟩
  intro i u hu
  have hi : i = 0 := by cases i with
    | zero => rfl
    | succ i => simp at hu
  subst hi
  have hu2 : Value.int .i64 p = u := by simpa using hu
  subst hu2
  have e1 : (Addr.add ⟨g, 0, none⟩ (j * 1 + 0)) = (⟨g, j, none⟩ : Addr) := by rw [Hw.add_off, show j * 1 + 0 = j by omega]
  show w.cell? (Addr.add ⟨g, 0, none⟩ (j * 1 + 0)) = _
  rw [e1]
  refine hc j _ ?_
  match j, hj with
  | 0, hj => simpa using hj
  | 1, hj => simpa using hj
  | 2, hj => simpa using hj
theorem eggs_is (x0 x1 x2 : Int) : impl_eggsNeeded.f 9 [x0, x1, x2] = some (nz x0 + nz x1 + nz x2) := by
  unfold impl_eggsNeeded.f
  simp only [impl_eggsNeeded.l0]
  unfold nz
  have r0 : rd [x0, x1, x2] 0 = x0 := rfl
  have r1 : rd [x0, x1, x2] 1 = x1 := rfl
  have r2 : rd [x0, x1, x2] 2 = x2 := rfl
  have w1 : wrap64 1 = 1 := Hw.wrap_id (by omega) (by omega)
  have w2 : wrap64 2 = 2 := Hw.wrap_id (by omega) (by omega)
  have w3 : wrap64 3 = 3 := Hw.wrap_id (by omega) (by omega)
  by_cases h0 : x0 > 0 <;> by_cases h1 : x1 > 0 <;> by_cases h2 : x2 > 0 <;> simp [h0, h1, h2, r0, r1, r2, w1, w2, w3]

theorem u97 : Try.prog.underlying 97 = some (.map 101 3) := Try.underlying97
theorem zz3 (w : World) : (zeroValue 3).run Try.prog w = .ok (.int .i64 0) w := by kernel_rfl
theorem hI_bd (v : VS) : 0 ≤ hI v ∧ hI v ≤ 1125899906842624 := ⟨hG_lo _ _, hG_hi _ _⟩
theorem hWt_bd (v : VS) (t : Nat × Int) : 1 ≤ hWt v t ∧ hWt v t ≤ 1125899906842625 := by
  unfold hWt
  have h1 := hI_bd (v.brk t.1 t.2)
  have h2 := hI_bd (v.whl t.1 t.2)
  omega
theorem hou_store {w : World} {mb : Nat} {v : VS} (h : Hou w mb) (hv : VGood v) : ∃ w', (Instr.mapUpdate 97 (.map (some mb)) (vCells v) (.int .i64 (hI v))).run Try.prog w = .ok () w' ∧ Hou w' mb ∧ w.grownBy w' (some mb) := by
  obtain ⟨kl, hkl⟩ := vKey v hv
  have h0 := hI_bd v
  exact Hm.Mem.store h vKeyed u97 Try.underlying3 vPl 5103 (by unfold maxLen; omega) (fun x n hx => by
    obtain ⟨u, hg, _, hp⟩ := vI_inv hx
    rw [hp]; exact vPlace_lt hg) (fun x y m n hx hy hp => by
    obtain ⟨k1, hg1, e1, hp1⟩ := vI_inv hx
    obtain ⟨k2, hg2, e2, hp2⟩ := vI_inv hy
    rw [hp1, hp2] at hp
    rw [e1, e2, vPlace_inj hg1 hg2 hp]) hkl (vI_is v hv) (wf_v (by omega) (by omega))

theorem ix99_0 (w : World) (x0 x1 x2 : Int) : (Instr.index 99 (.agg #[.int .i64 x0, .int .i64 x1, .int .i64 x2]) (.int .i64 0)).run Try.prog w = .ok (.int .i64 x0) w := by kernel_rfl
theorem ix99_1 (w : World) (x0 x1 x2 : Int) : (Instr.index 99 (.agg #[.int .i64 x0, .int .i64 x1, .int .i64 x2]) (.int .i64 1)).run Try.prog w = .ok (.int .i64 x1) w := by kernel_rfl
theorem ix99_2 (w : World) (x0 x1 x2 : Int) : (Instr.index 99 (.agg #[.int .i64 x0, .int .i64 x1, .int .i64 x2]) (.int .i64 2)).run Try.prog w = .ok (.int .i64 x2) w := by kernel_rfl

set_option maxHeartbeats 8000000 in
set_option maxRecDepth 100000 in
theorem hleast_of (mb : Nat) (v : VS) (hv : VGood v) (HW : VOk v → ∀ t, VIn v t → HWithOk mb v t) : HLeastOk mb v := by
  intro w hS
  have HS := Aside0.mk hS
  have HG := Aside0.mk (Hx.g_refl w (some mb))
  obtain ⟨kl, hkl⟩ := vKey v hv
  have HL := Aside0.mk (Hm.Mem.look' hS vKeyed u97 zz3 hkl (vI_is v hv))
  have HM : Aside0 (w.heap[mb]? = w.heap[mb]?) := ⟨rfl⟩
  have HU0 := Aside0.mk (fun (W : World) (hW : Hou W mb) => hou_store hW hv)
  have HWt0 := Aside0.mk HW
  have HZ := Aside0.mk (@hI_zero v)
  have HV := Aside0.mk (hI_never hv)
  have HE := Aside0.mk (fun h_ => hI_eq (v := v) h_)
  have hnl := need_lo v
  have HGd := Aside0.mk hv
  obtain ⟨x, hx⟩ : ∃ x, x = hI v := ⟨_, rfl⟩
  rw [← hx] at HZ HV HE HL HU0
  rw [← hx]
  obtain ⟨nd, hnd⟩ : ∃ nd, nd = v.need := ⟨_, rfl⟩
  rw [← hnd] at HZ HV hnl
  have HND := Aside0.mk hnd
  have HNL := Aside0.mk hnl
  clear hS hkl HW hx hnl hv hnd
  obtain ⟨x0, x1, x2, e⟩ := v
  have HN := Aside0.mk (eggs_is x0 x1 x2)
  rw [show nz x0 + nz x1 + nz x2 = nd from HND.out.symm] at HN
  go_enter Try.func125, Try.ntmps125
  go_upto_region 2 with (first | ((with_reducible refine gate_dst (N := 3) rfl ?_); refine box_event ?hg (N := 3) ?hd (cs := #[.int .i64 x0, .int .i64 x1, .int .i64 x2, .int .i64 e]) (t := 101) ?hr ?_; (case hd => rfl); (case hg => rfl); (case hr => first | (go_simp; done) | (go_simp; rfl)); intro gB3 hg_ w_gB3 BK_ hb_; have ORD_ : Aside0 ((True) ∧ (mb < gB3 ∧ w.heap.size ≤ gB3)) := ⟨by refine ⟨trivial, ?_⟩; (have := HS.out.lt); (have := HG.out.size); omega⟩; have ORD := ORD_; clear ORD_; have n0_ : Aside0 (Hou w_gB3 mb) := ⟨Hm.Mem.below (w := _) (by exact HS.out) hb_⟩; have n1_ : Aside0 (w.grownBy w_gB3 (some mb)) := ⟨Hx.g_below (by first | exact HG.out | exact Hx.g_drew HG.out | exact Hx.g_drewN HG.out _) hb_⟩; have n2_ : Aside0 (w_gB3.heap[mb]? = w.heap[mb]?) := ⟨(Below.block hb_ mb HS.out.lt).trans HM.out⟩; have m0_ : Aside0 (w_gB3.heap[gB3]? = some (.cells #[.int .i64 x0, .int .i64 x1, .int .i64 x2, .int .i64 e] 101 (0, 0))) := ⟨BK_⟩; (try clear HS); (try clear HG); (try clear HM); have HS := n0_; have HG := n1_; have HM := n2_; have B3 := m0_; clear n0_ n1_ n2_ m0_; have cB3_0 : w_gB3.cell? ⟨gB3, 0, none⟩ = some (.int .i64 x0) := (blk_cell B3.out 0).trans rfl; have dB3_0 := blk_frozen B3.out 0; have cB3_1 : w_gB3.cell? ⟨gB3, 1, none⟩ = some (.int .i64 x1) := (blk_cell B3.out 1).trans rfl; have dB3_1 := blk_frozen B3.out 1; have cB3_2 : w_gB3.cell? ⟨gB3, 2, none⟩ = some (.int .i64 x2) := (blk_cell B3.out 2).trans rfl; have dB3_2 := blk_frozen B3.out 2; have cB3_3 : w_gB3.cell? ⟨gB3, 3, none⟩ = some (.int .i64 e) := (blk_cell B3.out 3).trans rfl; have dB3_3 := blk_frozen B3.out 3; clear hg_ BK_ hb_) | ((with_reducible refine gate_callee (f := 123) rfl ?_); refine goesL_ (some 14) rfl rfl Try.func123 (by kernel_rfl) rfl #[.slice (some ⟨gB3, 0, none⟩) 3 3] rfl (by (try simp only [List.map_toArray, List.map_cons, List.map_nil]); first | done | rfl) ?_; refine (impl_eggsNeeded.calls 9 (some ⟨gB3, 0, none⟩) 3 [x0, x1, x2] nd _ (village_C B3.out) (Nat.le_refl 3) HN.out).mono ?_; rintro e_ w_1 ⟨rfl, hd_⟩; refine ⟨_, rfl, ?_⟩; have hb_ := hd_.below; clear hd_; have n0_ : Aside0 (Hou w_1 mb) := ⟨Hm.Mem.below (w := _) (by exact HS.out) hb_⟩; have n1_ : Aside0 (w.grownBy w_1 (some mb)) := ⟨Hx.g_below (by first | exact HG.out | exact Hx.g_drew HG.out | exact Hx.g_drewN HG.out _) hb_⟩; have n2_ : Aside0 (w_1.heap[mb]? = w.heap[mb]?) := ⟨(Below.block hb_ mb HS.out.lt).trans HM.out⟩; have n3_ : Aside0 (w_1.heap[gB3]? = some (.cells #[.int .i64 x0, .int .i64 x1, .int .i64 x2, .int .i64 e] 101 (0, 0))) := ⟨Hx.b_below hb_ B3.out⟩; (try clear cB3_0 dB3_0 cB3_1 dB3_1 cB3_2 dB3_2 cB3_3 dB3_3); (try clear HS); (try clear HG); (try clear HM); (try clear B3); have HS := n0_; have HG := n1_; have HM := n2_; have B3 := n3_; clear n0_ n1_ n2_ n3_; have cB3_0 : w_1.cell? ⟨gB3, 0, none⟩ = some (.int .i64 x0) := (blk_cell B3.out 0).trans rfl; have dB3_0 := blk_frozen B3.out 0; have cB3_1 : w_1.cell? ⟨gB3, 1, none⟩ = some (.int .i64 x1) := (blk_cell B3.out 1).trans rfl; have dB3_1 := blk_frozen B3.out 1; have cB3_2 : w_1.cell? ⟨gB3, 2, none⟩ = some (.int .i64 x2) := (blk_cell B3.out 2).trans rfl; have dB3_2 := blk_frozen B3.out 2; have cB3_3 : w_1.cell? ⟨gB3, 3, none⟩ = some (.int .i64 e) := (blk_cell B3.out 3).trans rfl; have dB3_3 := blk_frozen B3.out 3; clear hb_))
  by_cases h0 : nd = 0
  · have e0 : (nd == 0) = true := by simpa using h0
    have hx0 := HZ.out h0
    subst hx0
    clear h0
    go_wp2
    go_ret
    exact ⟨rfl, HS.out, HG.out⟩
  · have e0 : (nd == 0) = false := by simpa using h0
    by_cases h1 : e < nd
    · have e1 : decide (e < nd) = true := decide_eq_true h1
      have e1' : decide (nd > e) = true := decide_eq_true h1
      have hx0 := HV.out h0 h1
      subst hx0
      clear h0 h1
      go_wp2
      go_ret
      exact ⟨rfl, HS.out, HG.out⟩
    have e1 : decide (e < nd) = false := decide_eq_false h1
    have e1' : decide (nd > e) = false := decide_eq_false h1
    have HOk : Aside0 (VOk ⟨x0, x1, x2, e⟩) := ⟨⟨HGd.out, by have := HNL.out; have := HND.out; omega, by have := HNL.out; have := HND.out; show _ ≤ e; omega⟩⟩
    clear h0 h1 HZ HV
    rcases HL.out with HL1 | HL1
    · have HLk := Aside0.mk HL1
      clear HL1 HL
      have l1 := HLk.out w_1 HM.out
      have l2 := HLk.out w_1.drew HM.out
      have l3 := fun n_ => HLk.out (w_1.drewN n_) HM.out
      simp only [vCells] at l1 l2 l3
      go_wp2
      clear l1 l2 l3 HM
      have hE := Aside0.mk (HE.out HOk.out)
      clear HE
      go_loopg [8, 33] 3 (fun n v8 v33 w' => ∃ (i o : Int), v33 = .int .i64 i ∧ v8 = .int .i64 o ∧ Aside0 (0 ≤ i ∧ i + n = 3 ∧ 0 ≤ o ∧ o ≤ vNever ∧ vFold (hWt ⟨x0, x1, x2, e⟩) o (vFrom ⟨x0, x1, x2, e⟩ i.toNat) = x) ∧ Aside0 (Hou w' mb) ∧ Aside0 (w.grownBy w' (some mb)) ∧ Aside0 (w'.heap[gB3]? = some (.cells #[.int .i64 x0, .int .i64 x1, .int .i64 x2, .int .i64 e] 101 (0, 0))))
      case atStart => exact ⟨0, vNever, rfl, rfl, ⟨⟨by omega, by omega, by decide, by decide, hE.out.symm⟩⟩, HS, HG, B3⟩
      case round =>
       clear HS HG B3
       clear cB3_0 dB3_0 cB3_1 dB3_1 cB3_2 dB3_2 cB3_3 dB3_3
       obtain ⟨i, o, rfl, rfl, HO, HS, HG, B3⟩ := hrel
       have cB3_0 : wr.cell? ⟨gB3, 0, none⟩ = some (.int .i64 x0) := (blk_cell B3.out 0).trans rfl
       have dB3_0 := blk_frozen B3.out 0
       have cB3_1 : wr.cell? ⟨gB3, 1, none⟩ = some (.int .i64 x1) := (blk_cell B3.out 1).trans rfl
       have dB3_1 := blk_frozen B3.out 1
       have cB3_2 : wr.cell? ⟨gB3, 2, none⟩ = some (.int .i64 x2) := (blk_cell B3.out 2).trans rfl
       have dB3_2 := blk_frozen B3.out 2
       have cB3_3 : wr.cell? ⟨gB3, 3, none⟩ = some (.int .i64 e) := (blk_cell B3.out 3).trans rfl
       have dB3_3 := blk_frozen B3.out 3
       rcases (by have := HO.out; omega : i = 0 ∨ i = 1 ∨ i = 2 ∨ i = 3) with rfl | rfl | rfl | rfl
       · obtain ⟨k1, rfl⟩ : ∃ k1, gk = k1 + 1 := ⟨gk - 1, by have := HO.out; omega⟩
         have HK : Aside0 (k1 + 1 + 0 = 3) := ⟨by have := HO.out; omega⟩
         have HO1 : Aside0 (vFold (hWt ⟨x0, x1, x2, e⟩) o ((vFloors (0) x0).map (fun f_ => (0, f_)) ++ vFrom ⟨x0, x1, x2, e⟩ 1) = x) := ⟨by
           have h_ := HO.out.2.2.2.2
           rw [show (0 : Int).toNat = 0 from rfl, vFrom_step _ 0 (by omega)] at h_
           exact h_⟩
         have HO2 : Aside0 (0 ≤ o ∧ o ≤ vNever) := ⟨⟨HO.out.2.2.1, HO.out.2.2.2.1⟩⟩
         have hxh : Aside0 (0 ≤ x0 ∧ x0 ≤ 8) := ⟨by have h_ := HGd.out; simp only [VGood] at h_; omega⟩
         clear HO
         have ix_ := ix99_0 wr x0 x1 x2
         go_wp2
         clear ix_
         go_loopg [8, 11] x0.toNat (fun n v8 v11 w' => ∃ f o : Int, v11 = .int .i64 f ∧ v8 = .int .i64 o ∧ Aside0 (1 ≤ f ∧ f + n = x0 + 1 ∧ 0 ≤ o ∧ o ≤ vNever) ∧ Aside0 (vFold (hWt ⟨x0, x1, x2, e⟩) o ((vFloors (f - 1) x0).map (fun f_ => (0, f_)) ++ vFrom ⟨x0, x1, x2, e⟩ 1) = x) ∧ Aside0 (Hou w' mb) ∧ Aside0 (w.grownBy w' (some mb)) ∧ Aside0 (w'.heap[gB3]? = some (.cells #[.int .i64 x0, .int .i64 x1, .int .i64 x2, .int .i64 e] 101 (0, 0))))
         case atStart => exact ⟨1, o, rfl, rfl, ⟨by have := hxh.out; have := HO2.out; omega⟩, HO1, HS, HG, B3⟩
         case round =>
           clear HS HG B3 HO1 HO2
           clear cB3_0 dB3_0 cB3_1 dB3_1 cB3_2 dB3_2 cB3_3 dB3_3
           obtain ⟨f, o, rfl, rfl, HI, HJ, HS, HG, B3⟩ := hrel
           have cB3_0 : wr.cell? ⟨gB3, 0, none⟩ = some (.int .i64 x0) := (blk_cell B3.out 0).trans rfl
           have dB3_0 := blk_frozen B3.out 0
           have cB3_1 : wr.cell? ⟨gB3, 1, none⟩ = some (.int .i64 x1) := (blk_cell B3.out 1).trans rfl
           have dB3_1 := blk_frozen B3.out 1
           have cB3_2 : wr.cell? ⟨gB3, 2, none⟩ = some (.int .i64 x2) := (blk_cell B3.out 2).trans rfl
           have dB3_2 := blk_frozen B3.out 2
           have cB3_3 : wr.cell? ⟨gB3, 3, none⟩ = some (.int .i64 e) := (blk_cell B3.out 3).trans rfl
           have dB3_3 := blk_frozen B3.out 3
           by_cases hf : f ≤ x0
           · have c1 : decide (f ≤ x0) = true := decide_eq_true hf
             have hin : VIn ⟨x0, x1, x2, e⟩ (0, f) := ⟨by show 0 < 3; omega, HI.out.1, hf⟩
             have hw1 : ∀ W : World, Hou W mb → Calls Try.prog 124 #[.map (some mb), .agg #[.int .i64 x0, .int .i64 x1, .int .i64 x2, .int .i64 e], .int .i64 0, .int .i64 f] W fun e_ w' => e_ = .returned (.int .i64 (hWt ⟨x0, x1, x2, e⟩ (0, f))) ∧ Hou w' mb ∧ W.grownBy w' (some mb) := HWt0.out HOk.out (0, f) hin
             obtain ⟨gw, hgw⟩ : ∃ gw, gw = hWt ⟨x0, x1, x2, e⟩ (0, f) := ⟨_, rfl⟩
             rw [← hgw] at hw1
             have hlo := hWt_bd ⟨x0, x1, x2, e⟩ (0, f)
             rw [← hgw] at hlo
             obtain ⟨m2, hm2⟩ : ∃ m2, m2 = min o gw := ⟨_, rfl⟩
             have hmin : (if gw < o then gw else o) = m2 := by rw [hm2]; split <;> omega
             have w1 : IntKind.i64.wrap (f + 1) = f + 1 := Hw.wrap_w (by have := HI.out; omega) (by have := HI.out; have := hxh.out; omega)
             have HJ2 : Aside0 (vFold (hWt ⟨x0, x1, x2, e⟩) m2 ((vFloors (f + 1 - 1) x0).map (fun f_ => (0, f_)) ++ vFrom ⟨x0, x1, x2, e⟩ 1) = x) := ⟨by
               have h_ := HJ.out
               rw [vFloors_cons (show f - 1 < x0 by omega), List.map_cons, List.cons_append, vFold_cons] at h_
               rw [show f - 1 + 1 = f by omega, ← hgw, ← hm2] at h_
               rw [show f + 1 - 1 = f by omega]
               exact h_⟩
             have HI2 : Aside0 (1 ≤ f + 1 ∧ f + 1 + ((gk - 1 : Nat) : Int) = x0 + 1 ∧ 0 ≤ m2 ∧ m2 ≤ vNever ∧ gk - 1 < gk) := ⟨by have := HI.out; omega⟩
             have HWt := Aside0.mk hw1
             clear hw1 hlo hm2 hgw hin hf HI HJ
             go_wp2_with (first | ((with_reducible refine gate_callee (f := 124) rfl ?_); refine goesL_ (some 47) rfl rfl Try.func124 (by kernel_rfl) rfl #[.map (some mb), .agg #[.int .i64 x0, .int .i64 x1, .int .i64 x2, .int .i64 e], .int .i64 0, .int .i64 f] rfl (by (try simp only [List.map_toArray, List.map_cons, List.map_nil]); first | done | rfl) ?_; refine (HWt.out _ HS.out).mono ?_; rintro e_ w_5 ⟨rfl, hs_, hg_⟩; refine ⟨_, rfl, ?_⟩; have n0_ : Aside0 (Hou w_5 mb) := ⟨hs_⟩; have n1_ : Aside0 (w.grownBy w_5 (some mb)) := ⟨World.grownBy.trans (by first | exact HG.out | exact Hx.g_drew HG.out | exact Hx.g_drewN HG.out _) hg_⟩; have n2_ : Aside0 (w_5.heap[gB3]? = some (.cells #[.int .i64 x0, .int .i64 x1, .int .i64 x2, .int .i64 e] 101 (0, 0))) := ⟨Hx.b_grown hg_ B3.out (by simp only [ne_eq, Option.some.injEq]; have := ORD.out; omega)⟩; (try clear cB3_0 cB3_1 cB3_2 cB3_3 dB3_0 dB3_1 dB3_2 dB3_3); (try clear HS); (try clear HG); (try clear B3); have HS := n0_; have HG := n1_; have B3 := n2_; clear n0_ n1_ n2_; have cB3_0 : w_5.cell? ⟨gB3, 0, none⟩ = some (.int .i64 x0) := (blk_cell B3.out 0).trans rfl; have dB3_0 := blk_frozen B3.out 0; have cB3_1 : w_5.cell? ⟨gB3, 1, none⟩ = some (.int .i64 x1) := (blk_cell B3.out 1).trans rfl; have dB3_1 := blk_frozen B3.out 1; have cB3_2 : w_5.cell? ⟨gB3, 2, none⟩ = some (.int .i64 x2) := (blk_cell B3.out 2).trans rfl; have dB3_2 := blk_frozen B3.out 2; have cB3_3 : w_5.cell? ⟨gB3, 3, none⟩ = some (.int .i64 e) := (blk_cell B3.out 3).trans rfl; have dB3_3 := blk_frozen B3.out 3; clear hs_ hg_))
             go_roundg (gk - 1)
             case measure => have := HI2.out; omega
             case rel => exact ⟨f + 1, m2, rfl, rfl, ⟨by have := HI2.out; omega⟩, HJ2, HS, HG, B3⟩
           · have c1 : decide (f ≤ x0) = false := decide_eq_false hf
             have HJ2 : Aside0 (0 ≤ o ∧ o ≤ vNever ∧ vFold (hWt ⟨x0, x1, x2, e⟩) o (vFrom ⟨x0, x1, x2, e⟩ 1) = x) := ⟨by
               have h_ := HJ.out
               rw [vFloors_nil (by have := HI.out; omega), List.map_nil, List.nil_append] at h_
               exact ⟨HI.out.2.2.1, HI.out.2.2.2, h_⟩⟩
             clear hf HI HJ
             go_wp2
             go_roundg k1
             case measure => omega
             case rel => exact ⟨1, o, rfl, rfl, ⟨by have h_ := HJ2.out; exact ⟨by omega, by have := HK.out; omega, h_.1, h_.2.1, h_.2.2⟩⟩, HS, HG, B3⟩
       · obtain ⟨k1, rfl⟩ : ∃ k1, gk = k1 + 1 := ⟨gk - 1, by have := HO.out; omega⟩
         have HK : Aside0 (k1 + 1 + 1 = 3) := ⟨by have := HO.out; omega⟩
         have HO1 : Aside0 (vFold (hWt ⟨x0, x1, x2, e⟩) o ((vFloors (0) x1).map (fun f_ => (1, f_)) ++ vFrom ⟨x0, x1, x2, e⟩ 2) = x) := ⟨by
           have h_ := HO.out.2.2.2.2
           rw [show (1 : Int).toNat = 1 from rfl, vFrom_step _ 1 (by omega)] at h_
           exact h_⟩
         have HO2 : Aside0 (0 ≤ o ∧ o ≤ vNever) := ⟨⟨HO.out.2.2.1, HO.out.2.2.2.1⟩⟩
         have hxh : Aside0 (0 ≤ x1 ∧ x1 ≤ 8) := ⟨by have h_ := HGd.out; simp only [VGood] at h_; omega⟩
         clear HO
         have ix_ := ix99_1 wr x0 x1 x2
         go_wp2
         clear ix_
         go_loopg [8, 11] x1.toNat (fun n v8 v11 w' => ∃ f o : Int, v11 = .int .i64 f ∧ v8 = .int .i64 o ∧ Aside0 (1 ≤ f ∧ f + n = x1 + 1 ∧ 0 ≤ o ∧ o ≤ vNever) ∧ Aside0 (vFold (hWt ⟨x0, x1, x2, e⟩) o ((vFloors (f - 1) x1).map (fun f_ => (1, f_)) ++ vFrom ⟨x0, x1, x2, e⟩ 2) = x) ∧ Aside0 (Hou w' mb) ∧ Aside0 (w.grownBy w' (some mb)) ∧ Aside0 (w'.heap[gB3]? = some (.cells #[.int .i64 x0, .int .i64 x1, .int .i64 x2, .int .i64 e] 101 (0, 0))))
         case atStart => exact ⟨1, o, rfl, rfl, ⟨by have := hxh.out; have := HO2.out; omega⟩, HO1, HS, HG, B3⟩
         case round =>
           clear HS HG B3 HO1 HO2
           clear cB3_0 dB3_0 cB3_1 dB3_1 cB3_2 dB3_2 cB3_3 dB3_3
           obtain ⟨f, o, rfl, rfl, HI, HJ, HS, HG, B3⟩ := hrel
           have cB3_0 : wr.cell? ⟨gB3, 0, none⟩ = some (.int .i64 x0) := (blk_cell B3.out 0).trans rfl
           have dB3_0 := blk_frozen B3.out 0
           have cB3_1 : wr.cell? ⟨gB3, 1, none⟩ = some (.int .i64 x1) := (blk_cell B3.out 1).trans rfl
           have dB3_1 := blk_frozen B3.out 1
           have cB3_2 : wr.cell? ⟨gB3, 2, none⟩ = some (.int .i64 x2) := (blk_cell B3.out 2).trans rfl
           have dB3_2 := blk_frozen B3.out 2
           have cB3_3 : wr.cell? ⟨gB3, 3, none⟩ = some (.int .i64 e) := (blk_cell B3.out 3).trans rfl
           have dB3_3 := blk_frozen B3.out 3
           by_cases hf : f ≤ x1
           · have c1 : decide (f ≤ x1) = true := decide_eq_true hf
             have hin : VIn ⟨x0, x1, x2, e⟩ (1, f) := ⟨by show 1 < 3; omega, HI.out.1, hf⟩
             have hw1 : ∀ W : World, Hou W mb → Calls Try.prog 124 #[.map (some mb), .agg #[.int .i64 x0, .int .i64 x1, .int .i64 x2, .int .i64 e], .int .i64 1, .int .i64 f] W fun e_ w' => e_ = .returned (.int .i64 (hWt ⟨x0, x1, x2, e⟩ (1, f))) ∧ Hou w' mb ∧ W.grownBy w' (some mb) := HWt0.out HOk.out (1, f) hin
             obtain ⟨gw, hgw⟩ : ∃ gw, gw = hWt ⟨x0, x1, x2, e⟩ (1, f) := ⟨_, rfl⟩
             rw [← hgw] at hw1
             have hlo := hWt_bd ⟨x0, x1, x2, e⟩ (1, f)
             rw [← hgw] at hlo
             obtain ⟨m2, hm2⟩ : ∃ m2, m2 = min o gw := ⟨_, rfl⟩
             have hmin : (if gw < o then gw else o) = m2 := by rw [hm2]; split <;> omega
             have w1 : IntKind.i64.wrap (f + 1) = f + 1 := Hw.wrap_w (by have := HI.out; omega) (by have := HI.out; have := hxh.out; omega)
             have HJ2 : Aside0 (vFold (hWt ⟨x0, x1, x2, e⟩) m2 ((vFloors (f + 1 - 1) x1).map (fun f_ => (1, f_)) ++ vFrom ⟨x0, x1, x2, e⟩ 2) = x) := ⟨by
               have h_ := HJ.out
               rw [vFloors_cons (show f - 1 < x1 by omega), List.map_cons, List.cons_append, vFold_cons] at h_
               rw [show f - 1 + 1 = f by omega, ← hgw, ← hm2] at h_
               rw [show f + 1 - 1 = f by omega]
               exact h_⟩
             have HI2 : Aside0 (1 ≤ f + 1 ∧ f + 1 + ((gk - 1 : Nat) : Int) = x1 + 1 ∧ 0 ≤ m2 ∧ m2 ≤ vNever ∧ gk - 1 < gk) := ⟨by have := HI.out; omega⟩
             have HWt := Aside0.mk hw1
             clear hw1 hlo hm2 hgw hin hf HI HJ
             go_wp2_with (first | ((with_reducible refine gate_callee (f := 124) rfl ?_); refine goesL_ (some 47) rfl rfl Try.func124 (by kernel_rfl) rfl #[.map (some mb), .agg #[.int .i64 x0, .int .i64 x1, .int .i64 x2, .int .i64 e], .int .i64 1, .int .i64 f] rfl (by (try simp only [List.map_toArray, List.map_cons, List.map_nil]); first | done | rfl) ?_; refine (HWt.out _ HS.out).mono ?_; rintro e_ w_5 ⟨rfl, hs_, hg_⟩; refine ⟨_, rfl, ?_⟩; have n0_ : Aside0 (Hou w_5 mb) := ⟨hs_⟩; have n1_ : Aside0 (w.grownBy w_5 (some mb)) := ⟨World.grownBy.trans (by first | exact HG.out | exact Hx.g_drew HG.out | exact Hx.g_drewN HG.out _) hg_⟩; have n2_ : Aside0 (w_5.heap[gB3]? = some (.cells #[.int .i64 x0, .int .i64 x1, .int .i64 x2, .int .i64 e] 101 (0, 0))) := ⟨Hx.b_grown hg_ B3.out (by simp only [ne_eq, Option.some.injEq]; have := ORD.out; omega)⟩; (try clear cB3_0 cB3_1 cB3_2 cB3_3 dB3_0 dB3_1 dB3_2 dB3_3); (try clear HS); (try clear HG); (try clear B3); have HS := n0_; have HG := n1_; have B3 := n2_; clear n0_ n1_ n2_; have cB3_0 : w_5.cell? ⟨gB3, 0, none⟩ = some (.int .i64 x0) := (blk_cell B3.out 0).trans rfl; have dB3_0 := blk_frozen B3.out 0; have cB3_1 : w_5.cell? ⟨gB3, 1, none⟩ = some (.int .i64 x1) := (blk_cell B3.out 1).trans rfl; have dB3_1 := blk_frozen B3.out 1; have cB3_2 : w_5.cell? ⟨gB3, 2, none⟩ = some (.int .i64 x2) := (blk_cell B3.out 2).trans rfl; have dB3_2 := blk_frozen B3.out 2; have cB3_3 : w_5.cell? ⟨gB3, 3, none⟩ = some (.int .i64 e) := (blk_cell B3.out 3).trans rfl; have dB3_3 := blk_frozen B3.out 3; clear hs_ hg_))
             go_roundg (gk - 1)
             case measure => have := HI2.out; omega
             case rel => exact ⟨f + 1, m2, rfl, rfl, ⟨by have := HI2.out; omega⟩, HJ2, HS, HG, B3⟩
           · have c1 : decide (f ≤ x1) = false := decide_eq_false hf
             have HJ2 : Aside0 (0 ≤ o ∧ o ≤ vNever ∧ vFold (hWt ⟨x0, x1, x2, e⟩) o (vFrom ⟨x0, x1, x2, e⟩ 2) = x) := ⟨by
               have h_ := HJ.out
               rw [vFloors_nil (by have := HI.out; omega), List.map_nil, List.nil_append] at h_
               exact ⟨HI.out.2.2.1, HI.out.2.2.2, h_⟩⟩
             clear hf HI HJ
             go_wp2
             go_roundg k1
             case measure => omega
             case rel => exact ⟨2, o, rfl, rfl, ⟨by have h_ := HJ2.out; exact ⟨by omega, by have := HK.out; omega, h_.1, h_.2.1, h_.2.2⟩⟩, HS, HG, B3⟩
       · obtain ⟨k1, rfl⟩ : ∃ k1, gk = k1 + 1 := ⟨gk - 1, by have := HO.out; omega⟩
         have HK : Aside0 (k1 + 1 + 2 = 3) := ⟨by have := HO.out; omega⟩
         have HO1 : Aside0 (vFold (hWt ⟨x0, x1, x2, e⟩) o ((vFloors (0) x2).map (fun f_ => (2, f_)) ++ vFrom ⟨x0, x1, x2, e⟩ 3) = x) := ⟨by
           have h_ := HO.out.2.2.2.2
           rw [show (2 : Int).toNat = 2 from rfl, vFrom_step _ 2 (by omega)] at h_
           exact h_⟩
         have HO2 : Aside0 (0 ≤ o ∧ o ≤ vNever) := ⟨⟨HO.out.2.2.1, HO.out.2.2.2.1⟩⟩
         have hxh : Aside0 (0 ≤ x2 ∧ x2 ≤ 8) := ⟨by have h_ := HGd.out; simp only [VGood] at h_; omega⟩
         clear HO
         have ix_ := ix99_2 wr x0 x1 x2
         go_wp2
         clear ix_
         go_loopg [8, 11] x2.toNat (fun n v8 v11 w' => ∃ f o : Int, v11 = .int .i64 f ∧ v8 = .int .i64 o ∧ Aside0 (1 ≤ f ∧ f + n = x2 + 1 ∧ 0 ≤ o ∧ o ≤ vNever) ∧ Aside0 (vFold (hWt ⟨x0, x1, x2, e⟩) o ((vFloors (f - 1) x2).map (fun f_ => (2, f_)) ++ vFrom ⟨x0, x1, x2, e⟩ 3) = x) ∧ Aside0 (Hou w' mb) ∧ Aside0 (w.grownBy w' (some mb)) ∧ Aside0 (w'.heap[gB3]? = some (.cells #[.int .i64 x0, .int .i64 x1, .int .i64 x2, .int .i64 e] 101 (0, 0))))
         case atStart => exact ⟨1, o, rfl, rfl, ⟨by have := hxh.out; have := HO2.out; omega⟩, HO1, HS, HG, B3⟩
         case round =>
           clear HS HG B3 HO1 HO2
           clear cB3_0 dB3_0 cB3_1 dB3_1 cB3_2 dB3_2 cB3_3 dB3_3
           obtain ⟨f, o, rfl, rfl, HI, HJ, HS, HG, B3⟩ := hrel
           have cB3_0 : wr.cell? ⟨gB3, 0, none⟩ = some (.int .i64 x0) := (blk_cell B3.out 0).trans rfl
           have dB3_0 := blk_frozen B3.out 0
           have cB3_1 : wr.cell? ⟨gB3, 1, none⟩ = some (.int .i64 x1) := (blk_cell B3.out 1).trans rfl
           have dB3_1 := blk_frozen B3.out 1
           have cB3_2 : wr.cell? ⟨gB3, 2, none⟩ = some (.int .i64 x2) := (blk_cell B3.out 2).trans rfl
           have dB3_2 := blk_frozen B3.out 2
           have cB3_3 : wr.cell? ⟨gB3, 3, none⟩ = some (.int .i64 e) := (blk_cell B3.out 3).trans rfl
           have dB3_3 := blk_frozen B3.out 3
           by_cases hf : f ≤ x2
           · have c1 : decide (f ≤ x2) = true := decide_eq_true hf
             have hin : VIn ⟨x0, x1, x2, e⟩ (2, f) := ⟨by show 2 < 3; omega, HI.out.1, hf⟩
             have hw1 : ∀ W : World, Hou W mb → Calls Try.prog 124 #[.map (some mb), .agg #[.int .i64 x0, .int .i64 x1, .int .i64 x2, .int .i64 e], .int .i64 2, .int .i64 f] W fun e_ w' => e_ = .returned (.int .i64 (hWt ⟨x0, x1, x2, e⟩ (2, f))) ∧ Hou w' mb ∧ W.grownBy w' (some mb) := HWt0.out HOk.out (2, f) hin
             obtain ⟨gw, hgw⟩ : ∃ gw, gw = hWt ⟨x0, x1, x2, e⟩ (2, f) := ⟨_, rfl⟩
             rw [← hgw] at hw1
             have hlo := hWt_bd ⟨x0, x1, x2, e⟩ (2, f)
             rw [← hgw] at hlo
             obtain ⟨m2, hm2⟩ : ∃ m2, m2 = min o gw := ⟨_, rfl⟩
             have hmin : (if gw < o then gw else o) = m2 := by rw [hm2]; split <;> omega
             have w1 : IntKind.i64.wrap (f + 1) = f + 1 := Hw.wrap_w (by have := HI.out; omega) (by have := HI.out; have := hxh.out; omega)
             have HJ2 : Aside0 (vFold (hWt ⟨x0, x1, x2, e⟩) m2 ((vFloors (f + 1 - 1) x2).map (fun f_ => (2, f_)) ++ vFrom ⟨x0, x1, x2, e⟩ 3) = x) := ⟨by
               have h_ := HJ.out
               rw [vFloors_cons (show f - 1 < x2 by omega), List.map_cons, List.cons_append, vFold_cons] at h_
               rw [show f - 1 + 1 = f by omega, ← hgw, ← hm2] at h_
               rw [show f + 1 - 1 = f by omega]
               exact h_⟩
             have HI2 : Aside0 (1 ≤ f + 1 ∧ f + 1 + ((gk - 1 : Nat) : Int) = x2 + 1 ∧ 0 ≤ m2 ∧ m2 ≤ vNever ∧ gk - 1 < gk) := ⟨by have := HI.out; omega⟩
             have HWt := Aside0.mk hw1
             clear hw1 hlo hm2 hgw hin hf HI HJ
             go_wp2_with (first | ((with_reducible refine gate_callee (f := 124) rfl ?_); refine goesL_ (some 47) rfl rfl Try.func124 (by kernel_rfl) rfl #[.map (some mb), .agg #[.int .i64 x0, .int .i64 x1, .int .i64 x2, .int .i64 e], .int .i64 2, .int .i64 f] rfl (by (try simp only [List.map_toArray, List.map_cons, List.map_nil]); first | done | rfl) ?_; refine (HWt.out _ HS.out).mono ?_; rintro e_ w_5 ⟨rfl, hs_, hg_⟩; refine ⟨_, rfl, ?_⟩; have n0_ : Aside0 (Hou w_5 mb) := ⟨hs_⟩; have n1_ : Aside0 (w.grownBy w_5 (some mb)) := ⟨World.grownBy.trans (by first | exact HG.out | exact Hx.g_drew HG.out | exact Hx.g_drewN HG.out _) hg_⟩; have n2_ : Aside0 (w_5.heap[gB3]? = some (.cells #[.int .i64 x0, .int .i64 x1, .int .i64 x2, .int .i64 e] 101 (0, 0))) := ⟨Hx.b_grown hg_ B3.out (by simp only [ne_eq, Option.some.injEq]; have := ORD.out; omega)⟩; (try clear cB3_0 cB3_1 cB3_2 cB3_3 dB3_0 dB3_1 dB3_2 dB3_3); (try clear HS); (try clear HG); (try clear B3); have HS := n0_; have HG := n1_; have B3 := n2_; clear n0_ n1_ n2_; have cB3_0 : w_5.cell? ⟨gB3, 0, none⟩ = some (.int .i64 x0) := (blk_cell B3.out 0).trans rfl; have dB3_0 := blk_frozen B3.out 0; have cB3_1 : w_5.cell? ⟨gB3, 1, none⟩ = some (.int .i64 x1) := (blk_cell B3.out 1).trans rfl; have dB3_1 := blk_frozen B3.out 1; have cB3_2 : w_5.cell? ⟨gB3, 2, none⟩ = some (.int .i64 x2) := (blk_cell B3.out 2).trans rfl; have dB3_2 := blk_frozen B3.out 2; have cB3_3 : w_5.cell? ⟨gB3, 3, none⟩ = some (.int .i64 e) := (blk_cell B3.out 3).trans rfl; have dB3_3 := blk_frozen B3.out 3; clear hs_ hg_))
             go_roundg (gk - 1)
             case measure => have := HI2.out; omega
             case rel => exact ⟨f + 1, m2, rfl, rfl, ⟨by have := HI2.out; omega⟩, HJ2, HS, HG, B3⟩
           · have c1 : decide (f ≤ x2) = false := decide_eq_false hf
             have HJ2 : Aside0 (0 ≤ o ∧ o ≤ vNever ∧ vFold (hWt ⟨x0, x1, x2, e⟩) o (vFrom ⟨x0, x1, x2, e⟩ 3) = x) := ⟨by
               have h_ := HJ.out
               rw [vFloors_nil (by have := HI.out; omega), List.map_nil, List.nil_append] at h_
               exact ⟨HI.out.2.2.1, HI.out.2.2.2, h_⟩⟩
             clear hf HI HJ
             go_wp2
             go_roundg k1
             case measure => omega
             case rel => exact ⟨3, o, rfl, rfl, ⟨by have h_ := HJ2.out; exact ⟨by omega, by have := HK.out; omega, h_.1, h_.2.1, h_.2.2⟩⟩, HS, HG, B3⟩
       · have hx3 : o = x := by have h_ := HO.out.2.2.2.2; exact h_
         subst hx3
         obtain ⟨w_u, hu1, hu2, hu3⟩ := HU0.out wr HS.out
         go_wp2_with (first | (at_mapUpdate; refine Hm.at_store rfl rfl _ _ _ 97 rfl mb (vCells ⟨x0, x1, x2, e⟩) (.int .i64 o) w_u rfl rfl rfl hu1 ?_))
         go_ret
         exact ⟨rfl, hu2, World.grownBy.trans HG.out hu3⟩
    · have HLk := Aside0.mk HL1
      clear HL1 HL
      have l1 := HLk.out w_1 HM.out
      have l2 := HLk.out w_1.drew HM.out
      have l3 := fun n_ => HLk.out (w_1.drewN n_) HM.out
      simp only [vCells] at l1 l2 l3
      go_wp2
      go_ret
      exact ⟨rfl, HS.out, HG.out⟩
theorem hwith_of (mb : Nat) {v : VS} (hv : VOk v) (t : Nat × Int) (ht : VIn v t) (H0 : HLeastOk mb (v.brk t.1 t.2)) (H1 : HLeastOk mb (v.whl t.1 t.2)) : HWithOk mb v t := by
  intro w hS
  have hr := hWt_bd v t
  have hr2 : IntKind.i64.wrap (1 + max (hI (v.brk t.1 t.2)) (hI (v.whl t.1 t.2))) = hWt v t := Hw.wrap_w (by unfold hWt at hr; omega) (by unfold hWt at hr; omega)
  obtain ⟨h, f⟩ := t
  obtain ⟨x0, x1, x2, e⟩ := v
  obtain ⟨hg, _, _⟩ := hv
  obtain ⟨t1, t2, t3⟩ := ht
  simp only [VGood] at hg
  simp only at t1 t2 t3
  rcases (by omega : h = 0 ∨ h = 1 ∨ h = 2) with rfl | rfl | rfl
  · exact hwith0 mb x0 x1 x2 e f _ ⟨t3, t2, hg.2.1, hg.2.2.2.2.2.2.1, hg.2.2.2.2.2.2.2⟩ _ _ hr2 H0 H1 w hS
  · exact hwith1 mb x0 x1 x2 e f _ ⟨t3, t2, hg.2.2.2.1, hg.2.2.2.2.2.2.1, hg.2.2.2.2.2.2.2⟩ _ _ hr2 H0 H1 w hS
  · exact hwith2 mb x0 x1 x2 e f _ ⟨t3, t2, hg.2.2.2.2.2.1, hg.2.2.2.2.2.2.1, hg.2.2.2.2.2.2.2⟩ _ _ hr2 H0 H1 w hS
theorem houser_ok (mb : Nat) : ∀ (n : Nat) (v : VS), VGood v → v.ms ≤ n → HLeastOk mb v
  | 0, v, hv, hn => hleast_of mb v hv (fun hok t ht => by have := (vAft hok ht).1.2; omega)
  | n + 1, v, hv, hn => hleast_of mb v hv (fun hok t ht => by
      have a := vAft hok ht
      exact hwith_of mb hok t ht (houser_ok mb n _ a.1.1 (by omega)) (houser_ok mb n _ a.2.1 (by omega)))
theorem hleast_ok (mb : Nat) (v : VS) (hv : VGood v) : HLeastOk mb v := houser_ok mb v.ms v hv (Nat.le_refl _)
theorem hwith_ok (mb : Nat) (v : VS) (hv : VOk v) (t : Nat × Int) (ht : VIn v t) : HWithOk mb v t := by
  have a := vAft hv ht
  exact hwith_of mb hv t ht (hleast_ok mb _ a.1.1) (hleast_ok mb _ a.2.1)

theorem ixg (w : World) (x0 x1 x2 e i : Int) (h0 : 0 ≤ i) (h1 : i < 3) : (Instr.index 99 (.agg #[.int .i64 x0, .int .i64 x1, .int .i64 x2]) (.int .i64 i)).run Try.prog w = .ok (.int .i64 ((⟨x0, x1, x2, e⟩ : VS).get i.toNat)) w := by
  rcases (by omega : i = 0 ∨ i = 1 ∨ i = 2) with rfl | rfl | rfl
  · exact ix99_0 w x0 x1 x2
  · exact ix99_1 w x0 x1 x2
  · exact ix99_2 w x0 x1 x2
def vLit (t : Nat × Int) : List Int := [(t.1 : Int), t.2]
def vLits (v : VS) (l : List (Nat × Int)) : List (List Int) := (l.filter fun t => decide (hWt v t = hI v)).map vLit
theorem vLits_pos (v : VS) (t : Nat × Int) (l : List (Nat × Int)) (h : hWt v t = hI v) : vLits v (t :: l) = vLit t :: vLits v l := by simp [vLits, h]
theorem vLits_neg (v : VS) (t : Nat × Int) (l : List (Nat × Int)) (h : ¬ hWt v t = hI v) : vLits v (t :: l) = vLits v l := by simp [vLits, h]
theorem vFloors_len (lo hi : Int) : (vFloors lo hi).length = (hi - lo).toNat := by simp [vFloors]
theorem vLits_len (v : VS) (hv : VGood v) : (vLits v v.tests).length ≤ 24 := by
  unfold vLits
  rw [List.length_map]
  refine Nat.le_trans (List.length_filter_le _ _) ?_
  unfold VGood at hv
  simp [VS.tests, vFrom, vRow, vFloors_len, VS.get]
  omega
theorem vget_bd {v : VS} (hv : VGood v) (h : Nat) : 0 ≤ v.get h ∧ v.get h ≤ 8 := by
  unfold VGood at hv
  unfold VS.get
  split
  · omega
  · split <;> omega
theorem vAft_need {v : VS} (hv : VGood v) {t : Nat × Int} (ht : VIn v t) : 1 ≤ v.need := by
  obtain ⟨h, f⟩ := t
  obtain ⟨t1, t2, t3⟩ := ht
  have h0 := nz_bd v.x0
  have h1 := nz_bd v.x1
  have h2 := nz_bd v.x2
  unfold VS.need
  simp only at t1 t2 t3
  rcases (by omega : h = 0 ∨ h = 1 ∨ h = 2) with rfl | rfl | rfl
  · have : nz v.x0 = 1 := if_pos (by simp [VS.get] at t3; omega)
    omega
  · have : nz v.x1 = 1 := if_pos (by simp [VS.get] at t3; omega)
    omega
  · have : nz v.x2 = 1 := if_pos (by simp [VS.get] at t3; omega)
    omega

set_option maxHeartbeats 8000000 in
set_option maxRecDepth 100000 in
theorem good_of (mb : Nat) (v : VS) (hv : VGood v) (hne : v.need ≤ v.e) (r : List (List Int)) (hr : r = vLits v v.tests) (w : World) (hS : Hou w mb) :
    Calls Try.prog 86 #[.map (some mb), vCells v] w fun e_ w' => ∃ v_ : Value, e_ = .returned v_ ∧ Kd.S (Kd.slice 3 (Kd.int .i64)) 46 w' w.heap.size (fun _ => True) v_ r ∧ Hou w' mb ∧ w.grownBy w' (some mb) := by
  have HS := Aside0.mk hS
  have HG := Aside0.mk (Hx.g_refl w (some mb))
  have HGd := Aside0.mk hv
  have HNE := Aside0.mk hne
  have hrl := vLits_len v hv
  rw [← hr] at hrl
  have HRL := Aside0.mk hrl
  have HR0 := Aside0.mk hr
  have hlsok := hleast_ok mb v hv
  unfold HLeastOk at hlsok
  obtain ⟨x, hx⟩ : ∃ x, x = hI v := ⟨_, rfl⟩
  have HX := Aside0.mk hx
  rw [← hx] at hlsok
  have HLs := Aside0.mk hlsok
  clear hS hv hne hrl hr hlsok hx
  obtain ⟨x0, x1, x2, e⟩ := v
  simp only [vCells] at HLs
  simp only at HNE
  go_enter Try.func86, Try.ntmps86
  go_upto_region 2 with (first | ((with_reducible refine gate_dst (N := 3) rfl ?_); refine box_event ?hg (N := 3) ?hd (cs := #[.int .i64 x0, .int .i64 x1, .int .i64 x2, .int .i64 e]) (t := 101) ?hr ?_; (case hd => rfl); (case hg => rfl); (case hr => first | (go_simp; done) | (go_simp; rfl)); intro gB3 hg_ w_gB3 BK_ hb_; have ORD_ : Aside0 ((True) ∧ (mb < gB3 ∧ w.heap.size ≤ gB3)) := ⟨by refine ⟨trivial, ?_⟩; (have := HS.out.lt); (have := HG.out.size); omega⟩; have ORD := ORD_; clear ORD_; have n0_ : Aside0 (Hou w_gB3 mb) := ⟨Hm.Mem.below (w := _) (by exact HS.out) hb_⟩; have n1_ : Aside0 (w.grownBy w_gB3 (some mb)) := ⟨Hx.g_below (by first | exact HG.out | exact Hx.g_drew HG.out | exact Hx.g_drewN HG.out _) hb_⟩; have m0_ : Aside0 (w_gB3.heap[gB3]? = some (.cells #[.int .i64 x0, .int .i64 x1, .int .i64 x2, .int .i64 e] 101 (0, 0))) := ⟨BK_⟩; (try clear HS); (try clear HG); have HS := n0_; have HG := n1_; have B3 := m0_; clear n0_ n1_ m0_; have cB3_0 : w_gB3.cell? ⟨gB3, 0, none⟩ = some (.int .i64 x0) := (blk_cell B3.out 0).trans rfl; have dB3_0 := blk_frozen B3.out 0; have cB3_1 : w_gB3.cell? ⟨gB3, 1, none⟩ = some (.int .i64 x1) := (blk_cell B3.out 1).trans rfl; have dB3_1 := blk_frozen B3.out 1; have cB3_2 : w_gB3.cell? ⟨gB3, 2, none⟩ = some (.int .i64 x2) := (blk_cell B3.out 2).trans rfl; have dB3_2 := blk_frozen B3.out 2; have cB3_3 : w_gB3.cell? ⟨gB3, 3, none⟩ = some (.int .i64 e) := (blk_cell B3.out 3).trans rfl; have dB3_3 := blk_frozen B3.out 3; clear hg_ BK_ hb_))
  have ca_0 : (w_gB3.alloc (Obj.cells #[] 46 (0, 0))).cell? ⟨gB3, 0, none⟩ = some (.int .i64 x0) := (blk_cell (blk_alloc B3.out _) 0).trans rfl
  have ca_1 : (w_gB3.alloc (Obj.cells #[] 46 (0, 0))).cell? ⟨gB3, 1, none⟩ = some (.int .i64 x1) := (blk_cell (blk_alloc B3.out _) 1).trans rfl
  have ca_2 : (w_gB3.alloc (Obj.cells #[] 46 (0, 0))).cell? ⟨gB3, 2, none⟩ = some (.int .i64 x2) := (blk_cell (blk_alloc B3.out _) 2).trans rfl
  have ca_3 : (w_gB3.alloc (Obj.cells #[] 46 (0, 0))).cell? ⟨gB3, 3, none⟩ = some (.int .i64 e) := (blk_cell (blk_alloc B3.out _) 3).trans rfl
  go_wp2
  clear ca_0 ca_1 ca_2 ca_3
  go_loopg [5, 12] 3 (fun n v5 v12 w' => ∃ (i : Int) (xs : List (List Int)), v12 = .int .i64 i ∧ Aside0 (0 ≤ i ∧ i + n = 3) ∧ Aside0 (xs ++ vLits (⟨x0, x1, x2, e⟩ : VS) (vFrom (⟨x0, x1, x2, e⟩ : VS) i.toNat) = r) ∧ Aside0 (Hou w' mb) ∧ Aside0 (w.grownBy w' (some mb)) ∧ Aside0 (w'.heap[gB3]? = some (.cells #[.int .i64 x0, .int .i64 x1, .int .i64 x2, .int .i64 e] 101 (0, 0))) ∧ Aside0 (Kd.S (Kd.slice 3 (Kd.int .i64)) 46 w' w.heap.size (fun k_ => gB3 < k_) v5 xs))
  case atStart =>
    refine ⟨0, [], rfl, ⟨⟨by omega, by omega⟩⟩, ⟨HR0.out.symm⟩, ⟨Hm.Mem.below HS.out (below_alloc (Below.refl _ _) _)⟩, ⟨Hx.g_alloc HG.out _⟩, ⟨blk_alloc B3.out _⟩, ⟨?_⟩⟩
    exact ⟨fun _ => 0, Hw.R_empty (Kd.tag (fun _ => 0) (Kd.slice 3 (Kd.int .i64))) 46 w_gB3 w.heap.size (fun k_ => gB3 < k_) (by have := HG.out.size; omega) (by have := blk_lt B3.out; omega)⟩
  case round =>
    clear HS HG B3
    clear cB3_0 dB3_0 cB3_1 dB3_1 cB3_2 dB3_2 cB3_3 dB3_3
    obtain ⟨i, xs, rfl, HI, HJ, HS, HG, B3, HO⟩ := hrel
    have cB3_0 : wr.cell? ⟨gB3, 0, none⟩ = some (.int .i64 x0) := (blk_cell B3.out 0).trans rfl
    have dB3_0 := blk_frozen B3.out 0
    have cB3_1 : wr.cell? ⟨gB3, 1, none⟩ = some (.int .i64 x1) := (blk_cell B3.out 1).trans rfl
    have dB3_1 := blk_frozen B3.out 1
    have cB3_2 : wr.cell? ⟨gB3, 2, none⟩ = some (.int .i64 x2) := (blk_cell B3.out 2).trans rfl
    have dB3_2 := blk_frozen B3.out 2
    have cB3_3 : wr.cell? ⟨gB3, 3, none⟩ = some (.int .i64 e) := (blk_cell B3.out 3).trans rfl
    have dB3_3 := blk_frozen B3.out 3
    by_cases hi3 : i < 3
    · have c0 : decide (i < 3) = true := decide_eq_true hi3
      obtain ⟨k1, rfl⟩ : ∃ k1, gk = k1 + 1 := ⟨gk - 1, by have := HI.out; omega⟩
      have ix_ := ixg wr x0 x1 x2 e i HI.out.1 hi3
      obtain ⟨h, hh⟩ : ∃ h : Nat, h = i.toNat := ⟨_, rfl⟩
      have HH : Aside0 ((h : Int) = i ∧ h < 3 ∧ k1 + 1 + h = 3) := ⟨by have := HI.out; omega⟩
      rw [← hh] at ix_ HJ
      obtain ⟨xh, hxh⟩ : ∃ xh, xh = (⟨x0, x1, x2, e⟩ : VS).get h := ⟨_, rfl⟩
      have hxb := vget_bd HGd.out h
      rw [← hxh] at ix_ hxb
      have HXB := Aside0.mk hxb
      have HJ1 : Aside0 (xs ++ vLits (⟨x0, x1, x2, e⟩ : VS) ((vFloors 0 xh).map (fun f_ => (h, f_)) ++ vFrom (⟨x0, x1, x2, e⟩ : VS) (h + 1)) = r) := ⟨by
        have h_ := HJ.out
        rw [vFrom_step _ h HH.out.2.1] at h_
        rw [hxh]
        exact h_⟩
      have HXH := Aside0.mk hxh
      have wi1 : IntKind.i64.wrap (i + 1) = i + 1 := Hw.wrap_w (by have := HI.out; omega) (by omega)
      clear hi3 hh hxh hxb HJ
      go_wp2
      clear ix_ c0
      go_loopg [5, 8] xh.toNat (fun n v5 v8 w' => ∃ (f : Int) (xs : List (List Int)), v8 = .int .i64 f ∧ Aside0 (1 ≤ f ∧ f + n = xh + 1) ∧ Aside0 (xs ++ vLits (⟨x0, x1, x2, e⟩ : VS) ((vFloors (f - 1) xh).map (fun f_ => (h, f_)) ++ vFrom (⟨x0, x1, x2, e⟩ : VS) (h + 1)) = r) ∧ Aside0 (Hou w' mb) ∧ Aside0 (w.grownBy w' (some mb)) ∧ Aside0 (w'.heap[gB3]? = some (.cells #[.int .i64 x0, .int .i64 x1, .int .i64 x2, .int .i64 e] 101 (0, 0))) ∧ Aside0 (Kd.S (Kd.slice 3 (Kd.int .i64)) 46 w' w.heap.size (fun k_ => gB3 < k_) v5 xs))
      case atStart => exact ⟨1, xs, rfl, ⟨by have := HXB.out; omega⟩, HJ1, HS, HG, B3, HO⟩
      case round =>
        clear HS HG B3 HJ1 HO HI
        clear cB3_0 dB3_0 cB3_1 dB3_1 cB3_2 dB3_2 cB3_3 dB3_3
        obtain ⟨f, xs, rfl, HI, HJ, HS, HG, B3, HO⟩ := hrel
        have cB3_0 : wr.cell? ⟨gB3, 0, none⟩ = some (.int .i64 x0) := (blk_cell B3.out 0).trans rfl
        have dB3_0 := blk_frozen B3.out 0
        have cB3_1 : wr.cell? ⟨gB3, 1, none⟩ = some (.int .i64 x1) := (blk_cell B3.out 1).trans rfl
        have dB3_1 := blk_frozen B3.out 1
        have cB3_2 : wr.cell? ⟨gB3, 2, none⟩ = some (.int .i64 x2) := (blk_cell B3.out 2).trans rfl
        have dB3_2 := blk_frozen B3.out 2
        have cB3_3 : wr.cell? ⟨gB3, 3, none⟩ = some (.int .i64 e) := (blk_cell B3.out 3).trans rfl
        have dB3_3 := blk_frozen B3.out 3
        by_cases hf : f ≤ xh
        · have c1 : decide (f ≤ xh) = true := decide_eq_true hf
          have hin : VIn (⟨x0, x1, x2, e⟩ : VS) (h, f) := ⟨HH.out.2.1, HI.out.1, by show f ≤ (⟨x0, x1, x2, e⟩ : VS).get h; rw [← HXH.out]; exact hf⟩
          have hok : VOk (⟨x0, x1, x2, e⟩ : VS) := ⟨HGd.out, by
            have hm := vAft_need HGd.out hin
            exact hm, HNE.out⟩
          have hw1 : ∀ W : World, Hou W mb → Calls Try.prog 124 #[.map (some mb), .agg #[.int .i64 x0, .int .i64 x1, .int .i64 x2, .int .i64 e], .int .i64 i, .int .i64 f] W fun e_ w' => e_ = .returned (.int .i64 (hWt (⟨x0, x1, x2, e⟩ : VS) (h, f))) ∧ Hou w' mb ∧ W.grownBy w' (some mb) := by
            have h_ := hwith_ok mb (⟨x0, x1, x2, e⟩ : VS) hok (h, f) hin
            unfold HWithOk at h_
            simp only [HH.out.1] at h_
            exact h_
          obtain ⟨gw, hgw⟩ : ∃ gw, gw = hWt (⟨x0, x1, x2, e⟩ : VS) (h, f) := ⟨_, rfl⟩
          rw [← hgw] at hw1
          have HWt := Aside0.mk hw1
          have wf1 : IntKind.i64.wrap (f + 1) = f + 1 := Hw.wrap_w (by have := HI.out; omega) (by have := HXB.out; omega)
          have HI2 : Aside0 (1 ≤ f + 1 ∧ f + 1 + ((gk - 1 : Nat) : Int) = xh + 1 ∧ gk - 1 < gk) := ⟨by have := HI.out; omega⟩
          have hJ := HJ.out
          rw [vFloors_cons (show f - 1 < xh by omega), List.map_cons, List.cons_append, show f - 1 + 1 = f by omega] at hJ
          by_cases hb : gw = x
          · have e0 : (gw == x) = true := by simpa using hb
            rw [vLits_pos _ _ _ (by rw [← hgw, hb]; exact HX.out)] at hJ
            obtain ⟨ys, hys⟩ : ∃ ys : List (List Int), ys = xs ++ [([i, f] : List Int)] := ⟨_, rfl⟩
            have Nys := Aside0.mk hys
            have HJ2 : Aside0 (ys ++ vLits (⟨x0, x1, x2, e⟩ : VS) ((vFloors (f + 1 - 1) xh).map (fun f_ => (h, f_)) ++ vFrom (⟨x0, x1, x2, e⟩ : VS) (h + 1)) = r) := ⟨by
              rw [show f + 1 - 1 = f by omega, hys, List.append_assoc]
              simp only [vLit, HH.out.1] at hJ
              exact hJ⟩
            have HN : Aside0 (xs.length + 1 ≤ 24) := ⟨by
              have h_ := congrArg List.length hJ
              have h2_ := HRL.out
              simp at h_
              omega⟩
            clear hw1 hgw hin hok hf HI HJ hJ hb hys
            go_upto_region 8 with fail
            go_region_held3 (fun w' => w'.cell? ⟨gB3, 0, none⟩ = some (.int .i64 x0) ∧ w'.cell? ⟨gB3, 1, none⟩ = some (.int .i64 x1) ∧ w'.cell? ⟨gB3, 2, none⟩ = some (.int .i64 x2) ∧ w'.cell? ⟨gB3, 3, none⟩ = some (.int .i64 e)) (exact ⟨cB3_0, cB3_1, cB3_2, cB3_3⟩) ((first | (skip; go_at_call 124; refine (HWt.out wr.drew (hou_drew HS.out)).mono ?_; rintro e_ w_1 ⟨rfl, hs_, hg_⟩; replace hg_ := Hx.g_undrew hg_; have n0_ : Aside0 (Hou w_1 mb) := ⟨hs_⟩; have n1_ : Aside0 (w.grownBy w_1 (some mb)) := ⟨World.grownBy.trans (by first | exact HG.out | exact Hx.g_drew HG.out | exact Hx.g_drewN HG.out _) hg_⟩; have n2_ : Aside0 (w_1.heap[gB3]? = some (.cells #[.int .i64 x0, .int .i64 x1, .int .i64 x2, .int .i64 e] 101 (0, 0))) := ⟨Hx.b_grown hg_ B3.out (by simp only [ne_eq, Option.some.injEq]; have := ORD.out; omega)⟩; have n3_ : Aside0 (Kd.S (Kd.slice 3 (Kd.int .i64)) 46 w_1 w.heap.size (fun k_ => gB3 < k_) u5 xs) := ⟨Kd.S_grown (row := some mb) HO.out hg_ (fun k_ hk_ h_ => by have := Option.some.inj h_; have := ORD.out; have h1_ : gB3 < k_ := hk_; omega)⟩; (try clear cB3_0 cB3_1 cB3_2 cB3_3 dB3_0 dB3_1 dB3_2 dB3_3); (try clear HS); (try clear HG); (try clear B3); (try clear HO); have HS := n0_; have HG := n1_; have B3 := n2_; have HO := n3_; clear n0_ n1_ n2_ n3_; have cB3_0 : w_1.cell? ⟨gB3, 0, none⟩ = some (.int .i64 x0) := (blk_cell B3.out 0).trans rfl; have dB3_0 := blk_frozen B3.out 0; have cB3_1 : w_1.cell? ⟨gB3, 1, none⟩ = some (.int .i64 x1) := (blk_cell B3.out 1).trans rfl; have dB3_1 := blk_frozen B3.out 1; have cB3_2 : w_1.cell? ⟨gB3, 2, none⟩ = some (.int .i64 x2) := (blk_cell B3.out 2).trans rfl; have dB3_2 := blk_frozen B3.out 2; have cB3_3 : w_1.cell? ⟨gB3, 3, none⟩ = some (.int .i64 e) := (blk_cell B3.out 3).trans rfl; have dB3_3 := blk_frozen B3.out 3; clear hs_ hg_) | (skip; go_at_call 125; refine (HLs.out w_1 HS.out).mono ?_; rintro e_ w_2 ⟨rfl, hs_, hg_⟩; have n0_ : Aside0 (Hou w_2 mb) := ⟨hs_⟩; have n1_ : Aside0 (w.grownBy w_2 (some mb)) := ⟨World.grownBy.trans (by first | exact HG.out | exact Hx.g_drew HG.out | exact Hx.g_drewN HG.out _) hg_⟩; have n2_ : Aside0 (w_2.heap[gB3]? = some (.cells #[.int .i64 x0, .int .i64 x1, .int .i64 x2, .int .i64 e] 101 (0, 0))) := ⟨Hx.b_grown hg_ B3.out (by simp only [ne_eq, Option.some.injEq]; have := ORD.out; omega)⟩; have n3_ : Aside0 (Kd.S (Kd.slice 3 (Kd.int .i64)) 46 w_2 w.heap.size (fun k_ => gB3 < k_) u5 xs) := ⟨Kd.S_grown (row := some mb) HO.out hg_ (fun k_ hk_ h_ => by have := Option.some.inj h_; have := ORD.out; have h1_ : gB3 < k_ := hk_; omega)⟩; (try clear cB3_0 dB3_0 cB3_1 dB3_1 cB3_2 dB3_2 cB3_3 dB3_3); (try clear HS); (try clear HG); (try clear B3); (try clear HO); have HS := n0_; have HG := n1_; have B3 := n2_; have HO := n3_; clear n0_ n1_ n2_ n3_; have cB3_0 : w_2.cell? ⟨gB3, 0, none⟩ = some (.int .i64 x0) := (blk_cell B3.out 0).trans rfl; have dB3_0 := blk_frozen B3.out 0; have cB3_1 : w_2.cell? ⟨gB3, 1, none⟩ = some (.int .i64 x1) := (blk_cell B3.out 1).trans rfl; have dB3_1 := blk_frozen B3.out 1; have cB3_2 : w_2.cell? ⟨gB3, 2, none⟩ = some (.int .i64 x2) := (blk_cell B3.out 2).trans rfl; have dB3_2 := blk_frozen B3.out 2; have cB3_3 : w_2.cell? ⟨gB3, 3, none⟩ = some (.int .i64 e) := (blk_cell B3.out 3).trans rfl; have dB3_3 := blk_frozen B3.out 3; clear hs_ hg_)))
            go_wp2_with (first | ((with_reducible refine gate_dst (N := 33) rfl ?_); refine Kd.R_lit (Kd.int .i64) _ 3 ?hg (N := 33) ?hd (xs := ([i, f] : List Int)) (inner := [.int .i64 (i), .int .i64 (f)]) (ok := fun k_ => gB3 < k_) (okp := fun k_ => gB3 < k_) ?hr ?hp (fun _ hk => hk) ?hf (Below.refl _ _) (Nat.le_refl _) (by simp) ?_; (case hd => rfl); (case hg => rfl); (case hr => first | (go_simp; done) | (go_simp; rfl)); (case hp => exact (Reps.one (show Kd.M (Kd.int .i64) _ _ _ (i) [.int .i64 (i)] from rfl) (Reps.one (show Kd.M (Kd.int .i64) _ _ _ (f) [.int .i64 (f)] from rfl) (Reps.none _ _)))); (case hf => (show gB3 < w_2.heap.size); have := ORD.out; have := HS.out.lt; have := HG.out.size; have := blk_lt B3.out; omega); intro vl_ w_3 ho_ hb_ hg_ hn_; clear hg_ hn_; have n0_ : Aside0 (Hou w_3 mb) := ⟨Hm.Mem.below (w := _) (by exact HS.out) hb_⟩; have n1_ : Aside0 (w.grownBy w_3 (some mb)) := ⟨Hx.g_below (by first | exact HG.out | exact Hx.g_drew HG.out | exact Hx.g_drewN HG.out _) hb_⟩; have n2_ : Aside0 (w_3.heap[gB3]? = some (.cells #[.int .i64 x0, .int .i64 x1, .int .i64 x2, .int .i64 e] 101 (0, 0))) := ⟨Hx.b_below hb_ B3.out⟩; have m0_ : Aside0 (Kd.S (Kd.slice 3 (Kd.int .i64)) 46 w_3 w.heap.size (fun k_ => (gB3 < k_) ∧ some k_ ≠ (vl_ : Value).ownBlock) u5 xs) := ⟨Kd.S_elder' HO.out (Kd.R_base ho_) hb_⟩; have m1_ : Aside0 (Kd.R (Kd.int .i64) 3 w_3 w.heap.size (fun k_ => gB3 < k_) vl_ ([i, f] : List Int)) := ⟨Kd.R_lower ho_ (by have := HS.out.lt; have := HG.out.size; have := blk_lt B3.out; omega)⟩; (try clear cB3_0 dB3_0 cB3_1 dB3_1 cB3_2 dB3_2 cB3_3 dB3_3); (try clear HS); (try clear HG); (try clear B3); (try clear HO); have HS := n0_; have HG := n1_; have B3 := n2_; have HO := m0_; have HL := m1_; clear n0_ n1_ n2_ m0_ m1_; have cB3_0 : w_3.cell? ⟨gB3, 0, none⟩ = some (.int .i64 x0) := (blk_cell B3.out 0).trans rfl; have dB3_0 := blk_frozen B3.out 0; have cB3_1 : w_3.cell? ⟨gB3, 1, none⟩ = some (.int .i64 x1) := (blk_cell B3.out 1).trans rfl; have dB3_1 := blk_frozen B3.out 1; have cB3_2 : w_3.cell? ⟨gB3, 2, none⟩ = some (.int .i64 x2) := (blk_cell B3.out 2).trans rfl; have dB3_2 := blk_frozen B3.out 2; have cB3_3 : w_3.cell? ⟨gB3, 3, none⟩ = some (.int .i64 e) := (blk_cell B3.out 3).trans rfl; have dB3_3 := blk_frozen B3.out 3; clear ho_ hb_; obtain ⟨Ao_, co_, eo_⟩ := Kd.R_slice HL.out; subst eo_) | ((with_reducible refine gate_builtin (b := .append) (xs := #[.tmp 30, .tmp 34]) rfl ?_); at_builtin; refine Kd.S_append (Kd.slice 3 (Kd.int .i64)) (w0 := w_3) w.heap.size rfl (.tmp 30) (.tmp 34) 30 46 (.slice none 0 0) 24 rfl Try.underlying30 info46 rfl (by decide) (by omega) u5 xs ([i, f] : List Int) [(.slice Ao_ ([i, f] : List Int).length co_)] (fun k_ => gB3 < k_) (fun k_ => some k_ = ((.slice Ao_ ([i, f] : List Int).length co_) : Value).ownBlock) rfl rfl ?aP (fun k_ hk_ => (Kd.R_mono (ok' := fun k_ => (gB3 < k_) ∧ some k_ ≠ (u5 : Value).ownBlock) (Kd.R_apart' HL.out (Kd.S_typed HO.out) (by decide)) (fun k_ hk => hk)).1 k_ hk_.symm) ?aF ?aO ?aB ?aS ?aL ?_; (case aP => exact Kd.M_row (Kd.R_mono (Kd.R_tight rfl (Kd.R_mono (ok' := fun k_ => (gB3 < k_) ∧ some k_ ≠ (u5 : Value).ownBlock) (Kd.R_apart' HL.out (Kd.S_typed HO.out) (by decide)) (fun k_ hk => hk))) (fun _ h_ => h_))); (case aB => exact Below.refl _ _); (case aF => exact (fun k_ hk_ => by have := ORD.out; have := HS.out.lt; have := HG.out.size; have := blk_lt B3.out; show gB3 < k_; omega)); (case aO => exact Kd.S_mono HO.out (fun k_ hk => ⟨hk.1, fun e_ => hk.2 e_⟩)); (case aS => exact (by have := HS.out.lt; have := HG.out.size; have := blk_lt B3.out; omega)); (case aL => have := HS.out.lt; have := HG.out.size; have := blk_lt B3.out; have := HN.out; omega); intro v_ w_4 ho_ hb_ hg_ hat_; rw [← Nys.out] at ho_; have n0_ : Aside0 (Hou w_4 mb) := ⟨Hm.Mem.same HS.out (World.grownBy.block hg_ mb (Hm.Mem.lt HS.out) (fun h_ => by have h2_ : gB3 < mb := ((Kd.S_R HO.out).1 _ h_.symm).1; have := ORD.out; omega))⟩; have n1_ : Aside0 (w.grownBy w_4 (some mb)) := ⟨Hx.g_append (by first | exact HG.out | exact Hx.g_drew HG.out | exact Hx.g_drewN HG.out _) hg_ (fun k_ h_ => by have h2_ : gB3 < k_ := ((Kd.S_R HO.out).1 _ h_).1; have := ORD.out; omega)⟩; have n2_ : Aside0 (w_4.heap[gB3]? = some (.cells #[.int .i64 x0, .int .i64 x1, .int .i64 x2, .int .i64 e] 101 (0, 0))) := ⟨Hx.b_grown hg_ B3.out (fun h_ => by have h2_ : gB3 < gB3 := ((Kd.S_R HO.out).1 _ h_.symm).1; have := ORD.out; omega)⟩; have m0_ : Aside0 (Kd.S (Kd.slice 3 (Kd.int .i64)) 46 w_4 w.heap.size (fun k_ => gB3 < k_) v_ ys) := ⟨ho_⟩; (try clear cB3_0 dB3_0 cB3_1 dB3_1 cB3_2 dB3_2 cB3_3 dB3_3); (try clear HS); (try clear HG); (try clear B3); (try clear HO); (try clear HL); have HS := n0_; have HG := n1_; have B3 := n2_; have HO := m0_; clear n0_ n1_ n2_ m0_; have cB3_0 : w_4.cell? ⟨gB3, 0, none⟩ = some (.int .i64 x0) := (blk_cell B3.out 0).trans rfl; have dB3_0 := blk_frozen B3.out 0; have cB3_1 : w_4.cell? ⟨gB3, 1, none⟩ = some (.int .i64 x1) := (blk_cell B3.out 1).trans rfl; have dB3_1 := blk_frozen B3.out 1; have cB3_2 : w_4.cell? ⟨gB3, 2, none⟩ = some (.int .i64 x2) := (blk_cell B3.out 2).trans rfl; have dB3_2 := blk_frozen B3.out 2; have cB3_3 : w_4.cell? ⟨gB3, 3, none⟩ = some (.int .i64 e) := (blk_cell B3.out 3).trans rfl; have dB3_3 := blk_frozen B3.out 3; clear ho_ hb_ hg_ hat_))
            go_roundg (gk - 1)
            case measure => have := HI2.out; omega
            case rel => exact ⟨f + 1, ys, rfl, ⟨⟨HI2.out.1, HI2.out.2.1⟩⟩, HJ2, HS, HG, B3, HO⟩
          · have e0 : (gw == x) = false := by simpa using hb
            rw [vLits_neg _ _ _ (by rw [← hgw, ← HX.out]; exact hb)] at hJ
            have HJ2 : Aside0 (xs ++ vLits (⟨x0, x1, x2, e⟩ : VS) ((vFloors (f + 1 - 1) xh).map (fun f_ => (h, f_)) ++ vFrom (⟨x0, x1, x2, e⟩ : VS) (h + 1)) = r) := ⟨by
              rw [show f + 1 - 1 = f by omega]
              exact hJ⟩
            clear hw1 hgw hin hok hf HI HJ hJ hb
            go_upto_region 8 with fail
            go_region_held3 (fun w' => w'.cell? ⟨gB3, 0, none⟩ = some (.int .i64 x0) ∧ w'.cell? ⟨gB3, 1, none⟩ = some (.int .i64 x1) ∧ w'.cell? ⟨gB3, 2, none⟩ = some (.int .i64 x2) ∧ w'.cell? ⟨gB3, 3, none⟩ = some (.int .i64 e)) (exact ⟨cB3_0, cB3_1, cB3_2, cB3_3⟩) ((first | (skip; go_at_call 124; refine (HWt.out wr.drew (hou_drew HS.out)).mono ?_; rintro e_ w_1 ⟨rfl, hs_, hg_⟩; replace hg_ := Hx.g_undrew hg_; have n0_ : Aside0 (Hou w_1 mb) := ⟨hs_⟩; have n1_ : Aside0 (w.grownBy w_1 (some mb)) := ⟨World.grownBy.trans (by first | exact HG.out | exact Hx.g_drew HG.out | exact Hx.g_drewN HG.out _) hg_⟩; have n2_ : Aside0 (w_1.heap[gB3]? = some (.cells #[.int .i64 x0, .int .i64 x1, .int .i64 x2, .int .i64 e] 101 (0, 0))) := ⟨Hx.b_grown hg_ B3.out (by simp only [ne_eq, Option.some.injEq]; have := ORD.out; omega)⟩; have n3_ : Aside0 (Kd.S (Kd.slice 3 (Kd.int .i64)) 46 w_1 w.heap.size (fun k_ => gB3 < k_) u5 xs) := ⟨Kd.S_grown (row := some mb) HO.out hg_ (fun k_ hk_ h_ => by have := Option.some.inj h_; have := ORD.out; have h1_ : gB3 < k_ := hk_; omega)⟩; (try clear cB3_0 cB3_1 cB3_2 cB3_3 dB3_0 dB3_1 dB3_2 dB3_3); (try clear HS); (try clear HG); (try clear B3); (try clear HO); have HS := n0_; have HG := n1_; have B3 := n2_; have HO := n3_; clear n0_ n1_ n2_ n3_; have cB3_0 : w_1.cell? ⟨gB3, 0, none⟩ = some (.int .i64 x0) := (blk_cell B3.out 0).trans rfl; have dB3_0 := blk_frozen B3.out 0; have cB3_1 : w_1.cell? ⟨gB3, 1, none⟩ = some (.int .i64 x1) := (blk_cell B3.out 1).trans rfl; have dB3_1 := blk_frozen B3.out 1; have cB3_2 : w_1.cell? ⟨gB3, 2, none⟩ = some (.int .i64 x2) := (blk_cell B3.out 2).trans rfl; have dB3_2 := blk_frozen B3.out 2; have cB3_3 : w_1.cell? ⟨gB3, 3, none⟩ = some (.int .i64 e) := (blk_cell B3.out 3).trans rfl; have dB3_3 := blk_frozen B3.out 3; clear hs_ hg_) | (skip; go_at_call 125; refine (HLs.out w_1 HS.out).mono ?_; rintro e_ w_2 ⟨rfl, hs_, hg_⟩; have n0_ : Aside0 (Hou w_2 mb) := ⟨hs_⟩; have n1_ : Aside0 (w.grownBy w_2 (some mb)) := ⟨World.grownBy.trans (by first | exact HG.out | exact Hx.g_drew HG.out | exact Hx.g_drewN HG.out _) hg_⟩; have n2_ : Aside0 (w_2.heap[gB3]? = some (.cells #[.int .i64 x0, .int .i64 x1, .int .i64 x2, .int .i64 e] 101 (0, 0))) := ⟨Hx.b_grown hg_ B3.out (by simp only [ne_eq, Option.some.injEq]; have := ORD.out; omega)⟩; have n3_ : Aside0 (Kd.S (Kd.slice 3 (Kd.int .i64)) 46 w_2 w.heap.size (fun k_ => gB3 < k_) u5 xs) := ⟨Kd.S_grown (row := some mb) HO.out hg_ (fun k_ hk_ h_ => by have := Option.some.inj h_; have := ORD.out; have h1_ : gB3 < k_ := hk_; omega)⟩; (try clear cB3_0 dB3_0 cB3_1 dB3_1 cB3_2 dB3_2 cB3_3 dB3_3); (try clear HS); (try clear HG); (try clear B3); (try clear HO); have HS := n0_; have HG := n1_; have B3 := n2_; have HO := n3_; clear n0_ n1_ n2_ n3_; have cB3_0 : w_2.cell? ⟨gB3, 0, none⟩ = some (.int .i64 x0) := (blk_cell B3.out 0).trans rfl; have dB3_0 := blk_frozen B3.out 0; have cB3_1 : w_2.cell? ⟨gB3, 1, none⟩ = some (.int .i64 x1) := (blk_cell B3.out 1).trans rfl; have dB3_1 := blk_frozen B3.out 1; have cB3_2 : w_2.cell? ⟨gB3, 2, none⟩ = some (.int .i64 x2) := (blk_cell B3.out 2).trans rfl; have dB3_2 := blk_frozen B3.out 2; have cB3_3 : w_2.cell? ⟨gB3, 3, none⟩ = some (.int .i64 e) := (blk_cell B3.out 3).trans rfl; have dB3_3 := blk_frozen B3.out 3; clear hs_ hg_)))
            go_wp2
            go_roundg (gk - 1)
            case measure => have := HI2.out; omega
            case rel => exact ⟨f + 1, xs, rfl, ⟨⟨HI2.out.1, HI2.out.2.1⟩⟩, HJ2, HS, HG, B3, HO⟩
        · have c1 : decide (f ≤ xh) = false := decide_eq_false hf
          have HJ2 : Aside0 (xs ++ vLits (⟨x0, x1, x2, e⟩ : VS) (vFrom (⟨x0, x1, x2, e⟩ : VS) (h + 1)) = r) := ⟨by
            have h_ := HJ.out
            rw [vFloors_nil (by have := HI.out; omega), List.map_nil, List.nil_append] at h_
            exact h_⟩
          clear hf HI HJ
          go_wp2
          go_roundg k1
          case measure => omega
          case rel => exact ⟨i + 1, xs, rfl, ⟨by have := HH.out; omega⟩, ⟨by rw [show (i + 1).toNat = h + 1 by have := HH.out; omega]; exact HJ2.out⟩, HS, HG, B3, HO⟩
    · have c0 : decide (i < 3) = false := decide_eq_false hi3
      have hxs : xs = r := by
        have h_ := HJ.out
        rw [show i.toNat = 3 by have := HI.out; omega] at h_
        simpa [vFrom, vLits] using h_
      subst hxs
      clear hi3
      go_wp2
      go_ret
      exact ⟨_, rfl, Kd.S_mono HO.out (fun _ _ => trivial), HS.out, HG.out⟩
def vFirst (v : VS) : Nat × Int := (vGood v).headD (0, 0)
theorem vFirst_mem {v : VS} (hv : VOk v) : vFirst v ∈ vGood v := by
  have hne := vGood_ne hv
  unfold vFirst
  cases hg : vGood v with
  | nil => exact absurd hg hne
  | cons t ts => simp
theorem vLits_first {v : VS} (hv : VOk v) : ∃ ys, [((vFirst v).1 : Int), (vFirst v).2] :: ys = vLits v v.tests := by
  have hne := vGood_ne hv
  unfold vLits vFirst
  show ∃ ys, _ = (vGood v).map vLit
  cases hg : vGood v with
  | nil => exact absurd hg hne
  | cons t ts => exact ⟨ts.map vLit, rfl⟩
theorem hI_small {v : VS} (hv : VGood v) (h : hI v ≤ 24) : v.need ≤ v.e := by
  by_cases hc : v.need ≤ v.e
  · exact hc
  · have hn := need_lo v
    have he : 0 ≤ v.e := by unfold VGood at hv; omega
    have := hI_never hv (by omega) (by omega)
    have hk : vNever = 1125899906842624 := rfl
    omega
theorem vFirst_ok {v : VS} (hv : VOk v) : VIn v (vFirst v) ∧ (VGood (v.brk (vFirst v).1 (vFirst v).2) ∧ (v.brk (vFirst v).1 (vFirst v).2).need ≤ (v.brk (vFirst v).1 (vFirst v).2).e ∧ (v.brk (vFirst v).1 (vFirst v).2).ms < v.ms) ∧ VGood (v.whl (vFirst v).1 (vFirst v).2) ∧ (v.whl (vFirst v).1 (vFirst v).2).need ≤ (v.whl (vFirst v).1 (vFirst v).2).e ∧ (v.whl (vFirst v).1 (vFirst v).2).ms < v.ms := by
  have hm := List.mem_filter.1 (show vFirst v ∈ v.tests.filter _ from vFirst_mem hv)
  have ht := mem_vTests hm.1
  have a := vAft hv ht
  have hw : hWt v (vFirst v) = hI v := by simpa using hm.2
  have hb : hI v ≤ 24 := by
    have h1 := hI_able v.ms v hv.1 hv.2.2 (Nat.le_refl _)
    have hms : v.ms ≤ 24 := by have := hv.1; unfold VGood at this; unfold VS.ms; omega
    omega
  unfold hWt at hw
  exact ⟨ht, ⟨a.1.1, hI_small a.1.1 (by omega), a.1.2⟩, a.2.1, hI_small a.2.1 (by omega), a.2.2⟩
def upd (lw : Nat → Int) (h : Nat) (x : Int) : Nat → Int := fun i => if i = h then x else lw i
def VS.nxt (v : VS) (br : Bool) : VS := if br then v.brk (vFirst v).1 (vFirst v).2 else v.whl (vFirst v).1 (vFirst v).2
def hLow (v : VS) (lw : Nat → Int) (br : Bool) : Nat → Int := if br then lw else upd lw (vFirst v).1 (lw (vFirst v).1 + (vFirst v).2)
def hBrk (bs : List Int) (v : VS) (lw : Nat → Int) : Bool := decide (bs.getD (vFirst v).1 0 < lw (vFirst v).1 + (vFirst v).2)
/-- The drops of a plan. -/
def hPlay (bs : List Int) : Nat → VS → (Nat → Int) → List S104
  | 0, _, _ => []
  | n + 1, v, lw => if v.need = 0 then [] else ⟨((vFirst v).1 : Int), lw (vFirst v).1 + (vFirst v).2, hBrk bs v lw⟩ :: hPlay bs n (v.nxt (hBrk bs v lw)) (hLow v lw (hBrk bs v lw))
theorem vget_brk (v : VS) (h i : Nat) (f : Int) (hi : i < 3) (hh : h < 3) : (v.brk h f).get i = if i = h then f - 1 else v.get i := by
  rcases (by omega : h = 0 ∨ h = 1 ∨ h = 2) with rfl | rfl | rfl <;> rcases (by omega : i = 0 ∨ i = 1 ∨ i = 2) with rfl | rfl | rfl <;> simp [VS.brk, VS.get]
theorem vget_whl (v : VS) (h i : Nat) (f : Int) (hi : i < 3) (hh : h < 3) : (v.whl h f).get i = if i = h then v.get i - f else v.get i := by
  rcases (by omega : h = 0 ∨ h = 1 ∨ h = 2) with rfl | rfl | rfl <;> rcases (by omega : i = 0 ∨ i = 1 ∨ i = 2) with rfl | rfl | rfl <;> simp [VS.whl, VS.get]
/-- What holds of a village and of the floors that are safe, while a plan is played. -/
def PGood (m : Nat) (v : VS) (lw : Nat → Int) : Prop := VGood v ∧ v.need ≤ v.e ∧ (∀ h, h < 3 → 0 ≤ lw h ∧ lw h + v.get h ≤ 8) ∧ ∀ h, h < 3 → m ≤ h → v.get h = 0
theorem PGood.ok {m : Nat} {v : VS} {lw : Nat → Int} (h : PGood m v lw) (hn : v.need ≠ 0) : VOk v := ⟨h.1, by have := need_lo v; omega, h.2.1⟩
theorem PGood.lt {m : Nat} {v : VS} {lw : Nat → Int} (h : PGood m v lw) (hn : v.need ≠ 0) : (vFirst v).1 < m ∧ (vFirst v).1 < 3 ∧ 1 ≤ (vFirst v).2 ∧ (vFirst v).2 ≤ v.get (vFirst v).1 ∧ v.get (vFirst v).1 ≤ 8 ∧ 0 ≤ lw (vFirst v).1 ∧ lw (vFirst v).1 + (vFirst v).2 ≤ 8 := by
  have a := (vFirst_ok (h.ok hn)).1
  have b := h.2.2.1 _ a.1
  refine ⟨?_, a.1, a.2.1, a.2.2, by omega, b.1, by have := a.2.2; omega⟩
  by_cases hc : (vFirst v).1 < m
  · exact hc
  · have := h.2.2.2 _ a.1 (by omega)
    have := a.2.1
    have := a.2.2
    omega
theorem PGood.nxt {m : Nat} {v : VS} {lw : Nat → Int} (h : PGood m v lw) (hn : v.need ≠ 0) (br : Bool) : PGood m (v.nxt br) (hLow v lw br) ∧ (v.nxt br).ms < v.ms := by
  have a := vFirst_ok (h.ok hn)
  have l := h.lt hn
  cases br with
  | true =>
    refine ⟨⟨a.2.1.1, a.2.1.2.1, fun i hi => ?_, fun i hi hm => ?_⟩, a.2.1.2.2⟩
    · have := h.2.2.1 i hi
      show 0 ≤ lw i ∧ lw i + (v.brk _ _).get i ≤ 8
      rw [vget_brk v _ i _ hi l.2.1]
      split
      · rename_i e; subst e; omega
      · exact this
    · have := h.2.2.2 i hi hm
      show (v.brk _ _).get i = 0
      rw [vget_brk v _ i _ hi l.2.1, if_neg (by omega)]
      exact this
  | false =>
    refine ⟨⟨a.2.2.1, a.2.2.2.1, fun i hi => ?_, fun i hi hm => ?_⟩, a.2.2.2.2⟩
    · have := h.2.2.1 i hi
      show 0 ≤ upd lw _ _ i ∧ upd lw _ _ i + (v.whl _ _).get i ≤ 8
      rw [vget_whl v _ i _ hi l.2.1]
      unfold upd
      split
      · rename_i e; subst e; omega
      · exact this
    · have := h.2.2.2 i hi hm
      show (v.whl _ _).get i = 0
      rw [vget_whl v _ i _ hi l.2.1, if_neg (by omega)]
      exact this
theorem hPlay_len (bs : List Int) : ∀ (n : Nat) (v : VS) (lw : Nat → Int), (hPlay bs n v lw).length ≤ n
  | 0, v, lw => by simp [hPlay]
  | n + 1, v, lw => by
    unfold hPlay
    split
    · simp
    · have := hPlay_len bs n (v.nxt (hBrk bs v lw)) (hLow v lw (hBrk bs v lw))
      simp
      omega
theorem row_first {W : World} {base : Nat} {ok : Nat → Prop} {v : Value} {y : List Int} {ys : List (List Int)} (h : Kd.S (Kd.slice 3 (Kd.int .i64)) 46 W base ok v (y :: ys)) :
    ∃ (g c : Nat) (A1 : Option Addr) (c1 : Nat), v = .slice (some ⟨g, 0, none⟩) (ys.length + 1) c ∧ W.cell? ⟨g, 0, none⟩ = some (.slice A1 y.length c1) ∧ Kd.R (Kd.int .i64) 3 W base (fun _ => True) (.slice A1 y.length c1) y := by
  obtain ⟨g, cap, rfl, _, _, _⟩ := Kd.S_form h (by simp)
  obtain ⟨ce, hce, hMe, hcc⟩ := Kd.S_get h [] 0 (by omega) (by simp)
  obtain ⟨v, rfl, hr⟩ := hMe
  have hr' : Kd.R (Kd.int .i64) 3 W base (fun _ => True) v y := Kd.R_mono hr (fun _ _ => trivial)
  obtain ⟨A1, c1, rfl⟩ := Kd.R_slice hr'
  exact ⟨g, cap, A1, c1, rfl, hcc 0 _ rfl, hr'⟩
theorem row_two {W : World} {base : Nat} {ok : Nat → Prop} {A : Option Addr} {c : Nat} {a b : Int} (h : Kd.R (Kd.int .i64) 3 W base ok (.slice A [a, b].length c) [a, b]) :
    ∃ (g : Nat) (C : Array Value), A = some ⟨g, 0, none⟩ ∧ base ≤ g ∧ W.heap[g]? = some (.cells C 3 (0, 0)) ∧ C[0]? = some (.int .i64 a) ∧ C[1]? = some (.int .i64 b) := by
  obtain ⟨g, cap, e, h1, h2, C, hC⟩ := Kd.R_form h (by simp)
  injection e with e1 _ _
  subst e1
  obtain ⟨x0, _⟩ := Kd.R_celln 0 h 0 (by omega) (by simp)
  obtain ⟨x1, _⟩ := Kd.R_celln 0 h 1 (by omega) (by simp)
  exact ⟨g, C, rfl, h1, hC, (blk_cell hC 0).symm.trans x0, (blk_cell hC 1).symm.trans x1⟩
theorem parts_all (v : VS) (t : Nat × Int) (hv : VGood v) (ht : VIn v t) (w : World) :
    Calls Try.prog 127 #[vCells v, .int .i64 (t.1 : Int), .int .i64 t.2] w fun e_ w' => e_ = .returned (.tuple #[vCells (v.brk t.1 t.2), vCells (v.whl t.1 t.2)]) ∧ Below w.heap.size w w' := by
  obtain ⟨h, f⟩ := t
  obtain ⟨x0, x1, x2, e⟩ := v
  obtain ⟨t1, t2, t3⟩ := ht
  simp only [VGood] at hv
  simp only at t1 t2 t3
  rcases (by omega : h = 0 ∨ h = 1 ∨ h = 2) with rfl | rfl | rfl
  · exact parts0.calls x0 x1 x2 e f w ⟨t3, t2, hv.2.1, hv.2.2.2.2.2.2.1, hv.2.2.2.2.2.2.2⟩
  · exact parts1.calls x0 x1 x2 e f w ⟨t3, t2, hv.2.2.2.1, hv.2.2.2.2.2.2.1, hv.2.2.2.2.2.2.2⟩
  · exact parts2.calls x0 x1 x2 e f w ⟨t3, t2, hv.2.2.2.2.2.1, hv.2.2.2.2.2.2.1, hv.2.2.2.2.2.2.2⟩
def lowA (lw : Nat → Int) : Array Value := #[.int .i64 (lw 0), .int .i64 (lw 1), .int .i64 (lw 2)]
theorem lowA_get (lw : Nat → Int) {h : Nat} (hh : h < 3) : (lowA lw)[h]? = some (.int .i64 (lw h)) := by
  rcases (by omega : h = 0 ∨ h = 1 ∨ h = 2) with rfl | rfl | rfl <;> rfl
theorem lowA_set (lw : Nat → Int) {h : Nat} (hh : h < 3) (x : Int) : (lowA lw).setIfInBounds h (.int .i64 x) = lowA (upd lw h x) := by
  rcases (by omega : h = 0 ∨ h = 1 ∨ h = 2) with rfl | rfl | rfl <;> simp [lowA, upd]


end Go.Proofs.Ytoomacelbhojhaa.U
