/- Plain Lean functions with the answers of Go functions, and proofs of it: printed by a program of this session (pr.py) over the kit's print, with hand-written parts. -/
import Derived.Test.YtoomacelbhojhaaGx0
import Derived.Test.YtoomacelbhojhaaGx2
import Derived.Test.YtoomacelbhojhaaGx3
import Derived.Test.YtoomacelbhojhaaGx4
import Derived.Test.YtoomacelbhojhaaGx5
import Derived.Test.YtoomacelbhojhaaGx6
namespace Go.Proofs.Ytoomacelbhojhaa.G
open Go.RowKit Go.Proofs.YtoomacelbhojhaaW.PrintWords Go.Proofs.YtoomacelbhojhaaW.PrintLast Go.Proofs.YtoomacelbhojhaaW.PrintMore
attribute [local go_sem] max2_int min2_int max_two min_two max_three min_three max_four min_four   -- for this text's walks alone
set_option linter.unusedVariables false
set_option linter.unusedSimpArgs false

-- FOR impl.villageOf
-- CALLS (impl.village).parts

theorem wpc_copy {P : Program} (w : World) {ops : Array Oper} {rest : List Oper} {o : Oper} {a : Act} {Q : Exit → Act → World → Prop} (hgd : o.guard = none) (d s : Operand) (t t' : TypeId)
    (ho : o.op = .call { callee := .builtin .copy, args := #[d, s], argTypes := #[t, t'] }) (v u : Value) (hd : a.eval d = v) (hs : a.eval s = u) {v' : Value} {w' : World}
    (hr : (Builtin.copy_ #[t, t'] o.type #[v, u]).run P w = .ok v' w') (h : wpList P ops Q rest (a.put o.dst v') w') : wpList P ops Q (o :: rest) a w := by
  refine wpList_plain hgd fun K hK => ?_
  unfold Oper.wp execOp
  simp only [ho, resolve, invoke, builtin, Sem.run_bind, Sem.run_pure, Result.andThen_ok, List.map_toArray, List.map_cons, List.map_nil, hd, hs, hr]
  exact hK _ _ h

theorem cpy1 (g : Nat) (W : World) {e : Int} {cc : Nat} {A : Option Addr} {a0 : Int} (hb : W.heap[g]? = some (.cells #[.int .i64 0, .int .i64 0, .int .i64 0, .int .i64 e] 101 (0, 0))) (hC : Kd.C (Kd.int .i64) W A 1 [a0]) (ty : TypeId) :
    (Builtin.copy_ #[46, 46] ty #[.slice (some ⟨g, 0, none⟩) 3 3, .slice A 1 cc]).run Try.prog W = .ok (.int .i64 1) ((W).setCell ⟨g, 0, none⟩ (.int .i64 a0)) := by
  obtain ⟨_, _, hA⟩ := Kd.reads_of_C (enc := Value.int .i64) (d := (0 : Int)) (h1 := fun _ => rfl) hC
  obtain ⟨ad, rfl, hc⟩ := hA (by decide)
  have h_ := run_copy_cells (P := Try.prog) W 46 46 ty 3 g 0 3 3 ad 1 cc [.int .i64 a0] Try.underlying46 (by kernel_rfl) rfl (by
    intro j u hu
    match j, hu with
    | 0, hu => exact (hc 0 (by decide)).trans hu
    | k + 1, hu => simp at hu) (by
    intro j hj
    match j, hj with
    | 0, hj => rw [show (⟨g, 0 + 0, none⟩ : Addr) = ⟨g, 0, none⟩ by simp, (blk_cell hb 0).trans rfl]; rfl
    | k + 1, hj => exact absurd hj (by simp)) (fun j _ => blk_frozen hb _) (by simp [Value.oneCell'])
  exact h_

set_option maxHeartbeats 8000000 in
set_option maxRecDepth 100000 in
theorem villageOf1 (e : Int) (A : Option Addr) (cc : Nat) (a0 : Int) (w : World) (hC : Kd.C (Kd.int .i64) w A 1 [a0]) :
    Calls Try.prog 87 #[.int .i64 e, .slice A 1 cc] w fun e_ w' => e_ = .returned (vCells (vOf e [a0])) ∧ Below w.heap.size w w' := by
  have HC0 := Aside0.mk hC
  have HB := Aside0.mk (Below.refl w.heap.size w)
  clear hC
  go_enter Try.func87, Try.ntmps87
  go_upto_region 2 with (first | ((with_reducible refine gate_dst (N := 4) rfl ?_); refine box_event ?hg (N := 4) ?hd (cs := #[.int .i64 0, .int .i64 0, .int .i64 0, .int .i64 0]) (t := 101) ?hr ?_; (case hd => rfl); (case hg => rfl); (case hr => first | (go_simp; done) | (go_simp; rfl)); intro gB4 hg_ w_gB4 BK_ hb_; have ORD_ : Aside0 ((True) ∧ (w.heap.size ≤ gB4)) := ⟨by refine ⟨trivial, ?_⟩; (have := HB.out.size); omega⟩; have ORD := ORD_; clear ORD_; have n0_ : Aside0 (Below w.heap.size w w_gB4) := ⟨Hx.bb_below hb_ (by first | exact HB.out | exact below_drew1 HB.out | exact pw_below_drewN HB.out _)⟩; have m0_ : Aside0 (w_gB4.heap[gB4]? = some (.cells #[.int .i64 0, .int .i64 0, .int .i64 0, .int .i64 0] 101 (0, 0))) := ⟨BK_⟩; (try clear HB); have HB := n0_; have B4 := m0_; clear n0_ m0_; have cB4_0 : w_gB4.cell? ⟨gB4, 0, none⟩ = some (.int .i64 0) := (blk_cell B4.out 0).trans rfl; have dB4_0 := blk_frozen B4.out 0; have cB4_1 : w_gB4.cell? ⟨gB4, 1, none⟩ = some (.int .i64 0) := (blk_cell B4.out 1).trans rfl; have dB4_1 := blk_frozen B4.out 1; have cB4_2 : w_gB4.cell? ⟨gB4, 2, none⟩ = some (.int .i64 0) := (blk_cell B4.out 2).trans rfl; have dB4_2 := blk_frozen B4.out 2; have cB4_3 : w_gB4.cell? ⟨gB4, 3, none⟩ = some (.int .i64 0) := (blk_cell B4.out 3).trans rfl; have dB4_3 := blk_frozen B4.out 3; clear hg_ BK_ hb_) | ((with_reducible refine gate_dst (N := 5) rfl ?_); refine box_event ?hg (N := 5) ?hd (cs := #[.int .i64 0, .int .i64 0, .int .i64 0, .int .i64 0]) (t := 101) ?hr ?_; (case hd => rfl); (case hg => rfl); (case hr => first | (go_simp; done) | (go_simp; rfl)); intro gB5 hg_ w_gB5 BK_ hb_; have ORD_ : Aside0 (((True) ∧ (w.heap.size ≤ gB4)) ∧ (gB4 < gB5 ∧ w.heap.size ≤ gB5)) := ⟨by refine ⟨ORD.out, ?_⟩; (have := HB.out.size); (have := blk_lt B4.out); omega⟩; clear ORD; have ORD := ORD_; clear ORD_; have n0_ : Aside0 (Below w.heap.size w w_gB5) := ⟨Hx.bb_below hb_ (by first | exact HB.out | exact below_drew1 HB.out | exact pw_below_drewN HB.out _)⟩; have n1_ : Aside0 (w_gB5.heap[gB4]? = some (.cells #[.int .i64 0, .int .i64 0, .int .i64 0, .int .i64 0] 101 (0, 0))) := ⟨Hx.b_below hb_ B4.out⟩; have m0_ : Aside0 (w_gB5.heap[gB5]? = some (.cells #[.int .i64 0, .int .i64 0, .int .i64 0, .int .i64 0] 101 (0, 0))) := ⟨BK_⟩; (try clear cB4_0 dB4_0 cB4_1 dB4_1 cB4_2 dB4_2 cB4_3 dB4_3); (try clear HB); (try clear B4); have HB := n0_; have B4 := n1_; have B5 := m0_; clear n0_ n1_ m0_; have cB4_0 : w_gB5.cell? ⟨gB4, 0, none⟩ = some (.int .i64 0) := (blk_cell B4.out 0).trans rfl; have dB4_0 := blk_frozen B4.out 0; have cB4_1 : w_gB5.cell? ⟨gB4, 1, none⟩ = some (.int .i64 0) := (blk_cell B4.out 1).trans rfl; have dB4_1 := blk_frozen B4.out 1; have cB4_2 : w_gB5.cell? ⟨gB4, 2, none⟩ = some (.int .i64 0) := (blk_cell B4.out 2).trans rfl; have dB4_2 := blk_frozen B4.out 2; have cB4_3 : w_gB5.cell? ⟨gB4, 3, none⟩ = some (.int .i64 0) := (blk_cell B4.out 3).trans rfl; have dB4_3 := blk_frozen B4.out 3; have cB5_0 : w_gB5.cell? ⟨gB5, 0, none⟩ = some (.int .i64 0) := (blk_cell B5.out 0).trans rfl; have dB5_0 := blk_frozen B5.out 0; have cB5_1 : w_gB5.cell? ⟨gB5, 1, none⟩ = some (.int .i64 0) := (blk_cell B5.out 1).trans rfl; have dB5_1 := blk_frozen B5.out 1; have cB5_2 : w_gB5.cell? ⟨gB5, 2, none⟩ = some (.int .i64 0) := (blk_cell B5.out 2).trans rfl; have dB5_2 := blk_frozen B5.out 2; have cB5_3 : w_gB5.cell? ⟨gB5, 3, none⟩ = some (.int .i64 0) := (blk_cell B5.out 3).trans rfl; have dB5_3 := blk_frozen B5.out 3; clear hg_ BK_ hb_) | ((with_reducible refine gate_store (t := 101) (p := 5) rfl ?_); refine store_event (t := 101) (p := 5) (v := ?vo_w1) (w1 := (((((w_gB5).setCell ⟨gB5, 0, none⟩ (.int .i64 0)).setCell ⟨gB5, 1, none⟩ (.int .i64 0)).setCell ⟨gB5, 2, none⟩ (.int .i64 0)).setCell ⟨gB5, 3, none⟩ (.int .i64 e))) ?hg ?ho ?hn ?hr ?_; (case ho => rfl); (case hg => rfl); (case hn => rfl); (case hr => first | (go_simp; done) | (go_simp; rfl)); intro w_1 hw_; have n0_ : Aside0 (Below w.heap.size w w_1) := ⟨by rw [hw_]; exact below_set (g := gB5) (below_set (g := gB5) (below_set (g := gB5) (below_set (g := gB5) HB.out (by have := ORD.out; omega)) (by have := ORD.out; omega)) (by have := ORD.out; omega)) (by have := ORD.out; omega)⟩; have n1_ : Aside0 (w_1.heap[gB4]? = some (.cells #[.int .i64 0, .int .i64 0, .int .i64 0, .int .i64 0] 101 (0, 0))) := ⟨by rw [hw_]; exact blk_far (blk_far (blk_far (blk_far B4.out (show gB4 ≠ gB5 by have := ORD.out; omega) _) (show gB4 ≠ gB5 by have := ORD.out; omega) _) (show gB4 ≠ gB5 by have := ORD.out; omega) _) (show gB4 ≠ gB5 by have := ORD.out; omega) _⟩; have n2_ : Aside0 (w_1.heap[gB5]? = some (.cells #[.int .i64 0, .int .i64 0, .int .i64 0, .int .i64 e] 101 (0, 0))) := ⟨by rw [hw_]; exact blk_put (blk_put (blk_put (blk_put B5.out 0 _ rfl) 1 _ rfl) 2 _ rfl) 3 _ rfl⟩; (try clear cB4_0 dB4_0 cB4_1 dB4_1 cB4_2 dB4_2 cB4_3 dB4_3 cB5_0 dB5_0 cB5_1 dB5_1 cB5_2 dB5_2 cB5_3 dB5_3); (try clear HB); (try clear B4); (try clear B5); have HB := n0_; have B4 := n1_; have B5 := n2_; clear n0_ n1_ n2_; have cB4_0 : w_1.cell? ⟨gB4, 0, none⟩ = some (.int .i64 0) := (blk_cell B4.out 0).trans rfl; have dB4_0 := blk_frozen B4.out 0; have cB4_1 : w_1.cell? ⟨gB4, 1, none⟩ = some (.int .i64 0) := (blk_cell B4.out 1).trans rfl; have dB4_1 := blk_frozen B4.out 1; have cB4_2 : w_1.cell? ⟨gB4, 2, none⟩ = some (.int .i64 0) := (blk_cell B4.out 2).trans rfl; have dB4_2 := blk_frozen B4.out 2; have cB4_3 : w_1.cell? ⟨gB4, 3, none⟩ = some (.int .i64 0) := (blk_cell B4.out 3).trans rfl; have dB4_3 := blk_frozen B4.out 3; have cB5_0 : w_1.cell? ⟨gB5, 0, none⟩ = some (.int .i64 0) := (blk_cell B5.out 0).trans rfl; have dB5_0 := blk_frozen B5.out 0; have cB5_1 : w_1.cell? ⟨gB5, 1, none⟩ = some (.int .i64 0) := (blk_cell B5.out 1).trans rfl; have dB5_1 := blk_frozen B5.out 1; have cB5_2 : w_1.cell? ⟨gB5, 2, none⟩ = some (.int .i64 0) := (blk_cell B5.out 2).trans rfl; have dB5_2 := blk_frozen B5.out 2; have cB5_3 : w_1.cell? ⟨gB5, 3, none⟩ = some (.int .i64 e) := (blk_cell B5.out 3).trans rfl; have dB5_3 := blk_frozen B5.out 3; clear hw_))
  have hcp := cpy1 gB5 w_1 (cc := cc) B5.out (Kd.C_below HC0.out HB.out) 3
  go_upto_region 3 with fail
  clear hcp
  have n0_ : Aside0 (Below w.heap.size w ((w_1).setCell ⟨gB5, 0, none⟩ (.int .i64 a0))) := ⟨below_set (g := gB5) HB.out (by have := ORD.out; omega)⟩
  have n1_ : Aside0 (((w_1).setCell ⟨gB5, 0, none⟩ (.int .i64 a0)).heap[gB4]? = some (.cells #[.int .i64 0, .int .i64 0, .int .i64 0, .int .i64 0] 101 (0, 0))) := ⟨blk_far B4.out (show gB4 ≠ gB5 by have := ORD.out; omega) _⟩
  have n2_ : Aside0 (((w_1).setCell ⟨gB5, 0, none⟩ (.int .i64 a0)).heap[gB5]? = some (.cells #[.int .i64 a0, .int .i64 0, .int .i64 0, .int .i64 e] 101 (0, 0))) := ⟨blk_put B5.out 0 _ rfl⟩
  (try clear cB4_0 dB4_0 cB4_1 dB4_1 cB4_2 dB4_2 cB4_3 dB4_3 cB5_0 dB5_0 cB5_1 dB5_1 cB5_2 dB5_2 cB5_3 dB5_3)
  (try clear HB)
  (try clear B4)
  (try clear B5)
  generalize (w_1).setCell ⟨gB5, 0, none⟩ (.int .i64 a0) = w_2 at n0_ n1_ n2_ ⊢
  have HB := n0_
  have B4 := n1_
  have B5 := n2_
  clear n0_ n1_ n2_
  have cB4_0 : w_2.cell? ⟨gB4, 0, none⟩ = some (.int .i64 0) := (blk_cell B4.out 0).trans rfl
  have dB4_0 := blk_frozen B4.out 0
  have cB4_1 : w_2.cell? ⟨gB4, 1, none⟩ = some (.int .i64 0) := (blk_cell B4.out 1).trans rfl
  have dB4_1 := blk_frozen B4.out 1
  have cB4_2 : w_2.cell? ⟨gB4, 2, none⟩ = some (.int .i64 0) := (blk_cell B4.out 2).trans rfl
  have dB4_2 := blk_frozen B4.out 2
  have cB4_3 : w_2.cell? ⟨gB4, 3, none⟩ = some (.int .i64 0) := (blk_cell B4.out 3).trans rfl
  have dB4_3 := blk_frozen B4.out 3
  have cB5_0 : w_2.cell? ⟨gB5, 0, none⟩ = some (.int .i64 a0) := (blk_cell B5.out 0).trans rfl
  have dB5_0 := blk_frozen B5.out 0
  have cB5_1 : w_2.cell? ⟨gB5, 1, none⟩ = some (.int .i64 0) := (blk_cell B5.out 1).trans rfl
  have dB5_1 := blk_frozen B5.out 1
  have cB5_2 : w_2.cell? ⟨gB5, 2, none⟩ = some (.int .i64 0) := (blk_cell B5.out 2).trans rfl
  have dB5_2 := blk_frozen B5.out 2
  have cB5_3 : w_2.cell? ⟨gB5, 3, none⟩ = some (.int .i64 e) := (blk_cell B5.out 3).trans rfl
  have dB5_3 := blk_frozen B5.out 3
  go_wp2_with (first | ((with_reducible refine gate_store (t := 101) (p := 4) rfl ?_); refine store_event (t := 101) (p := 4) (v := ?vo_w3) (w1 := (((((w_2).setCell ⟨gB4, 0, none⟩ (.int .i64 a0)).setCell ⟨gB4, 1, none⟩ (.int .i64 0)).setCell ⟨gB4, 2, none⟩ (.int .i64 0)).setCell ⟨gB4, 3, none⟩ (.int .i64 e))) ?hg ?ho ?hn ?hr ?_; (case ho => rfl); (case hg => rfl); (case hn => rfl); (case hr => first | (go_simp; done) | (go_simp; rfl)); intro w_3 hw_; have n0_ : Aside0 (Below w.heap.size w w_3) := ⟨by rw [hw_]; exact below_set (g := gB4) (below_set (g := gB4) (below_set (g := gB4) (below_set (g := gB4) HB.out (by have := ORD.out; omega)) (by have := ORD.out; omega)) (by have := ORD.out; omega)) (by have := ORD.out; omega)⟩; have n1_ : Aside0 (w_3.heap[gB4]? = some (.cells #[.int .i64 a0, .int .i64 0, .int .i64 0, .int .i64 e] 101 (0, 0))) := ⟨by rw [hw_]; exact blk_put (blk_put (blk_put (blk_put B4.out 0 _ rfl) 1 _ rfl) 2 _ rfl) 3 _ rfl⟩; have n2_ : Aside0 (w_3.heap[gB5]? = some (.cells #[.int .i64 a0, .int .i64 0, .int .i64 0, .int .i64 e] 101 (0, 0))) := ⟨by rw [hw_]; exact blk_far (blk_far (blk_far (blk_far B5.out (show gB5 ≠ gB4 by have := ORD.out; omega) _) (show gB5 ≠ gB4 by have := ORD.out; omega) _) (show gB5 ≠ gB4 by have := ORD.out; omega) _) (show gB5 ≠ gB4 by have := ORD.out; omega) _⟩; (try clear cB4_0 dB4_0 cB4_1 dB4_1 cB4_2 dB4_2 cB4_3 dB4_3 cB5_0 dB5_0 cB5_1 dB5_1 cB5_2 dB5_2 cB5_3 dB5_3); (try clear HB); (try clear B4); (try clear B5); have HB := n0_; have B4 := n1_; have B5 := n2_; clear n0_ n1_ n2_; have cB4_0 : w_3.cell? ⟨gB4, 0, none⟩ = some (.int .i64 a0) := (blk_cell B4.out 0).trans rfl; have dB4_0 := blk_frozen B4.out 0; have cB4_1 : w_3.cell? ⟨gB4, 1, none⟩ = some (.int .i64 0) := (blk_cell B4.out 1).trans rfl; have dB4_1 := blk_frozen B4.out 1; have cB4_2 : w_3.cell? ⟨gB4, 2, none⟩ = some (.int .i64 0) := (blk_cell B4.out 2).trans rfl; have dB4_2 := blk_frozen B4.out 2; have cB4_3 : w_3.cell? ⟨gB4, 3, none⟩ = some (.int .i64 e) := (blk_cell B4.out 3).trans rfl; have dB4_3 := blk_frozen B4.out 3; have cB5_0 : w_3.cell? ⟨gB5, 0, none⟩ = some (.int .i64 a0) := (blk_cell B5.out 0).trans rfl; have dB5_0 := blk_frozen B5.out 0; have cB5_1 : w_3.cell? ⟨gB5, 1, none⟩ = some (.int .i64 0) := (blk_cell B5.out 1).trans rfl; have dB5_1 := blk_frozen B5.out 1; have cB5_2 : w_3.cell? ⟨gB5, 2, none⟩ = some (.int .i64 0) := (blk_cell B5.out 2).trans rfl; have dB5_2 := blk_frozen B5.out 2; have cB5_3 : w_3.cell? ⟨gB5, 3, none⟩ = some (.int .i64 e) := (blk_cell B5.out 3).trans rfl; have dB5_3 := blk_frozen B5.out 3; clear hw_))
  exact bodyPost_ret (v := .agg #[.int .i64 a0, .int .i64 0, .int .i64 0, .int .i64 e]) (by simp [results, Try.results87, go_sem, cB4_0, cB4_1, cB4_2, cB4_3]) rfl ⟨rfl, HB.out⟩

theorem cpy2 (g : Nat) (W : World) {e : Int} {cc : Nat} {A : Option Addr} {a0 a1 : Int} (hb : W.heap[g]? = some (.cells #[.int .i64 0, .int .i64 0, .int .i64 0, .int .i64 e] 101 (0, 0))) (hC : Kd.C (Kd.int .i64) W A 2 [a0, a1]) (ty : TypeId) :
    (Builtin.copy_ #[46, 46] ty #[.slice (some ⟨g, 0, none⟩) 3 3, .slice A 2 cc]).run Try.prog W = .ok (.int .i64 2) (((W).setCell ⟨g, 0, none⟩ (.int .i64 a0)).setCell ⟨g, 1, none⟩ (.int .i64 a1)) := by
  obtain ⟨_, _, hA⟩ := Kd.reads_of_C (enc := Value.int .i64) (d := (0 : Int)) (h1 := fun _ => rfl) hC
  obtain ⟨ad, rfl, hc⟩ := hA (by decide)
  have h_ := run_copy_cells (P := Try.prog) W 46 46 ty 3 g 0 3 3 ad 2 cc [.int .i64 a0, .int .i64 a1] Try.underlying46 (by kernel_rfl) rfl (by
    intro j u hu
    match j, hu with
    | 0, hu => exact (hc 0 (by decide)).trans hu
    | 1, hu => exact (hc 1 (by decide)).trans hu
    | k + 2, hu => simp at hu) (by
    intro j hj
    match j, hj with
    | 0, hj => rw [show (⟨g, 0 + 0, none⟩ : Addr) = ⟨g, 0, none⟩ by simp, (blk_cell hb 0).trans rfl]; rfl
    | 1, hj => rw [show (⟨g, 0 + 1, none⟩ : Addr) = ⟨g, 1, none⟩ by simp, (blk_cell hb 1).trans rfl]; rfl
    | k + 2, hj => exact absurd hj (by simp)) (fun j _ => blk_frozen hb _) (by simp [Value.oneCell'])
  exact h_

set_option maxHeartbeats 8000000 in
set_option maxRecDepth 100000 in
theorem villageOf2 (e : Int) (A : Option Addr) (cc : Nat) (a0 a1 : Int) (w : World) (hC : Kd.C (Kd.int .i64) w A 2 [a0, a1]) :
    Calls Try.prog 87 #[.int .i64 e, .slice A 2 cc] w fun e_ w' => e_ = .returned (vCells (vOf e [a0, a1])) ∧ Below w.heap.size w w' := by
  have HC0 := Aside0.mk hC
  have HB := Aside0.mk (Below.refl w.heap.size w)
  clear hC
  go_enter Try.func87, Try.ntmps87
  go_upto_region 2 with (first | ((with_reducible refine gate_dst (N := 4) rfl ?_); refine box_event ?hg (N := 4) ?hd (cs := #[.int .i64 0, .int .i64 0, .int .i64 0, .int .i64 0]) (t := 101) ?hr ?_; (case hd => rfl); (case hg => rfl); (case hr => first | (go_simp; done) | (go_simp; rfl)); intro gB4 hg_ w_gB4 BK_ hb_; have ORD_ : Aside0 ((True) ∧ (w.heap.size ≤ gB4)) := ⟨by refine ⟨trivial, ?_⟩; (have := HB.out.size); omega⟩; have ORD := ORD_; clear ORD_; have n0_ : Aside0 (Below w.heap.size w w_gB4) := ⟨Hx.bb_below hb_ (by first | exact HB.out | exact below_drew1 HB.out | exact pw_below_drewN HB.out _)⟩; have m0_ : Aside0 (w_gB4.heap[gB4]? = some (.cells #[.int .i64 0, .int .i64 0, .int .i64 0, .int .i64 0] 101 (0, 0))) := ⟨BK_⟩; (try clear HB); have HB := n0_; have B4 := m0_; clear n0_ m0_; have cB4_0 : w_gB4.cell? ⟨gB4, 0, none⟩ = some (.int .i64 0) := (blk_cell B4.out 0).trans rfl; have dB4_0 := blk_frozen B4.out 0; have cB4_1 : w_gB4.cell? ⟨gB4, 1, none⟩ = some (.int .i64 0) := (blk_cell B4.out 1).trans rfl; have dB4_1 := blk_frozen B4.out 1; have cB4_2 : w_gB4.cell? ⟨gB4, 2, none⟩ = some (.int .i64 0) := (blk_cell B4.out 2).trans rfl; have dB4_2 := blk_frozen B4.out 2; have cB4_3 : w_gB4.cell? ⟨gB4, 3, none⟩ = some (.int .i64 0) := (blk_cell B4.out 3).trans rfl; have dB4_3 := blk_frozen B4.out 3; clear hg_ BK_ hb_) | ((with_reducible refine gate_dst (N := 5) rfl ?_); refine box_event ?hg (N := 5) ?hd (cs := #[.int .i64 0, .int .i64 0, .int .i64 0, .int .i64 0]) (t := 101) ?hr ?_; (case hd => rfl); (case hg => rfl); (case hr => first | (go_simp; done) | (go_simp; rfl)); intro gB5 hg_ w_gB5 BK_ hb_; have ORD_ : Aside0 (((True) ∧ (w.heap.size ≤ gB4)) ∧ (gB4 < gB5 ∧ w.heap.size ≤ gB5)) := ⟨by refine ⟨ORD.out, ?_⟩; (have := HB.out.size); (have := blk_lt B4.out); omega⟩; clear ORD; have ORD := ORD_; clear ORD_; have n0_ : Aside0 (Below w.heap.size w w_gB5) := ⟨Hx.bb_below hb_ (by first | exact HB.out | exact below_drew1 HB.out | exact pw_below_drewN HB.out _)⟩; have n1_ : Aside0 (w_gB5.heap[gB4]? = some (.cells #[.int .i64 0, .int .i64 0, .int .i64 0, .int .i64 0] 101 (0, 0))) := ⟨Hx.b_below hb_ B4.out⟩; have m0_ : Aside0 (w_gB5.heap[gB5]? = some (.cells #[.int .i64 0, .int .i64 0, .int .i64 0, .int .i64 0] 101 (0, 0))) := ⟨BK_⟩; (try clear cB4_0 dB4_0 cB4_1 dB4_1 cB4_2 dB4_2 cB4_3 dB4_3); (try clear HB); (try clear B4); have HB := n0_; have B4 := n1_; have B5 := m0_; clear n0_ n1_ m0_; have cB4_0 : w_gB5.cell? ⟨gB4, 0, none⟩ = some (.int .i64 0) := (blk_cell B4.out 0).trans rfl; have dB4_0 := blk_frozen B4.out 0; have cB4_1 : w_gB5.cell? ⟨gB4, 1, none⟩ = some (.int .i64 0) := (blk_cell B4.out 1).trans rfl; have dB4_1 := blk_frozen B4.out 1; have cB4_2 : w_gB5.cell? ⟨gB4, 2, none⟩ = some (.int .i64 0) := (blk_cell B4.out 2).trans rfl; have dB4_2 := blk_frozen B4.out 2; have cB4_3 : w_gB5.cell? ⟨gB4, 3, none⟩ = some (.int .i64 0) := (blk_cell B4.out 3).trans rfl; have dB4_3 := blk_frozen B4.out 3; have cB5_0 : w_gB5.cell? ⟨gB5, 0, none⟩ = some (.int .i64 0) := (blk_cell B5.out 0).trans rfl; have dB5_0 := blk_frozen B5.out 0; have cB5_1 : w_gB5.cell? ⟨gB5, 1, none⟩ = some (.int .i64 0) := (blk_cell B5.out 1).trans rfl; have dB5_1 := blk_frozen B5.out 1; have cB5_2 : w_gB5.cell? ⟨gB5, 2, none⟩ = some (.int .i64 0) := (blk_cell B5.out 2).trans rfl; have dB5_2 := blk_frozen B5.out 2; have cB5_3 : w_gB5.cell? ⟨gB5, 3, none⟩ = some (.int .i64 0) := (blk_cell B5.out 3).trans rfl; have dB5_3 := blk_frozen B5.out 3; clear hg_ BK_ hb_) | ((with_reducible refine gate_store (t := 101) (p := 5) rfl ?_); refine store_event (t := 101) (p := 5) (v := ?vo_w1) (w1 := (((((w_gB5).setCell ⟨gB5, 0, none⟩ (.int .i64 0)).setCell ⟨gB5, 1, none⟩ (.int .i64 0)).setCell ⟨gB5, 2, none⟩ (.int .i64 0)).setCell ⟨gB5, 3, none⟩ (.int .i64 e))) ?hg ?ho ?hn ?hr ?_; (case ho => rfl); (case hg => rfl); (case hn => rfl); (case hr => first | (go_simp; done) | (go_simp; rfl)); intro w_1 hw_; have n0_ : Aside0 (Below w.heap.size w w_1) := ⟨by rw [hw_]; exact below_set (g := gB5) (below_set (g := gB5) (below_set (g := gB5) (below_set (g := gB5) HB.out (by have := ORD.out; omega)) (by have := ORD.out; omega)) (by have := ORD.out; omega)) (by have := ORD.out; omega)⟩; have n1_ : Aside0 (w_1.heap[gB4]? = some (.cells #[.int .i64 0, .int .i64 0, .int .i64 0, .int .i64 0] 101 (0, 0))) := ⟨by rw [hw_]; exact blk_far (blk_far (blk_far (blk_far B4.out (show gB4 ≠ gB5 by have := ORD.out; omega) _) (show gB4 ≠ gB5 by have := ORD.out; omega) _) (show gB4 ≠ gB5 by have := ORD.out; omega) _) (show gB4 ≠ gB5 by have := ORD.out; omega) _⟩; have n2_ : Aside0 (w_1.heap[gB5]? = some (.cells #[.int .i64 0, .int .i64 0, .int .i64 0, .int .i64 e] 101 (0, 0))) := ⟨by rw [hw_]; exact blk_put (blk_put (blk_put (blk_put B5.out 0 _ rfl) 1 _ rfl) 2 _ rfl) 3 _ rfl⟩; (try clear cB4_0 dB4_0 cB4_1 dB4_1 cB4_2 dB4_2 cB4_3 dB4_3 cB5_0 dB5_0 cB5_1 dB5_1 cB5_2 dB5_2 cB5_3 dB5_3); (try clear HB); (try clear B4); (try clear B5); have HB := n0_; have B4 := n1_; have B5 := n2_; clear n0_ n1_ n2_; have cB4_0 : w_1.cell? ⟨gB4, 0, none⟩ = some (.int .i64 0) := (blk_cell B4.out 0).trans rfl; have dB4_0 := blk_frozen B4.out 0; have cB4_1 : w_1.cell? ⟨gB4, 1, none⟩ = some (.int .i64 0) := (blk_cell B4.out 1).trans rfl; have dB4_1 := blk_frozen B4.out 1; have cB4_2 : w_1.cell? ⟨gB4, 2, none⟩ = some (.int .i64 0) := (blk_cell B4.out 2).trans rfl; have dB4_2 := blk_frozen B4.out 2; have cB4_3 : w_1.cell? ⟨gB4, 3, none⟩ = some (.int .i64 0) := (blk_cell B4.out 3).trans rfl; have dB4_3 := blk_frozen B4.out 3; have cB5_0 : w_1.cell? ⟨gB5, 0, none⟩ = some (.int .i64 0) := (blk_cell B5.out 0).trans rfl; have dB5_0 := blk_frozen B5.out 0; have cB5_1 : w_1.cell? ⟨gB5, 1, none⟩ = some (.int .i64 0) := (blk_cell B5.out 1).trans rfl; have dB5_1 := blk_frozen B5.out 1; have cB5_2 : w_1.cell? ⟨gB5, 2, none⟩ = some (.int .i64 0) := (blk_cell B5.out 2).trans rfl; have dB5_2 := blk_frozen B5.out 2; have cB5_3 : w_1.cell? ⟨gB5, 3, none⟩ = some (.int .i64 e) := (blk_cell B5.out 3).trans rfl; have dB5_3 := blk_frozen B5.out 3; clear hw_))
  have hcp := cpy2 gB5 w_1 (cc := cc) B5.out (Kd.C_below HC0.out HB.out) 3
  go_upto_region 3 with fail
  clear hcp
  have n0_ : Aside0 (Below w.heap.size w (((w_1).setCell ⟨gB5, 0, none⟩ (.int .i64 a0)).setCell ⟨gB5, 1, none⟩ (.int .i64 a1))) := ⟨below_set (g := gB5) (below_set (g := gB5) HB.out (by have := ORD.out; omega)) (by have := ORD.out; omega)⟩
  have n1_ : Aside0 ((((w_1).setCell ⟨gB5, 0, none⟩ (.int .i64 a0)).setCell ⟨gB5, 1, none⟩ (.int .i64 a1)).heap[gB4]? = some (.cells #[.int .i64 0, .int .i64 0, .int .i64 0, .int .i64 0] 101 (0, 0))) := ⟨blk_far (blk_far B4.out (show gB4 ≠ gB5 by have := ORD.out; omega) _) (show gB4 ≠ gB5 by have := ORD.out; omega) _⟩
  have n2_ : Aside0 ((((w_1).setCell ⟨gB5, 0, none⟩ (.int .i64 a0)).setCell ⟨gB5, 1, none⟩ (.int .i64 a1)).heap[gB5]? = some (.cells #[.int .i64 a0, .int .i64 a1, .int .i64 0, .int .i64 e] 101 (0, 0))) := ⟨blk_put (blk_put B5.out 0 _ rfl) 1 _ rfl⟩
  (try clear cB4_0 dB4_0 cB4_1 dB4_1 cB4_2 dB4_2 cB4_3 dB4_3 cB5_0 dB5_0 cB5_1 dB5_1 cB5_2 dB5_2 cB5_3 dB5_3)
  (try clear HB)
  (try clear B4)
  (try clear B5)
  generalize ((w_1).setCell ⟨gB5, 0, none⟩ (.int .i64 a0)).setCell ⟨gB5, 1, none⟩ (.int .i64 a1) = w_2 at n0_ n1_ n2_ ⊢
  have HB := n0_
  have B4 := n1_
  have B5 := n2_
  clear n0_ n1_ n2_
  have cB4_0 : w_2.cell? ⟨gB4, 0, none⟩ = some (.int .i64 0) := (blk_cell B4.out 0).trans rfl
  have dB4_0 := blk_frozen B4.out 0
  have cB4_1 : w_2.cell? ⟨gB4, 1, none⟩ = some (.int .i64 0) := (blk_cell B4.out 1).trans rfl
  have dB4_1 := blk_frozen B4.out 1
  have cB4_2 : w_2.cell? ⟨gB4, 2, none⟩ = some (.int .i64 0) := (blk_cell B4.out 2).trans rfl
  have dB4_2 := blk_frozen B4.out 2
  have cB4_3 : w_2.cell? ⟨gB4, 3, none⟩ = some (.int .i64 0) := (blk_cell B4.out 3).trans rfl
  have dB4_3 := blk_frozen B4.out 3
  have cB5_0 : w_2.cell? ⟨gB5, 0, none⟩ = some (.int .i64 a0) := (blk_cell B5.out 0).trans rfl
  have dB5_0 := blk_frozen B5.out 0
  have cB5_1 : w_2.cell? ⟨gB5, 1, none⟩ = some (.int .i64 a1) := (blk_cell B5.out 1).trans rfl
  have dB5_1 := blk_frozen B5.out 1
  have cB5_2 : w_2.cell? ⟨gB5, 2, none⟩ = some (.int .i64 0) := (blk_cell B5.out 2).trans rfl
  have dB5_2 := blk_frozen B5.out 2
  have cB5_3 : w_2.cell? ⟨gB5, 3, none⟩ = some (.int .i64 e) := (blk_cell B5.out 3).trans rfl
  have dB5_3 := blk_frozen B5.out 3
  go_wp2_with (first | ((with_reducible refine gate_store (t := 101) (p := 4) rfl ?_); refine store_event (t := 101) (p := 4) (v := ?vo_w3) (w1 := (((((w_2).setCell ⟨gB4, 0, none⟩ (.int .i64 a0)).setCell ⟨gB4, 1, none⟩ (.int .i64 a1)).setCell ⟨gB4, 2, none⟩ (.int .i64 0)).setCell ⟨gB4, 3, none⟩ (.int .i64 e))) ?hg ?ho ?hn ?hr ?_; (case ho => rfl); (case hg => rfl); (case hn => rfl); (case hr => first | (go_simp; done) | (go_simp; rfl)); intro w_3 hw_; have n0_ : Aside0 (Below w.heap.size w w_3) := ⟨by rw [hw_]; exact below_set (g := gB4) (below_set (g := gB4) (below_set (g := gB4) (below_set (g := gB4) HB.out (by have := ORD.out; omega)) (by have := ORD.out; omega)) (by have := ORD.out; omega)) (by have := ORD.out; omega)⟩; have n1_ : Aside0 (w_3.heap[gB4]? = some (.cells #[.int .i64 a0, .int .i64 a1, .int .i64 0, .int .i64 e] 101 (0, 0))) := ⟨by rw [hw_]; exact blk_put (blk_put (blk_put (blk_put B4.out 0 _ rfl) 1 _ rfl) 2 _ rfl) 3 _ rfl⟩; have n2_ : Aside0 (w_3.heap[gB5]? = some (.cells #[.int .i64 a0, .int .i64 a1, .int .i64 0, .int .i64 e] 101 (0, 0))) := ⟨by rw [hw_]; exact blk_far (blk_far (blk_far (blk_far B5.out (show gB5 ≠ gB4 by have := ORD.out; omega) _) (show gB5 ≠ gB4 by have := ORD.out; omega) _) (show gB5 ≠ gB4 by have := ORD.out; omega) _) (show gB5 ≠ gB4 by have := ORD.out; omega) _⟩; (try clear cB4_0 dB4_0 cB4_1 dB4_1 cB4_2 dB4_2 cB4_3 dB4_3 cB5_0 dB5_0 cB5_1 dB5_1 cB5_2 dB5_2 cB5_3 dB5_3); (try clear HB); (try clear B4); (try clear B5); have HB := n0_; have B4 := n1_; have B5 := n2_; clear n0_ n1_ n2_; have cB4_0 : w_3.cell? ⟨gB4, 0, none⟩ = some (.int .i64 a0) := (blk_cell B4.out 0).trans rfl; have dB4_0 := blk_frozen B4.out 0; have cB4_1 : w_3.cell? ⟨gB4, 1, none⟩ = some (.int .i64 a1) := (blk_cell B4.out 1).trans rfl; have dB4_1 := blk_frozen B4.out 1; have cB4_2 : w_3.cell? ⟨gB4, 2, none⟩ = some (.int .i64 0) := (blk_cell B4.out 2).trans rfl; have dB4_2 := blk_frozen B4.out 2; have cB4_3 : w_3.cell? ⟨gB4, 3, none⟩ = some (.int .i64 e) := (blk_cell B4.out 3).trans rfl; have dB4_3 := blk_frozen B4.out 3; have cB5_0 : w_3.cell? ⟨gB5, 0, none⟩ = some (.int .i64 a0) := (blk_cell B5.out 0).trans rfl; have dB5_0 := blk_frozen B5.out 0; have cB5_1 : w_3.cell? ⟨gB5, 1, none⟩ = some (.int .i64 a1) := (blk_cell B5.out 1).trans rfl; have dB5_1 := blk_frozen B5.out 1; have cB5_2 : w_3.cell? ⟨gB5, 2, none⟩ = some (.int .i64 0) := (blk_cell B5.out 2).trans rfl; have dB5_2 := blk_frozen B5.out 2; have cB5_3 : w_3.cell? ⟨gB5, 3, none⟩ = some (.int .i64 e) := (blk_cell B5.out 3).trans rfl; have dB5_3 := blk_frozen B5.out 3; clear hw_))
  exact bodyPost_ret (v := .agg #[.int .i64 a0, .int .i64 a1, .int .i64 0, .int .i64 e]) (by simp [results, Try.results87, go_sem, cB4_0, cB4_1, cB4_2, cB4_3]) rfl ⟨rfl, HB.out⟩

theorem cpy3 (g : Nat) (W : World) {e : Int} {cc : Nat} {A : Option Addr} {a0 a1 a2 : Int} (hb : W.heap[g]? = some (.cells #[.int .i64 0, .int .i64 0, .int .i64 0, .int .i64 e] 101 (0, 0))) (hC : Kd.C (Kd.int .i64) W A 3 [a0, a1, a2]) (ty : TypeId) :
    (Builtin.copy_ #[46, 46] ty #[.slice (some ⟨g, 0, none⟩) 3 3, .slice A 3 cc]).run Try.prog W = .ok (.int .i64 3) ((((W).setCell ⟨g, 0, none⟩ (.int .i64 a0)).setCell ⟨g, 1, none⟩ (.int .i64 a1)).setCell ⟨g, 2, none⟩ (.int .i64 a2)) := by
  obtain ⟨_, _, hA⟩ := Kd.reads_of_C (enc := Value.int .i64) (d := (0 : Int)) (h1 := fun _ => rfl) hC
  obtain ⟨ad, rfl, hc⟩ := hA (by decide)
  have h_ := run_copy_cells (P := Try.prog) W 46 46 ty 3 g 0 3 3 ad 3 cc [.int .i64 a0, .int .i64 a1, .int .i64 a2] Try.underlying46 (by kernel_rfl) rfl (by
    intro j u hu
    match j, hu with
    | 0, hu => exact (hc 0 (by decide)).trans hu
    | 1, hu => exact (hc 1 (by decide)).trans hu
    | 2, hu => exact (hc 2 (by decide)).trans hu
    | k + 3, hu => simp at hu) (by
    intro j hj
    match j, hj with
    | 0, hj => rw [show (⟨g, 0 + 0, none⟩ : Addr) = ⟨g, 0, none⟩ by simp, (blk_cell hb 0).trans rfl]; rfl
    | 1, hj => rw [show (⟨g, 0 + 1, none⟩ : Addr) = ⟨g, 1, none⟩ by simp, (blk_cell hb 1).trans rfl]; rfl
    | 2, hj => rw [show (⟨g, 0 + 2, none⟩ : Addr) = ⟨g, 2, none⟩ by simp, (blk_cell hb 2).trans rfl]; rfl
    | k + 3, hj => exact absurd hj (by simp)) (fun j _ => blk_frozen hb _) (by simp [Value.oneCell'])
  exact h_

set_option maxHeartbeats 8000000 in
set_option maxRecDepth 100000 in
theorem villageOf3 (e : Int) (A : Option Addr) (cc : Nat) (a0 a1 a2 : Int) (w : World) (hC : Kd.C (Kd.int .i64) w A 3 [a0, a1, a2]) :
    Calls Try.prog 87 #[.int .i64 e, .slice A 3 cc] w fun e_ w' => e_ = .returned (vCells (vOf e [a0, a1, a2])) ∧ Below w.heap.size w w' := by
  have HC0 := Aside0.mk hC
  have HB := Aside0.mk (Below.refl w.heap.size w)
  clear hC
  go_enter Try.func87, Try.ntmps87
  go_upto_region 2 with (first | ((with_reducible refine gate_dst (N := 4) rfl ?_); refine box_event ?hg (N := 4) ?hd (cs := #[.int .i64 0, .int .i64 0, .int .i64 0, .int .i64 0]) (t := 101) ?hr ?_; (case hd => rfl); (case hg => rfl); (case hr => first | (go_simp; done) | (go_simp; rfl)); intro gB4 hg_ w_gB4 BK_ hb_; have ORD_ : Aside0 ((True) ∧ (w.heap.size ≤ gB4)) := ⟨by refine ⟨trivial, ?_⟩; (have := HB.out.size); omega⟩; have ORD := ORD_; clear ORD_; have n0_ : Aside0 (Below w.heap.size w w_gB4) := ⟨Hx.bb_below hb_ (by first | exact HB.out | exact below_drew1 HB.out | exact pw_below_drewN HB.out _)⟩; have m0_ : Aside0 (w_gB4.heap[gB4]? = some (.cells #[.int .i64 0, .int .i64 0, .int .i64 0, .int .i64 0] 101 (0, 0))) := ⟨BK_⟩; (try clear HB); have HB := n0_; have B4 := m0_; clear n0_ m0_; have cB4_0 : w_gB4.cell? ⟨gB4, 0, none⟩ = some (.int .i64 0) := (blk_cell B4.out 0).trans rfl; have dB4_0 := blk_frozen B4.out 0; have cB4_1 : w_gB4.cell? ⟨gB4, 1, none⟩ = some (.int .i64 0) := (blk_cell B4.out 1).trans rfl; have dB4_1 := blk_frozen B4.out 1; have cB4_2 : w_gB4.cell? ⟨gB4, 2, none⟩ = some (.int .i64 0) := (blk_cell B4.out 2).trans rfl; have dB4_2 := blk_frozen B4.out 2; have cB4_3 : w_gB4.cell? ⟨gB4, 3, none⟩ = some (.int .i64 0) := (blk_cell B4.out 3).trans rfl; have dB4_3 := blk_frozen B4.out 3; clear hg_ BK_ hb_) | ((with_reducible refine gate_dst (N := 5) rfl ?_); refine box_event ?hg (N := 5) ?hd (cs := #[.int .i64 0, .int .i64 0, .int .i64 0, .int .i64 0]) (t := 101) ?hr ?_; (case hd => rfl); (case hg => rfl); (case hr => first | (go_simp; done) | (go_simp; rfl)); intro gB5 hg_ w_gB5 BK_ hb_; have ORD_ : Aside0 (((True) ∧ (w.heap.size ≤ gB4)) ∧ (gB4 < gB5 ∧ w.heap.size ≤ gB5)) := ⟨by refine ⟨ORD.out, ?_⟩; (have := HB.out.size); (have := blk_lt B4.out); omega⟩; clear ORD; have ORD := ORD_; clear ORD_; have n0_ : Aside0 (Below w.heap.size w w_gB5) := ⟨Hx.bb_below hb_ (by first | exact HB.out | exact below_drew1 HB.out | exact pw_below_drewN HB.out _)⟩; have n1_ : Aside0 (w_gB5.heap[gB4]? = some (.cells #[.int .i64 0, .int .i64 0, .int .i64 0, .int .i64 0] 101 (0, 0))) := ⟨Hx.b_below hb_ B4.out⟩; have m0_ : Aside0 (w_gB5.heap[gB5]? = some (.cells #[.int .i64 0, .int .i64 0, .int .i64 0, .int .i64 0] 101 (0, 0))) := ⟨BK_⟩; (try clear cB4_0 dB4_0 cB4_1 dB4_1 cB4_2 dB4_2 cB4_3 dB4_3); (try clear HB); (try clear B4); have HB := n0_; have B4 := n1_; have B5 := m0_; clear n0_ n1_ m0_; have cB4_0 : w_gB5.cell? ⟨gB4, 0, none⟩ = some (.int .i64 0) := (blk_cell B4.out 0).trans rfl; have dB4_0 := blk_frozen B4.out 0; have cB4_1 : w_gB5.cell? ⟨gB4, 1, none⟩ = some (.int .i64 0) := (blk_cell B4.out 1).trans rfl; have dB4_1 := blk_frozen B4.out 1; have cB4_2 : w_gB5.cell? ⟨gB4, 2, none⟩ = some (.int .i64 0) := (blk_cell B4.out 2).trans rfl; have dB4_2 := blk_frozen B4.out 2; have cB4_3 : w_gB5.cell? ⟨gB4, 3, none⟩ = some (.int .i64 0) := (blk_cell B4.out 3).trans rfl; have dB4_3 := blk_frozen B4.out 3; have cB5_0 : w_gB5.cell? ⟨gB5, 0, none⟩ = some (.int .i64 0) := (blk_cell B5.out 0).trans rfl; have dB5_0 := blk_frozen B5.out 0; have cB5_1 : w_gB5.cell? ⟨gB5, 1, none⟩ = some (.int .i64 0) := (blk_cell B5.out 1).trans rfl; have dB5_1 := blk_frozen B5.out 1; have cB5_2 : w_gB5.cell? ⟨gB5, 2, none⟩ = some (.int .i64 0) := (blk_cell B5.out 2).trans rfl; have dB5_2 := blk_frozen B5.out 2; have cB5_3 : w_gB5.cell? ⟨gB5, 3, none⟩ = some (.int .i64 0) := (blk_cell B5.out 3).trans rfl; have dB5_3 := blk_frozen B5.out 3; clear hg_ BK_ hb_) | ((with_reducible refine gate_store (t := 101) (p := 5) rfl ?_); refine store_event (t := 101) (p := 5) (v := ?vo_w1) (w1 := (((((w_gB5).setCell ⟨gB5, 0, none⟩ (.int .i64 0)).setCell ⟨gB5, 1, none⟩ (.int .i64 0)).setCell ⟨gB5, 2, none⟩ (.int .i64 0)).setCell ⟨gB5, 3, none⟩ (.int .i64 e))) ?hg ?ho ?hn ?hr ?_; (case ho => rfl); (case hg => rfl); (case hn => rfl); (case hr => first | (go_simp; done) | (go_simp; rfl)); intro w_1 hw_; have n0_ : Aside0 (Below w.heap.size w w_1) := ⟨by rw [hw_]; exact below_set (g := gB5) (below_set (g := gB5) (below_set (g := gB5) (below_set (g := gB5) HB.out (by have := ORD.out; omega)) (by have := ORD.out; omega)) (by have := ORD.out; omega)) (by have := ORD.out; omega)⟩; have n1_ : Aside0 (w_1.heap[gB4]? = some (.cells #[.int .i64 0, .int .i64 0, .int .i64 0, .int .i64 0] 101 (0, 0))) := ⟨by rw [hw_]; exact blk_far (blk_far (blk_far (blk_far B4.out (show gB4 ≠ gB5 by have := ORD.out; omega) _) (show gB4 ≠ gB5 by have := ORD.out; omega) _) (show gB4 ≠ gB5 by have := ORD.out; omega) _) (show gB4 ≠ gB5 by have := ORD.out; omega) _⟩; have n2_ : Aside0 (w_1.heap[gB5]? = some (.cells #[.int .i64 0, .int .i64 0, .int .i64 0, .int .i64 e] 101 (0, 0))) := ⟨by rw [hw_]; exact blk_put (blk_put (blk_put (blk_put B5.out 0 _ rfl) 1 _ rfl) 2 _ rfl) 3 _ rfl⟩; (try clear cB4_0 dB4_0 cB4_1 dB4_1 cB4_2 dB4_2 cB4_3 dB4_3 cB5_0 dB5_0 cB5_1 dB5_1 cB5_2 dB5_2 cB5_3 dB5_3); (try clear HB); (try clear B4); (try clear B5); have HB := n0_; have B4 := n1_; have B5 := n2_; clear n0_ n1_ n2_; have cB4_0 : w_1.cell? ⟨gB4, 0, none⟩ = some (.int .i64 0) := (blk_cell B4.out 0).trans rfl; have dB4_0 := blk_frozen B4.out 0; have cB4_1 : w_1.cell? ⟨gB4, 1, none⟩ = some (.int .i64 0) := (blk_cell B4.out 1).trans rfl; have dB4_1 := blk_frozen B4.out 1; have cB4_2 : w_1.cell? ⟨gB4, 2, none⟩ = some (.int .i64 0) := (blk_cell B4.out 2).trans rfl; have dB4_2 := blk_frozen B4.out 2; have cB4_3 : w_1.cell? ⟨gB4, 3, none⟩ = some (.int .i64 0) := (blk_cell B4.out 3).trans rfl; have dB4_3 := blk_frozen B4.out 3; have cB5_0 : w_1.cell? ⟨gB5, 0, none⟩ = some (.int .i64 0) := (blk_cell B5.out 0).trans rfl; have dB5_0 := blk_frozen B5.out 0; have cB5_1 : w_1.cell? ⟨gB5, 1, none⟩ = some (.int .i64 0) := (blk_cell B5.out 1).trans rfl; have dB5_1 := blk_frozen B5.out 1; have cB5_2 : w_1.cell? ⟨gB5, 2, none⟩ = some (.int .i64 0) := (blk_cell B5.out 2).trans rfl; have dB5_2 := blk_frozen B5.out 2; have cB5_3 : w_1.cell? ⟨gB5, 3, none⟩ = some (.int .i64 e) := (blk_cell B5.out 3).trans rfl; have dB5_3 := blk_frozen B5.out 3; clear hw_))
  have hcp := cpy3 gB5 w_1 (cc := cc) B5.out (Kd.C_below HC0.out HB.out) 3
  go_upto_region 3 with fail
  clear hcp
  have n0_ : Aside0 (Below w.heap.size w ((((w_1).setCell ⟨gB5, 0, none⟩ (.int .i64 a0)).setCell ⟨gB5, 1, none⟩ (.int .i64 a1)).setCell ⟨gB5, 2, none⟩ (.int .i64 a2))) := ⟨below_set (g := gB5) (below_set (g := gB5) (below_set (g := gB5) HB.out (by have := ORD.out; omega)) (by have := ORD.out; omega)) (by have := ORD.out; omega)⟩
  have n1_ : Aside0 (((((w_1).setCell ⟨gB5, 0, none⟩ (.int .i64 a0)).setCell ⟨gB5, 1, none⟩ (.int .i64 a1)).setCell ⟨gB5, 2, none⟩ (.int .i64 a2)).heap[gB4]? = some (.cells #[.int .i64 0, .int .i64 0, .int .i64 0, .int .i64 0] 101 (0, 0))) := ⟨blk_far (blk_far (blk_far B4.out (show gB4 ≠ gB5 by have := ORD.out; omega) _) (show gB4 ≠ gB5 by have := ORD.out; omega) _) (show gB4 ≠ gB5 by have := ORD.out; omega) _⟩
  have n2_ : Aside0 (((((w_1).setCell ⟨gB5, 0, none⟩ (.int .i64 a0)).setCell ⟨gB5, 1, none⟩ (.int .i64 a1)).setCell ⟨gB5, 2, none⟩ (.int .i64 a2)).heap[gB5]? = some (.cells #[.int .i64 a0, .int .i64 a1, .int .i64 a2, .int .i64 e] 101 (0, 0))) := ⟨blk_put (blk_put (blk_put B5.out 0 _ rfl) 1 _ rfl) 2 _ rfl⟩
  (try clear cB4_0 dB4_0 cB4_1 dB4_1 cB4_2 dB4_2 cB4_3 dB4_3 cB5_0 dB5_0 cB5_1 dB5_1 cB5_2 dB5_2 cB5_3 dB5_3)
  (try clear HB)
  (try clear B4)
  (try clear B5)
  generalize (((w_1).setCell ⟨gB5, 0, none⟩ (.int .i64 a0)).setCell ⟨gB5, 1, none⟩ (.int .i64 a1)).setCell ⟨gB5, 2, none⟩ (.int .i64 a2) = w_2 at n0_ n1_ n2_ ⊢
  have HB := n0_
  have B4 := n1_
  have B5 := n2_
  clear n0_ n1_ n2_
  have cB4_0 : w_2.cell? ⟨gB4, 0, none⟩ = some (.int .i64 0) := (blk_cell B4.out 0).trans rfl
  have dB4_0 := blk_frozen B4.out 0
  have cB4_1 : w_2.cell? ⟨gB4, 1, none⟩ = some (.int .i64 0) := (blk_cell B4.out 1).trans rfl
  have dB4_1 := blk_frozen B4.out 1
  have cB4_2 : w_2.cell? ⟨gB4, 2, none⟩ = some (.int .i64 0) := (blk_cell B4.out 2).trans rfl
  have dB4_2 := blk_frozen B4.out 2
  have cB4_3 : w_2.cell? ⟨gB4, 3, none⟩ = some (.int .i64 0) := (blk_cell B4.out 3).trans rfl
  have dB4_3 := blk_frozen B4.out 3
  have cB5_0 : w_2.cell? ⟨gB5, 0, none⟩ = some (.int .i64 a0) := (blk_cell B5.out 0).trans rfl
  have dB5_0 := blk_frozen B5.out 0
  have cB5_1 : w_2.cell? ⟨gB5, 1, none⟩ = some (.int .i64 a1) := (blk_cell B5.out 1).trans rfl
  have dB5_1 := blk_frozen B5.out 1
  have cB5_2 : w_2.cell? ⟨gB5, 2, none⟩ = some (.int .i64 a2) := (blk_cell B5.out 2).trans rfl
  have dB5_2 := blk_frozen B5.out 2
  have cB5_3 : w_2.cell? ⟨gB5, 3, none⟩ = some (.int .i64 e) := (blk_cell B5.out 3).trans rfl
  have dB5_3 := blk_frozen B5.out 3
  go_wp2_with (first | ((with_reducible refine gate_store (t := 101) (p := 4) rfl ?_); refine store_event (t := 101) (p := 4) (v := ?vo_w3) (w1 := (((((w_2).setCell ⟨gB4, 0, none⟩ (.int .i64 a0)).setCell ⟨gB4, 1, none⟩ (.int .i64 a1)).setCell ⟨gB4, 2, none⟩ (.int .i64 a2)).setCell ⟨gB4, 3, none⟩ (.int .i64 e))) ?hg ?ho ?hn ?hr ?_; (case ho => rfl); (case hg => rfl); (case hn => rfl); (case hr => first | (go_simp; done) | (go_simp; rfl)); intro w_3 hw_; have n0_ : Aside0 (Below w.heap.size w w_3) := ⟨by rw [hw_]; exact below_set (g := gB4) (below_set (g := gB4) (below_set (g := gB4) (below_set (g := gB4) HB.out (by have := ORD.out; omega)) (by have := ORD.out; omega)) (by have := ORD.out; omega)) (by have := ORD.out; omega)⟩; have n1_ : Aside0 (w_3.heap[gB4]? = some (.cells #[.int .i64 a0, .int .i64 a1, .int .i64 a2, .int .i64 e] 101 (0, 0))) := ⟨by rw [hw_]; exact blk_put (blk_put (blk_put (blk_put B4.out 0 _ rfl) 1 _ rfl) 2 _ rfl) 3 _ rfl⟩; have n2_ : Aside0 (w_3.heap[gB5]? = some (.cells #[.int .i64 a0, .int .i64 a1, .int .i64 a2, .int .i64 e] 101 (0, 0))) := ⟨by rw [hw_]; exact blk_far (blk_far (blk_far (blk_far B5.out (show gB5 ≠ gB4 by have := ORD.out; omega) _) (show gB5 ≠ gB4 by have := ORD.out; omega) _) (show gB5 ≠ gB4 by have := ORD.out; omega) _) (show gB5 ≠ gB4 by have := ORD.out; omega) _⟩; (try clear cB4_0 dB4_0 cB4_1 dB4_1 cB4_2 dB4_2 cB4_3 dB4_3 cB5_0 dB5_0 cB5_1 dB5_1 cB5_2 dB5_2 cB5_3 dB5_3); (try clear HB); (try clear B4); (try clear B5); have HB := n0_; have B4 := n1_; have B5 := n2_; clear n0_ n1_ n2_; have cB4_0 : w_3.cell? ⟨gB4, 0, none⟩ = some (.int .i64 a0) := (blk_cell B4.out 0).trans rfl; have dB4_0 := blk_frozen B4.out 0; have cB4_1 : w_3.cell? ⟨gB4, 1, none⟩ = some (.int .i64 a1) := (blk_cell B4.out 1).trans rfl; have dB4_1 := blk_frozen B4.out 1; have cB4_2 : w_3.cell? ⟨gB4, 2, none⟩ = some (.int .i64 a2) := (blk_cell B4.out 2).trans rfl; have dB4_2 := blk_frozen B4.out 2; have cB4_3 : w_3.cell? ⟨gB4, 3, none⟩ = some (.int .i64 e) := (blk_cell B4.out 3).trans rfl; have dB4_3 := blk_frozen B4.out 3; have cB5_0 : w_3.cell? ⟨gB5, 0, none⟩ = some (.int .i64 a0) := (blk_cell B5.out 0).trans rfl; have dB5_0 := blk_frozen B5.out 0; have cB5_1 : w_3.cell? ⟨gB5, 1, none⟩ = some (.int .i64 a1) := (blk_cell B5.out 1).trans rfl; have dB5_1 := blk_frozen B5.out 1; have cB5_2 : w_3.cell? ⟨gB5, 2, none⟩ = some (.int .i64 a2) := (blk_cell B5.out 2).trans rfl; have dB5_2 := blk_frozen B5.out 2; have cB5_3 : w_3.cell? ⟨gB5, 3, none⟩ = some (.int .i64 e) := (blk_cell B5.out 3).trans rfl; have dB5_3 := blk_frozen B5.out 3; clear hw_))
  exact bodyPost_ret (v := .agg #[.int .i64 a0, .int .i64 a1, .int .i64 a2, .int .i64 e]) (by simp [results, Try.results87, go_sem, cB4_0, cB4_1, cB4_2, cB4_3]) rfl ⟨rfl, HB.out⟩


-- FOR impl.GoodHouseDrops
-- KIND rounds=0 making=1
-- CALLS impl.isStocked ; impl.villageOf ; (impl.houser).good ; spec.hoDrops ; spec.hoAsked ; impl.AreHouses ; impl.within ; impl.eggsNeeded
-- USES kd [][]int
def hoB (l : List Int) : Bool := decide (1 ≤ l.length) && decide (l.length ≤ 3) && l.all inHo
def hAsk (e : Int) (l : List Int) : Bool := hoB l && (decide ((vOf e l).need ≤ e) && decide (e ≤ 6))
theorem hoB_len {l : List Int} (h : hoB l = true) : 1 ≤ l.length ∧ l.length ≤ 3 := by
  unfold hoB at h
  simp only [Bool.and_eq_true, decide_eq_true_eq] at h
  exact h.1
theorem hoB_good {l : List Int} (h : hoB l = true) : LGood l := by
  unfold hoB at h
  simp only [Bool.and_eq_true, decide_eq_true_eq, List.all_eq_true] at h
  refine ⟨h.1.1, h.1.2, fun x hx => ?_⟩
  have h2 := h.2 x hx
  unfold inHo at h2
  simp only [Bool.and_eq_true, decide_eq_true_eq] at h2
  exact h2
theorem hAsk_good {e : Int} {l : List Int} (h : hAsk e l = true) : LGood l ∧ (0 ≤ e ∧ e ≤ 6) ∧ (vOf e l).need ≤ e := by
  unfold hAsk at h
  simp only [Bool.and_eq_true, decide_eq_true_eq] at h
  have := need_lo (vOf e l)
  exact ⟨hoB_good h.1, ⟨by omega, h.2.2⟩, h.2.1⟩
theorem eggsL_is (e : Int) {l : List Int} (hl : 1 ≤ l.length ∧ l.length ≤ 3) : impl_eggsNeeded.f 9 l = some (vOf e l).need := by
  have r0 : ∀ (a : Int) (l : List Int), rd (a :: l) 0 = a := fun _ _ => rfl
  have r1 : ∀ (a b : Int) (l : List Int), rd (a :: b :: l) 1 = b := fun _ _ _ => rfl
  have r2 : ∀ (a b c : Int) (l : List Int), rd (a :: b :: c :: l) 2 = c := fun _ _ _ _ => rfl
  have w1 : wrap64 1 = 1 := Hw.wrap_id (by omega) (by omega)
  have w2 : wrap64 2 = 2 := Hw.wrap_id (by omega) (by omega)
  have w3 : wrap64 3 = 3 := Hw.wrap_id (by omega) (by omega)
  unfold impl_eggsNeeded.f
  simp only [VS.need, vOf]
  rcases lcases hl with ⟨a, rfl⟩ | ⟨a, b, rfl⟩ | ⟨a, b, c, rfl⟩ <;> simp only [impl_eggsNeeded.l0] <;> unfold nz
  · by_cases h0 : a > 0 <;> simp [h0, r0, w1, w2, w3]
  · by_cases h0 : a > 0 <;> by_cases h1 : b > 0 <;> simp [h0, h1, r0, r1, w1, w2, w3]
  · by_cases h0 : a > 0 <;> by_cases h1 : b > 0 <;> by_cases h2 : c > 0 <;> simp [h0, h1, h2, r0, r1, r2, w1, w2, w3]
theorem stocked_is (e : Int) (l : List Int) : impl_isStocked.f 9 e l = some (hAsk e l) := by
  unfold impl_isStocked.f hAsk
  rw [show impl_AreHouses.f l = some (hoB l) from rfl, Option.bind_some]
  cases hb : hoB l with
  | false => simp
  | true => rw [if_pos rfl, eggsL_is e (hoB_len hb), Option.bind_some, ho_within, Option.bind_some, Bool.true_and]
theorem l1In_is (a b c : Int) : spec_l1In.f a b c = some (decide (b ≤ a) && decide (a ≤ c)) := by
  unfold spec_l1In.f
  split
  · rename_i h; rw [decide_eq_true (show b ≤ a from h), Bool.true_and]
  · rename_i h; rw [decide_eq_false (show ¬ b ≤ a from h), Bool.false_and]
theorem hoGood_is (l : List Int) : spec_hoGood.f 9 l = some (hoB l) := by
  have r0 : ∀ (a : Int) (l : List Int), rd (a :: l) 0 = a := fun _ _ => rfl
  have r1 : ∀ (a b : Int) (l : List Int), rd (a :: b :: l) 1 = b := fun _ _ _ => rfl
  have r2 : ∀ (a b c : Int) (l : List Int), rd (a :: b :: c :: l) 2 = c := fun _ _ _ _ => rfl
  have w1 : wrap64 1 = 1 := Hw.wrap_id (by omega) (by omega)
  have w2 : wrap64 2 = 2 := Hw.wrap_id (by omega) (by omega)
  have w3 : wrap64 3 = 3 := Hw.wrap_id (by omega) (by omega)
  unfold spec_hoGood.f hoB
  rw [l1In_is, Option.bind_some]
  by_cases hl : 1 ≤ l.length ∧ l.length ≤ 3
  · rw [if_pos (by simp; omega), decide_eq_true hl.1, decide_eq_true hl.2]
    simp only [Bool.true_and]
    unfold spec_l1All.f
    have hin : ∀ a, spec_l1In.f a 0 8 = some (inHo a) := fun a => l1In_is a 0 8
    rcases lcases hl with ⟨a, rfl⟩ | ⟨a, b, rfl⟩ | ⟨a, b, c, rfl⟩ <;> simp only [spec_l1All.l0, hin]
    · cases h0 : inHo a <;> simp [h0, r0, w1, w2, w3]
    · cases h0 : inHo a <;> cases h1 : inHo b <;> simp [h0, h1, r0, r1, w1, w2, w3]
    · cases h0 : inHo a <;> cases h1 : inHo b <;> cases h2 : inHo c <;> simp [h0, h1, h2, r0, r1, r2, w1, w2, w3]
  · have h1 : (decide (1 ≤ l.length) && decide (l.length ≤ 3)) = false := by
      cases hq : (decide (1 ≤ l.length) && decide (l.length ≤ 3)) with
      | false => rfl
      | true => simp at hq; omega
    rw [h1, if_neg (by simp; omega)]
    rfl
theorem asked_is (e : Int) (l : List Int) : spec_hoAsked.f 9 e l = some (hAsk e l) := by
  unfold spec_hoAsked.f hAsk
  rw [hoGood_is, Option.bind_some]
  cases hb : hoB l with
  | false => simp
  | true => rw [if_pos rfl, need_is e (hoB_len hb), Option.bind_some, l1In_is, Option.bind_some, Bool.true_and]
def goodH (e : Int) (l : List Int) : List (List Int) × Bool := if hAsk e l then (vLits (vOf e l) (vOf e l).tests, true) else ([], false)

def impl_GoodHouseDrops.f (a0 : Int) (l1 : List Int) : Option (List (List Int) × Bool) := some (goodH a0 l1)
theorem vill_of (e : Int) {l : List Int} (hl : 1 ≤ l.length ∧ l.length ≤ 3) (A : Option Addr) (cc : Nat) (w : World) (hC : Kd.C (Kd.int .i64) w A l.length l) :
    Calls Try.prog 87 #[.int .i64 e, .slice A l.length cc] w fun e_ w' => e_ = .returned (vCells (vOf e l)) ∧ Below w.heap.size w w' := by
  rcases lcases hl with ⟨a, rfl⟩ | ⟨a, b, rfl⟩ | ⟨a, b, c, rfl⟩
  · exact villageOf1 e A cc a w hC
  · exact villageOf2 e A cc a b w hC
  · exact villageOf3 e A cc a b c w hC
theorem hou_made (w : World) : Hou (w.alloc (.map #[] 0)) w.heap.size := Hm.Mem.made _ _ _ _ _
set_option maxHeartbeats 8000000 in
set_option maxRecDepth 100000 in
theorem impl_GoodHouseDrops.calls (a0 : Int) (A1 : Option Addr) (c1 : Nat) (l1 : List Int) (r1 : List (List Int)) (r2 : Bool) (w : World) (hr1 : Kd.C (Kd.int .i64) w A1 l1.length l1) (hc1 : l1.length ≤ c1) (h : impl_GoodHouseDrops.f a0 l1 = some (r1, r2)) :
    Calls Try.prog 42 #[.int .i64 a0, .slice A1 l1.length c1] w fun e w' => ∃ v0_ : Value, e = .returned (.tuple #[v0_, .bool r2]) ∧ Kd.S (Kd.slice 3 (Kd.int .i64)) 46 w' w.heap.size (fun _ => True) v0_ r1 ∧ Below w.heap.size w w' := by
  have hmk : ∀ w : World, (Instr.makeMap 97 none).run Try.prog w = .ok (.map (some w.heap.size)) (w.alloc (.map #[] 0)) := fun _ => rfl
  have HB := Aside0.mk (Below.refl w.heap.size w)
  have HC1 := Aside0.mk hr1
  have HL1 := Aside0.mk hc1
  obtain ⟨b1, hb1⟩ : ∃ b, b = hAsk a0 l1 := ⟨_, rfl⟩
  have e1 := stocked_is a0 l1
  unfold impl_GoodHouseDrops.f goodH at h
  rw [← hb1] at e1 h
  have HA := Aside0.mk e1
  have HAG := Aside0.mk hb1
  clear e1 hb1 hr1 hc1
  cases b1 with
  | false =>
    simp only [Bool.false_eq_true, if_false, Option.some.injEq, Prod.mk.injEq] at h
    obtain ⟨rfl, rfl⟩ := h
    clear hmk
    go_enter Try.func42, Try.ntmps42
    go_wp2_with (first | ((with_reducible refine gate_callee (f := 85) rfl ?_); refine goesL_ (some 8) rfl rfl Try.func85 (by kernel_rfl) rfl #[.int .i64 a0, .slice A1 l1.length c1] rfl (by (try simp only [List.map_toArray, List.map_cons, List.map_nil]); first | done | rfl) ?_; refine (impl_isStocked.calls 9 a0 A1 c1 l1 _ _ HC1.out HL1.out HA.out).mono ?_; rintro e_ w_1 ⟨rfl, hb_⟩; refine ⟨_, rfl, ?_⟩; have n0_ : Aside0 (Below w.heap.size w w_1) := ⟨Hx.bb_below hb_ (by first | exact HB.out | exact below_drew1 HB.out | exact pw_below_drewN HB.out _)⟩; have n1_ : Aside0 (Kd.C (Kd.int .i64) w_1 A1 l1.length l1) := ⟨Kd.C_below HC1.out hb_⟩; (try clear HB); (try clear HC1); have HB := n0_; have HC1 := n1_; clear n0_ n1_; clear hb_))
    go_ret2
    exact ⟨_, rfl, Kd.S_nil _ _ _ _ _, HB.out⟩
  | true =>
    simp only [if_true, Option.some.injEq, Prod.mk.injEq] at h
    obtain ⟨rfl, rfl⟩ := h
    have HG0 := Aside0.mk (hAsk_good HAG.out.symm)
    go_enter Try.func42, Try.ntmps42
    go_upto_region 3 with (first | ((with_reducible refine gate_callee (f := 85) rfl ?_); refine goesL_ (some 8) rfl rfl Try.func85 (by kernel_rfl) rfl #[.int .i64 a0, .slice A1 l1.length c1] rfl (by (try simp only [List.map_toArray, List.map_cons, List.map_nil]); first | done | rfl) ?_; refine (impl_isStocked.calls 9 a0 A1 c1 l1 _ _ HC1.out HL1.out HA.out).mono ?_; rintro e_ w_1 ⟨rfl, hb_⟩; refine ⟨_, rfl, ?_⟩; have n0_ : Aside0 (Below w.heap.size w w_1) := ⟨Hx.bb_below hb_ (by first | exact HB.out | exact below_drew1 HB.out | exact pw_below_drewN HB.out _)⟩; have n1_ : Aside0 (Kd.C (Kd.int .i64) w_1 A1 l1.length l1) := ⟨Kd.C_below HC1.out hb_⟩; (try clear HB); (try clear HC1); have HB := n0_; have HC1 := n1_; clear n0_ n1_; clear hb_))
    go_wp2_with (first | (go_at_call 87; refine (vill_of a0 ⟨HG0.out.1.1, HG0.out.1.2.1⟩ A1 c1 _ (Kd.C_below HC1.out (below_alloc (Below.refl _ _) _))).mono ?_; rintro e_ w_3 ⟨rfl, hb_⟩; have HS : Aside0 (Hou w_3 w_1.heap.size) := ⟨Hm.Mem.below (hou_made w_1) hb_⟩; have n0_ : Aside0 (Below w.heap.size w w_3) := ⟨Hx.bb_below hb_ (below_alloc HB.out _)⟩; have ZZ := Aside0.mk (show w.heap.size ≤ w_1.heap.size from HB.out.size); clear HB HC1 hb_; have HB := n0_; clear n0_) | (go_at_call 86; refine (good_of w_1.heap.size (vOf a0 l1) (vOf_good HG0.out.1 HG0.out.2.1) HG0.out.2.2 _ rfl w_3 HS.out).mono ?_; rintro e_ w_4 ⟨v_, rfl, hr_, hs_, hg_⟩; have HR := Aside0.mk (Kd.S_lower hr_ HB.out.size); have HB5 := Aside0.mk (Hx.bb_grown HB.out hg_ ZZ.out); clear HB HS hs_ hg_ hr_; have HB := HB5; clear HB5))
    go_ret2
    exact ⟨_, rfl, HR.out, HB.out⟩


-- FOR spec.hoTable
-- KIND rounds=1 making=1
-- USES kd int
-- USES info int
/-! ### spec_hoTable: function 83 -/
mutual
def spec_hoTable.l0 : Nat → Int → Int → Option (List Int)
  | 0, _, _ => none
  | k + 1, x1, x2 => if x2 < 3 then (spec_hoTable.l0 k (wrap64 (x1 * 9)) (wrap64 (x2 + 1))) else (if 0 ≤ x1 then (if (x1 : Int).toNat ≤ 35184372088832 then ((some (List.replicate (x1 : Int).toNat 0 : List Int)).bind fun y129 => (spec_hoTable.l1 k y129 (y129.length : Int) 0)) else (none)) else (none))
def spec_hoTable.l1 : Nat → List Int → Int → Int → Option (List Int)
  | 0, _, _, _ => none
  | k + 1, x3, x14, x15 => if x15 < x14 then (if 0 ≤ x15 then (if x15 < (x3.length : Int) then (spec_hoTable.l1 k (x3.set (x15 : Int).toNat (-1)) x14 (wrap64 (x15 + 1))) else (none)) else (none)) else (some x3)
end
def spec_hoTable.f (k : Nat)  : Option (List Int) := spec_hoTable.l0 k 7 0
theorem spec_hoTable.mono_l : ∀ k, (∀ y0 y1, LeO (spec_hoTable.l0 k y0 y1) (spec_hoTable.l0 (k + 1) y0 y1)) ∧ (∀ y0 y1 y2, LeO (spec_hoTable.l1 k y0 y1 y2) (spec_hoTable.l1 (k + 1) y0 y1 y2))
  | 0 => ⟨fun _ _ r h => by simp [spec_hoTable.l0] at h, fun _ _ _ r h => by simp [spec_hoTable.l1] at h⟩
  | k + 1 => by
    obtain ⟨ih0, ih1⟩ := spec_hoTable.mono_l k
    refine ⟨?_, ?_⟩
    · intro y0 y1
      unfold spec_hoTable.l0
      repeat' first
      | (with_reducible exact ih0 _ _)
      | (with_reducible exact ih1 _ _ _)
      | (with_reducible exact LeO.refl _)
      | (with_reducible exact LeO.none _)
      | (with_reducible refine LeO.ite ?_ ?_)
      | (with_reducible refine LeO.bind ?_ (fun _ => ?_))
      | exact ih0 _ _
      | exact ih1 _ _ _
      | exact LeO.none _
      | refine LeO.ite ?_ ?_
      | refine LeO.bind ?_ (fun _ => ?_)
    · intro y0 y1 y2
      unfold spec_hoTable.l1
      repeat' first
      | (with_reducible exact ih0 _ _)
      | (with_reducible exact ih1 _ _ _)
      | (with_reducible exact LeO.refl _)
      | (with_reducible exact LeO.none _)
      | (with_reducible refine LeO.ite ?_ ?_)
      | (with_reducible refine LeO.bind ?_ (fun _ => ?_))
      | exact ih0 _ _
      | exact ih1 _ _ _
      | exact LeO.none _
      | refine LeO.ite ?_ ?_
      | refine LeO.bind ?_ (fun _ => ?_)
theorem spec_hoTable.mono : ∀ k, LeO (spec_hoTable.f k ) (spec_hoTable.f (k + 1) ) := by
  intro  k
  obtain ⟨ih0, ih1⟩ := spec_hoTable.mono_l k
  unfold spec_hoTable.f
  repeat' first
      | (with_reducible exact ih0 _ _)
      | (with_reducible exact ih1 _ _ _)
      | (with_reducible exact LeO.refl _)
      | (with_reducible exact LeO.none _)
      | (with_reducible refine LeO.ite ?_ ?_)
      | (with_reducible refine LeO.bind ?_ (fun _ => ?_))
      | exact ih0 _ _
      | exact ih1 _ _ _
      | exact LeO.none _
      | refine LeO.ite ?_ ?_
      | refine LeO.bind ?_ (fun _ => ?_)
set_option maxHeartbeats 8000000 in
set_option maxRecDepth 100000 in
theorem spec_hoTable.calls (k : Nat)  (r : List Int) (w : World) (h : spec_hoTable.f k  = some r) :
    Calls Try.prog 83 #[] w fun e w' => ∃ v0_ : Value, e = .returned (v0_) ∧ Kd.R (Kd.int .i64) 3 w' w.heap.size (fun _ => True) v0_ r ∧ Below w.heap.size w w' := by
  have HB := Aside0.mk (Below.refl w.heap.size w)
  have H : (spec_hoTable.l0 k 7 0) = some r := h
  clear h
  have H' := Aside0.mk H
  clear H
  go_enter Try.func83, Try.ntmps83
  go_wp2
  go_loopg [1, 2] k (fun kq v1 v2 w' => ∃ (x1_1 : Int) (x2_1 : Int), v1 = .int .i64 x1_1 ∧ v2 = .int .i64 x2_1 ∧ Aside0 (spec_hoTable.l0 kq x1_1 x2_1 = some r) ∧ Aside0 (kq ≤ k) ∧ Aside0 (Below w.heap.size w w'))
  case atStart => exact ⟨(7), (0), (by first | rfl | (simp; done) | (simp [*]; done)), (by first | rfl | (simp; done) | (simp [*]; done)), H', ⟨Nat.le_refl _⟩, ⟨by repeat (first | (with_reducible first | exact HB.out | apply below_alloc | apply pw_below_drewN | apply below_drew1) | exact HB.out)⟩⟩
  case round =>
    clear H'
    obtain ⟨x1_1, x2_1, rfl, rfl, HA, HK1, HB⟩ := hrel
    cases gk with
    | zero => exact absurd HA.out (by simp [spec_hoTable.l0])
    | succ k1 =>
      have H := HA.out
      clear HA
      simp only [spec_hoTable.l0] at H
      by_cases c1 : x2_1 < 3
      · rw [if_pos c1] at H
        have c1b0 : decide (x2_1 < 3) = true := decide_eq_true c1
        clear c1
        have H' := Aside0.mk H
        clear H
        go_wp2
        go_roundg k1
        case measure => have := HK1.out; omega
        case rel => exact ⟨(wrap64 (x1_1 * 9)), (wrap64 (x2_1 + 1)), (by first | rfl | (simp; done) | (simp [*]; done)), (by first | rfl | (simp; done) | (simp [*]; done)), H', ⟨by have := HK1.out; omega⟩, ⟨by repeat (first | (with_reducible first | exact HB.out | apply below_alloc | apply pw_below_drewN | apply below_drew1) | exact HB.out)⟩⟩
      · rw [if_neg c1] at H
        have c1b0 : decide (x2_1 < 3) = false := decide_eq_false c1
        clear c1
        by_cases c2 : 0 ≤ x1_1
        · rw [if_pos c2] at H
          have c2b0 := eq_true c2
          have c2b1 : decide (0 ≤ x1_1) = true := decide_eq_true c2
          clear c2
          by_cases c3 : (x1_1 : Int).toNat ≤ 35184372088832
          · rw [if_pos c3] at H
            have c3b0 := eq_true c3
            have c3b1 : decide ((x1_1 : Int).toNat ≤ 35184372088832) = true := decide_eq_true c3
            clear c3
            obtain ⟨y129, hy129⟩ : ∃ y_ : List Int, y_ = (List.replicate (x1_1 : Int).toNat 0) := ⟨_, rfl⟩
            replace H : (spec_hoTable.l1 k1 y129 (y129.length : Int) 0) = some r := by first | (rw [hy129]; with_reducible exact H) | (have H2_ := (Option.bind_some _ _).symm.trans H; rw [hy129]; with_reducible exact H2_) | (have H2_ := (Option.bind_some _ _).symm.trans H; with_reducible exact H2_) | with_reducible exact H | (rw [hy129]; exact H) | exact H
            have Ny129 := Aside0.mk hy129
            clear hy129
            have H' := Aside0.mk H
            clear H
            go_wp2_with (first | ((with_reducible refine gate_dst (N := 12) rfl ?_); refine Kd.R_make (Kd.int .i64) _ 3 rfl (N := 12) rfl 46 _ _ rfl x1_1 rfl rfl Try.underlying46 (.int .i64 0) 8 info3 rfl (by decide) (by omega) 0 (ok := fun _ => True) (okp := fun _ => True) rfl (fun _ hk => hk) trivial (of_decide_eq_true (by first | (with_reducible assumption) | assumption)) (Nat.le_trans (Nat.mul_le_mul_right _ (of_decide_eq_true (by first | (with_reducible assumption) | assumption) : x1_1.toNat ≤ 35184372088832)) (by omega)) (Below.refl _ _) (Nat.le_refl _) ?_; intro v130 w4 ho5 hb hg_ hnew_; clear hg_ hnew_; (first | rw [← Ny129.out] at ho5 | (simp only [Int.reduceToNat] at ho5; rw [← Ny129.out] at ho5)); have n0_ := Aside0.mk (Kd.R_lower ho5 (below_size (by repeat (first | (with_reducible first | exact HB.out | apply below_alloc | apply pw_below_drewN | apply below_drew1) | exact HB.out)))); have n1_ := Aside0.mk (below_step (by repeat (first | (with_reducible first | exact HB.out | apply below_alloc | apply pw_below_drewN | apply below_drew1) | exact HB.out)) hb); clear HB; have HO131 := n0_; have HB := n1_; clear n0_ n1_; clear hb ho5; obtain ⟨Ao6, co6, eo6⟩ := Kd.R_slice HO131.out; subst eo6))
            go_loopg [15] k1 (fun kq v15 w' => ∃ (x3_2 : List Int) (x15_2 : Int), v15 = .int .i64 x15_2 ∧ Aside0 (spec_hoTable.l1 kq x3_2 (y129.length : Int) x15_2 = some r) ∧ Aside0 (kq ≤ k1) ∧ Aside0 (Kd.R (Kd.int .i64) 3 w' w.heap.size (fun _ => True) (.slice Ao6 y129.length co6) x3_2) ∧ Aside0 (Below w.heap.size w w'))
            case atStart => exact ⟨(y129), (0), (by first | rfl | (simp; done) | (simp [*]; done)), H', ⟨Nat.le_refl _⟩, ⟨by (with_reducible repeat (first | apply Kd.R_alloc | apply Kd.R_drewN | apply Kd.R_drew)); exact HO131.out⟩, ⟨by repeat (first | (with_reducible first | exact HB.out | apply below_alloc | apply pw_below_drewN | apply below_drew1) | exact HB.out)⟩⟩
            case round =>
              clear H'
              try clear c1
              try clear c1b0
              try clear c2
              try clear c2b0
              try clear c2b1
              try clear p2
              try clear c3
              try clear c3b0
              try clear c3b1
              try clear p6
              obtain ⟨x3_2, x15_2, rfl, HA, HK2, HO_3, HB⟩ := hrel
              have hl3_2 := (Kd.R_reads' HO_3.out).1
              rw [hl3_2] at HO_3
              (try simp only [hl3_2])
              cases gk with
              | zero => exact absurd HA.out (by simp [spec_hoTable.l1])
              | succ k2 =>
                have H := HA.out
                clear HA
                simp only [spec_hoTable.l1] at H
                by_cases c7 : x15_2 < (y129.length : Int)
                · rw [if_pos c7] at H
                  have c7b0 : decide (x15_2 < (y129.length : Int)) = true := decide_eq_true c7
                  clear c7
                  by_cases c8 : 0 ≤ x15_2
                  · rw [if_pos c8] at H
                    have c8b0 : decide (0 ≤ x15_2) = true := decide_eq_true c8
                    clear c8
                    by_cases c9 : x15_2 < (x3_2.length : Int)
                    · rw [if_pos c9] at H
                      have c9b0 : decide (x15_2 < (x3_2.length : Int)) = true := decide_eq_true c9
                      clear c9
                      obtain ⟨y132, hy132⟩ : ∃ y_ : List Int, y_ = (x3_2.set (x15_2 : Int).toNat (-1)) := ⟨_, rfl⟩
                      replace H : (spec_hoTable.l1 k2 y132 (y129.length : Int) (wrap64 (x15_2 + 1))) = some r := by first | (rw [hy132]; with_reducible exact H) | (have H2_ := (Option.bind_some _ _).symm.trans H; rw [hy132]; with_reducible exact H2_) | (have H2_ := (Option.bind_some _ _).symm.trans H; with_reducible exact H2_) | with_reducible exact H | (rw [hy132]; exact H) | exact H
                      have Ny132 := Aside0.mk hy132
                      clear hy132
                      have H' := Aside0.mk H
                      clear H
                      have p10 : 0 ≤ (x15_2 : Int) := of_decide_eq_true (by first | (with_reducible assumption) | assumption)
                      have q10 : (x15_2 : Int) < ((x3_2.length : Int) : Int) := of_decide_eq_true (by first | (with_reducible assumption) | assumption)
                      obtain ⟨go10, co10, eo10, gb10, gl10, cl10, HG10⟩ := Kd.R_form HO_3.out (by omega)
                      (first | cases eo10 | (injection eo10 with ea_ en_ ec_; (first | subst ea_ | (injection ea_ with ea_; subst ea_)); subst ec_; clear en_))
                      have GB10 := Aside0.mk gb10
                      have GG10 := Aside0.mk HG10
                      clear gb10 gl10 HG10
                      obtain ⟨hx10_0, hf10_0⟩ := Kd.R_celln 0 HO_3.out (x15_2 : Int) p10 q10
                      replace p10 := eq_true p10
                      replace q10 := eq_true q10
                      have HP11 := Kd.R_putg HO_3.out (x15_2 : Int) (-1)
                      go_wp2_with (first | ((with_reducible refine gate_store (t := 3) (p := 20) rfl ?_); refine store_event (t := 3) (p := 20) (v := ?vo_w12) (w1 := (wr.setCell ⟨go10, (x15_2 : Int).toNat, none⟩ (.int .i64 (-1)))) ?hg ?ho ?hn ?hr ?_; (case ho => rfl); (case hg => rfl); (case hn => rfl); (case hr => first | (go_simp; done) | (go_simp; rfl)); intro w12 hw; have hg : wr.grownBy w12 (some go10) := (by rw [hw]; exact HP11.2); have hp_ : Kd.R (Kd.int .i64) 3 w12 w.heap.size (fun _ => True) (.slice (some ⟨go10, 0, none⟩) x3_2.length co6) y132 := (by rw [hw, Ny132.out]; exact HP11.1); clear HP11; have n0_ := Aside0.mk (hp_); have n1_ := Aside0.mk ((by rw [hw]; exact below_set (HB.out) GB10.out : Below w.heap.size w w12)); clear HO_3; clear HB; have HO_3 := n0_; have HB := n1_; clear n0_ n1_; clear hg hw hp_))
                      (try simp only [← hl3_2])
                      go_roundg k2
                      case measure => have := HK1.out; have := HK2.out; omega
                      case rel => exact ⟨(y132), (wrap64 (x15_2 + 1)), (by first | rfl | (simp; done) | (simp [*]; done)), H', ⟨by have := HK1.out; have := HK2.out; omega⟩, ⟨by (try simp only [hl3_2]); (with_reducible repeat (first | apply Kd.R_alloc | apply Kd.R_drewN | apply Kd.R_drew)); exact HO_3.out⟩, ⟨by repeat (first | (with_reducible first | exact HB.out | apply below_alloc | apply pw_below_drewN | apply below_drew1) | exact HB.out)⟩⟩
                    · rw [if_neg c9] at H
                      exact absurd H (by simp)
                  · rw [if_neg c8] at H
                    exact absurd H (by simp)
                · rw [if_neg c7] at H
                  have c7b0 : decide (x15_2 < (y129.length : Int)) = false := decide_eq_false c7
                  rw [hl3_2] at c7b0
                  clear c7
                  obtain rfl := Option.some.inj H
                  go_wp2
                  go_ret
                  exact ⟨_, by first | rfl | (simp [errW_none, errW_some] <;> rfl) | (simp [*, errW_none, errW_some] <;> rfl), by (with_reducible repeat (first | apply Kd.R_alloc | apply Kd.R_drewN | apply Kd.R_drew)); exact HO_3.out, by repeat (first | (with_reducible first | exact HB.out | apply below_alloc | apply pw_below_drewN | apply below_drew1) | exact HB.out)⟩
          · rw [if_neg c3] at H
            exact absurd H (by simp)
        · rw [if_neg c2] at H
          exact absurd H (by simp)



-- FOR spec.GoodHouseDrops
-- KIND rounds=0 making=1
-- CALLS impl.GoodHouseDrops ; spec.hoDrops ; spec.hoAsked ; spec.hoTable
-- USES kd [][]int

theorem hoT_l1 (n : Nat) (hn : n ≤ 38416) : ∀ (d k i : Nat), d + i = n → d < k → spec_hoTable.l1 k (List.replicate i (-1) ++ List.replicate d 0) (n : Int) (i : Int) = some (List.replicate n (-1))
  | 0, k, i, h, hk => by
    obtain ⟨k, rfl⟩ : ∃ m, k = m + 1 := ⟨k - 1, by omega⟩
    rw [spec_hoTable.l1, if_neg (by omega)]
    have : i = n := by omega
    subst this
    simp
  | d + 1, k, i, h, hk => by
    obtain ⟨k, rfl⟩ : ∃ m, k = m + 1 := ⟨k - 1, by omega⟩
    rw [spec_hoTable.l1, if_pos (by omega), if_pos (by omega), if_pos (by simp; omega), Hw.wrap_id (by omega) (by omega)]
    have ih := hoT_l1 n hn d k (i + 1) (by omega) (by omega)
    have e : (List.replicate i (-1 : Int) ++ List.replicate (d + 1) 0).set i (-1) = List.replicate (i + 1) (-1) ++ List.replicate d 0 := by
      have h2 := Hw.set_next (List.replicate i (-1 : Int)) d 0 (-1)
      rw [List.length_replicate] at h2
      rw [h2, List.replicate_succ' (n := i)]
    rw [Int.toNat_natCast, e, show (i : Int) + 1 = ((i + 1 : Nat) : Int) by omega]
    exact ih
theorem hoT_all (n : Nat) (hn : n ≤ 38416) : spec_hoTable.l1 (n + 1) (List.replicate n 0) (n : Int) 0 = some (List.replicate n (-1)) := by
  have h := hoT_l1 n hn n (n + 1) 0 (by omega) (by omega)
  simpa using h
theorem hoTable_is : spec_hoTable.f 5108 = some (List.replicate 5103 (-1)) := by
  have w1 : wrap64 (0 + 1) = 1 := Hw.wrap_id (by omega) (by omega)
  have w2 : wrap64 (1 + 1) = 2 := Hw.wrap_id (by omega) (by omega)
  have w3 : wrap64 (2 + 1) = 3 := Hw.wrap_id (by omega) (by omega)
  have m1 : wrap64 (7 * 9) = 63 := Hw.wrap_id (by omega) (by omega)
  have m2 : wrap64 (63 * 9) = 567 := Hw.wrap_id (by omega) (by omega)
  have m3 : wrap64 (567 * 9) = 5103 := Hw.wrap_id (by omega) (by omega)
  unfold spec_hoTable.f
  rw [spec_hoTable.l0, if_pos (by omega), m1, w1, spec_hoTable.l0, if_pos (by omega), m2, w2, spec_hoTable.l0, if_pos (by omega), m3, w3, spec_hoTable.l0, if_neg (by omega), if_pos (by omega), if_pos (by omega), Option.bind_some, List.length_replicate]
  have e2 : (5103 : Int).toNat = 5103 := rfl
  rw [e2]
  exact hoT_all 5103 (by omega)
theorem htab_of {w : World} {b : Nat} {v : Value} (h : Kd.R (Kd.int .i64) 3 w b (fun _ => True) v (List.replicate 5103 (-1))) : ∃ tb c0 : Nat, v = .slice (some ⟨tb, 0, none⟩) 5103 c0 ∧ HTab w tb c0 ∧ b ≤ tb := by
  obtain ⟨g, cap, e, h1, h2, _⟩ := Kd.R_form h (by rw [List.length_replicate]; omega)
  rw [List.length_replicate] at e
  subst e
  refine ⟨g, cap, rfl, ⟨List.replicate 5103 (-1), ?_, fun k hk => .inl ?_⟩, h1⟩
  · obtain ⟨h0, inner, ho, hr⟩ := Kd.R_lower h (Nat.zero_le b)
    exact ⟨fun k hk => by simpa [Value.ownBlock] using hk.symm, inner, ho, hr⟩
  · rw [List.getElem?_replicate, if_pos (vPlace_lt hk)]
theorem lst_of {w w' : World} {A : Option Addr} {l : List Int} {tb : Nat} (h : Kd.C (Kd.int .i64) w A l.length l) (hl : 1 ≤ l.length) (hb : Below w.heap.size w w') (ht : w.heap.size ≤ tb) : Lst w' tb A l :=
  ⟨Kd.C_below h hb, fun ad ha => by subst ha; have := Kd.C_lt h (by omega) (by decide); omega⟩

def spec_GoodHouseDrops.f (a0 : Int) (l1 : List Int) : Option (List (List Int) × Bool) := some (goodH a0 l1)
set_option maxHeartbeats 8000000 in
set_option maxRecDepth 100000 in
theorem spec_GoodHouseDrops.calls (a0 : Int) (A1 : Option Addr) (c1 : Nat) (l1 : List Int) (r1 : List (List Int)) (r2 : Bool) (w : World) (hr1 : Kd.C (Kd.int .i64) w A1 l1.length l1) (hc1 : l1.length ≤ c1) (h : spec_GoodHouseDrops.f a0 l1 = some (r1, r2)) :
    Calls Try.prog 41 #[.int .i64 a0, .slice A1 l1.length c1] w fun e w' => ∃ v0_ : Value, e = .returned (.tuple #[v0_, .bool r2]) ∧ Kd.S (Kd.slice 3 (Kd.int .i64)) 46 w' w.heap.size (fun _ => True) v0_ r1 ∧ Below w.heap.size w w' := by
  have HB := Aside0.mk (Below.refl w.heap.size w)
  have HC1 := Aside0.mk hr1
  have HC0 := Aside0.mk hr1
  have HL1 := Aside0.mk hc1
  obtain ⟨b1, hb1⟩ : ∃ b, b = hAsk a0 l1 := ⟨_, rfl⟩
  have e1 := asked_is a0 l1
  unfold spec_GoodHouseDrops.f goodH at h
  rw [← hb1] at e1 h
  have HA := Aside0.mk e1
  have HAG := Aside0.mk hb1
  clear e1 hb1 hr1 hc1
  cases b1 with
  | false =>
    simp only [Bool.false_eq_true, if_false, Option.some.injEq, Prod.mk.injEq] at h
    obtain ⟨rfl, rfl⟩ := h
    go_enter Try.func41, Try.ntmps41
    go_wp2_with (first | ((with_reducible refine gate_callee (f := 80) rfl ?_); refine goesL_ (some 8) rfl rfl Try.func80 (by kernel_rfl) rfl #[.int .i64 a0, .slice A1 l1.length c1] rfl (by (try simp only [List.map_toArray, List.map_cons, List.map_nil]); first | done | rfl) ?_; refine (spec_hoAsked.calls 9 a0 A1 c1 l1 _ _ HC1.out HL1.out HA.out).mono ?_; rintro e_ w_1 ⟨rfl, hd_⟩; refine ⟨_, rfl, ?_⟩; have hb_ : Below _ _ w_1 := (by first | exact hd_ | exact hd_.below); clear hd_; have n0_ : Aside0 (Below w.heap.size w w_1) := ⟨Hx.bb_below hb_ (by first | exact HB.out | exact below_drew1 HB.out | exact pw_below_drewN HB.out _)⟩; have n1_ : Aside0 (Kd.C (Kd.int .i64) w_1 A1 l1.length l1) := ⟨Kd.C_below HC1.out hb_⟩; (try clear HB); (try clear HC1); have HB := n0_; have HC1 := n1_; clear n0_ n1_; clear hb_))
    go_ret2
    exact ⟨_, rfl, Kd.S_nil _ _ _ _ _, HB.out⟩
  | true =>
    simp only [if_true, Option.some.injEq, Prod.mk.injEq] at h
    obtain ⟨rfl, rfl⟩ := h
    have HG0 := Aside0.mk (hAsk_good HAG.out.symm)
    go_enter Try.func41, Try.ntmps41
    go_upto_region 3 with (first | ((with_reducible refine gate_callee (f := 80) rfl ?_); refine goesL_ (some 8) rfl rfl Try.func80 (by kernel_rfl) rfl #[.int .i64 a0, .slice A1 l1.length c1] rfl (by (try simp only [List.map_toArray, List.map_cons, List.map_nil]); first | done | rfl) ?_; refine (spec_hoAsked.calls 9 a0 A1 c1 l1 _ _ HC1.out HL1.out HA.out).mono ?_; rintro e_ w_1 ⟨rfl, hd_⟩; refine ⟨_, rfl, ?_⟩; have hb_ : Below _ _ w_1 := (by first | exact hd_ | exact hd_.below); clear hd_; have n0_ : Aside0 (Below w.heap.size w w_1) := ⟨Hx.bb_below hb_ (by first | exact HB.out | exact below_drew1 HB.out | exact pw_below_drewN HB.out _)⟩; have n1_ : Aside0 (Kd.C (Kd.int .i64) w_1 A1 l1.length l1) := ⟨Kd.C_below HC1.out hb_⟩; (try clear HB); (try clear HC1); have HB := n0_; have HC1 := n1_; clear n0_ n1_; clear hb_))
    go_wp2_with (first | ((with_reducible refine gate_callee (f := 83) rfl ?_); refine goesL_ (some 10) rfl rfl Try.func83 (by kernel_rfl) rfl #[] rfl (by (try simp only [List.map_toArray, List.map_cons, List.map_nil]); first | done | rfl) ?_; refine (spec_hoTable.calls 5108 _ _ hoTable_is).mono ?_; rintro e_ w_2 ⟨v_, rfl, hr_, hb_⟩; refine ⟨_, rfl, ?_⟩; obtain ⟨tb, c0, rfl, ht_, hz_⟩ := htab_of hr_; have ZZ := Aside0.mk (show w.heap.size ≤ tb from Nat.le_trans HB.out.size hz_); have HB2 := Aside0.mk (Hx.bb_below hb_ HB.out); clear HB; have HB := HB2; clear HB2; have HT := Aside0.mk ht_; have LS := Aside0.mk (lst_of HC0.out HG0.out.1.1 HB.out ZZ.out); clear ht_ hb_ hr_ hz_) | ((with_reducible refine gate_callee (f := 82) rfl ?_); refine goesL_ (some 13) rfl rfl Try.func82 (by kernel_rfl) rfl #[.slice (some ⟨tb, 0, none⟩) 5103 c0, .int .i64 a0, .slice A1 l1.length c1] rfl (by (try simp only [List.map_toArray, List.map_cons, List.map_nil]); first | done | rfl) ?_; refine (hdrops_of tb c0 a0 l1 HG0.out.1 HG0.out.2.1 HG0.out.2.2 _ rfl A1 c1 _ HL1.out LS.out HT.out).mono ?_; rintro e_ w_3 ⟨v_, rfl, hr_, ht_, hg_⟩; refine ⟨_, rfl, ?_⟩; have HR := Aside0.mk (Kd.S_lower hr_ HB.out.size); have HB5 := Aside0.mk (Hx.bb_grown HB.out hg_ ZZ.out); clear HB HT LS hg_ ht_ hr_; have HB := HB5; clear HB5))
    go_ret2
    exact ⟨_, rfl, HR.out, HB.out⟩


end Go.Proofs.Ytoomacelbhojhaa.G
