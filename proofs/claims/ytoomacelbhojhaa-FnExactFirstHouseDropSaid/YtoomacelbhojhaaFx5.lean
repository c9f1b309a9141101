/- Plain Lean functions with the answers of Go functions, and proofs of it: printed by a program of this session (pr.py) over the kit's print, with hand-written parts. -/
import Derived.Test.YtoomacelbhojhaaFx0
import Derived.Test.YtoomacelbhojhaaFx1
import Derived.Test.YtoomacelbhojhaaFx2
import Derived.Test.YtoomacelbhojhaaFx3
import Derived.Test.YtoomacelbhojhaaFx4
namespace Go.Proofs.Ytoomacelbhojhaa.F
open Go.RowKit Go.Proofs.YtoomacelbhojhaaW.PrintWords Go.Proofs.YtoomacelbhojhaaW.PrintLast Go.Proofs.YtoomacelbhojhaaW.PrintMore
attribute [local go_sem] max2_int min2_int max_two min_two max_three min_three max_four min_four   -- for this text's walks alone
set_option linter.unusedVariables false
set_option linter.unusedSimpArgs false

-- FOR impl.villageOf
-- CALLS (impl.village).parts

theorem wpc_copy {P : Program} (w : World) {ops : Array Oper} {rest : List Oper} {o : Oper} {a : Act} {Q : Exit → Act → World → Prop} (hgd : o.guard = none) (d s : Operand) (t t' : TypeId)
    (ho : o.op = .call { callee := .builtin .copy, args := #[d, s], argTypes := #[t, t'] }) (v u : Value) (hd : a.eval d = v) (hs : a.eval s = u) {v' : Value} {w' : World}
    (hr : (Builtin.copy_ #[t, t'] o.type #[v, u]).run P w = .ok v' w') (h : wpList P ops Q rest (a.put o.dst v') w') : wpList P ops Q (o :: rest) a w := by
  refine wpList_plain hgd fun K hK => ?_
  unfold Oper.wp execOp
  simp only [ho, resolve, invoke, builtin, Sem.run_bind, Sem.run_pure, Result.andThen_ok, List.map_toArray, List.map_cons, List.map_nil, hd, hs, hr]
  exact hK _ _ h

theorem cpy1 (g : Nat) (W : World) {e : Int} {cc : Nat} {A : Option Addr} {a0 : Int} (hb : W.heap[g]? = some (.cells #[.int .i64 0, .int .i64 0, .int .i64 0, .int .i64 e] 101 (0, 0))) (hC : Kd.C (Kd.int .i64) W A 1 [a0]) (ty : TypeId) :
    (Builtin.copy_ #[46, 46] ty #[.slice (some ⟨g, 0, none⟩) 3 3, .slice A 1 cc]).run Try.prog W = .ok (.int .i64 1) ((W).setCell ⟨g, 0, none⟩ (.int .i64 a0)) := by
  obtain ⟨_, _, hA⟩ := Kd.reads_of_C (enc := Value.int .i64) (d := (0 : Int)) (h1 := fun _ => rfl) hC
  obtain ⟨ad, rfl, hc⟩ := hA (by decide)
  have h_ := run_copy_cells (P := Try.prog) W 46 46 ty 3 g 0 3 3 ad 1 cc [.int .i64 a0] Try.underlying46 (by kernel_rfl) rfl (by
    intro j u hu
    match j, hu with
    | 0, hu => exact (hc 0 (by decide)).trans hu
    | k + 1, hu => simp at hu) (by
    intro j hj
    match j, hj with
    | 0, hj => rw [show (⟨g, 0 + 0, none⟩ : Addr) = ⟨g, 0, none⟩ by simp, (blk_cell hb 0).trans rfl]; rfl
    | k + 1, hj => exact absurd hj (by simp)) (fun j _ => blk_frozen hb _) (by simp [Value.oneCell'])
  exact h_

set_option maxHeartbeats 8000000 in
set_option maxRecDepth 100000 in
theorem villageOf1 (e : Int) (A : Option Addr) (cc : Nat) (a0 : Int) (w : World) (hC : Kd.C (Kd.int .i64) w A 1 [a0]) :
    Calls Try.prog 87 #[.int .i64 e, .slice A 1 cc] w fun e_ w' => e_ = .returned (vCells (vOf e [a0])) ∧ Below w.heap.size w w' := by
  have HC0 := Aside0.mk hC
  have HB := Aside0.mk (Below.refl w.heap.size w)
  clear hC
  go_enter Try.func87, Try.ntmps87
  go_upto_region 2 with (first | ((with_reducible refine gate_dst (N := 4) rfl ?_); refine box_event ?hg (N := 4) ?hd (cs := #[.int .i64 0, .int .i64 0, .int .i64 0, .int .i64 0]) (t := 101) ?hr ?_; (case hd => rfl); (case hg => rfl); (case hr => first | (go_simp; done) | (go_simp; rfl)); intro gB4 hg_ w_gB4 BK_ hb_; have ORD_ : Aside0 ((True) ∧ (w.heap.size ≤ gB4)) := ⟨by refine ⟨trivial, ?_⟩; (have := HB.out.size); omega⟩; have ORD := ORD_; clear ORD_; have n0_ : Aside0 (Below w.heap.size w w_gB4) := ⟨Hx.bb_below hb_ (by first | exact HB.out | exact below_drew1 HB.out | exact pw_below_drewN HB.out _)⟩; have m0_ : Aside0 (w_gB4.heap[gB4]? = some (.cells #[.int .i64 0, .int .i64 0, .int .i64 0, .int .i64 0] 101 (0, 0))) := ⟨BK_⟩; (try clear HB); have HB := n0_; have B4 := m0_; clear n0_ m0_; have cB4_0 : w_gB4.cell? ⟨gB4, 0, none⟩ = some (.int .i64 0) := (blk_cell B4.out 0).trans rfl; have dB4_0 := blk_frozen B4.out 0; have cB4_1 : w_gB4.cell? ⟨gB4, 1, none⟩ = some (.int .i64 0) := (blk_cell B4.out 1).trans rfl; have dB4_1 := blk_frozen B4.out 1; have cB4_2 : w_gB4.cell? ⟨gB4, 2, none⟩ = some (.int .i64 0) := (blk_cell B4.out 2).trans rfl; have dB4_2 := blk_frozen B4.out 2; have cB4_3 : w_gB4.cell? ⟨gB4, 3, none⟩ = some (.int .i64 0) := (blk_cell B4.out 3).trans rfl; have dB4_3 := blk_frozen B4.out 3; clear hg_ BK_ hb_) | ((with_reducible refine gate_dst (N := 5) rfl ?_); refine box_event ?hg (N := 5) ?hd (cs := #[.int .i64 0, .int .i64 0, .int .i64 0, .int .i64 0]) (t := 101) ?hr ?_; (case hd => rfl); (case hg => rfl); (case hr => first | (go_simp; done) | (go_simp; rfl)); intro gB5 hg_ w_gB5 BK_ hb_; have ORD_ : Aside0 (((True) ∧ (w.heap.size ≤ gB4)) ∧ (gB4 < gB5 ∧ w.heap.size ≤ gB5)) := ⟨by refine ⟨ORD.out, ?_⟩; (have := HB.out.size); (have := blk_lt B4.out); omega⟩; clear ORD; have ORD := ORD_; clear ORD_; have n0_ : Aside0 (Below w.heap.size w w_gB5) := ⟨Hx.bb_below hb_ (by first | exact HB.out | exact below_drew1 HB.out | exact pw_below_drewN HB.out _)⟩; have n1_ : Aside0 (w_gB5.heap[gB4]? = some (.cells #[.int .i64 0, .int .i64 0, .int .i64 0, .int .i64 0] 101 (0, 0))) := ⟨Hx.b_below hb_ B4.out⟩; have m0_ : Aside0 (w_gB5.heap[gB5]? = some (.cells #[.int .i64 0, .int .i64 0, .int .i64 0, .int .i64 0] 101 (0, 0))) := ⟨BK_⟩; (try clear cB4_0 dB4_0 cB4_1 dB4_1 cB4_2 dB4_2 cB4_3 dB4_3); (try clear HB); (try clear B4); have HB := n0_; have B4 := n1_; have B5 := m0_; clear n0_ n1_ m0_; have cB4_0 : w_gB5.cell? ⟨gB4, 0, none⟩ = some (.int .i64 0) := (blk_cell B4.out 0).trans rfl; have dB4_0 := blk_frozen B4.out 0; have cB4_1 : w_gB5.cell? ⟨gB4, 1, none⟩ = some (.int .i64 0) := (blk_cell B4.out 1).trans rfl; have dB4_1 := blk_frozen B4.out 1; have cB4_2 : w_gB5.cell? ⟨gB4, 2, none⟩ = some (.int .i64 0) := (blk_cell B4.out 2).trans rfl; have dB4_2 := blk_frozen B4.out 2; have cB4_3 : w_gB5.cell? ⟨gB4, 3, none⟩ = some (.int .i64 0) := (blk_cell B4.out 3).trans rfl; have dB4_3 := blk_frozen B4.out 3; have cB5_0 : w_gB5.cell? ⟨gB5, 0, none⟩ = some (.int .i64 0) := (blk_cell B5.out 0).trans rfl; have dB5_0 := blk_frozen B5.out 0; have cB5_1 : w_gB5.cell? ⟨gB5, 1, none⟩ = some (.int .i64 0) := (blk_cell B5.out 1).trans rfl; have dB5_1 := blk_frozen B5.out 1; have cB5_2 : w_gB5.cell? ⟨gB5, 2, none⟩ = some (.int .i64 0) := (blk_cell B5.out 2).trans rfl; have dB5_2 := blk_frozen B5.out 2; have cB5_3 : w_gB5.cell? ⟨gB5, 3, none⟩ = some (.int .i64 0) := (blk_cell B5.out 3).trans rfl; have dB5_3 := blk_frozen B5.out 3; clear hg_ BK_ hb_) | ((with_reducible refine gate_store (t := 101) (p := 5) rfl ?_); refine store_event (t := 101) (p := 5) (v := ?vo_w1) (w1 := (((((w_gB5).setCell ⟨gB5, 0, none⟩ (.int .i64 0)).setCell ⟨gB5, 1, none⟩ (.int .i64 0)).setCell ⟨gB5, 2, none⟩ (.int .i64 0)).setCell ⟨gB5, 3, none⟩ (.int .i64 e))) ?hg ?ho ?hn ?hr ?_; (case ho => rfl); (case hg => rfl); (case hn => rfl); (case hr => first | (go_simp; done) | (go_simp; rfl)); intro w_1 hw_; have n0_ : Aside0 (Below w.heap.size w w_1) := ⟨by rw [hw_]; exact below_set (g := gB5) (below_set (g := gB5) (below_set (g := gB5) (below_set (g := gB5) HB.out (by have := ORD.out; omega)) (by have := ORD.out; omega)) (by have := ORD.out; omega)) (by have := ORD.out; omega)⟩; have n1_ : Aside0 (w_1.heap[gB4]? = some (.cells #[.int .i64 0, .int .i64 0, .int .i64 0, .int .i64 0] 101 (0, 0))) := ⟨by rw [hw_]; exact blk_far (blk_far (blk_far (blk_far B4.out (show gB4 ≠ gB5 by have := ORD.out; omega) _) (show gB4 ≠ gB5 by have := ORD.out; omega) _) (show gB4 ≠ gB5 by have := ORD.out; omega) _) (show gB4 ≠ gB5 by have := ORD.out; omega) _⟩; have n2_ : Aside0 (w_1.heap[gB5]? = some (.cells #[.int .i64 0, .int .i64 0, .int .i64 0, .int .i64 e] 101 (0, 0))) := ⟨by rw [hw_]; exact blk_put (blk_put (blk_put (blk_put B5.out 0 _ rfl) 1 _ rfl) 2 _ rfl) 3 _ rfl⟩; (try clear cB4_0 dB4_0 cB4_1 dB4_1 cB4_2 dB4_2 cB4_3 dB4_3 cB5_0 dB5_0 cB5_1 dB5_1 cB5_2 dB5_2 cB5_3 dB5_3); (try clear HB); (try clear B4); (try clear B5); have HB := n0_; have B4 := n1_; have B5 := n2_; clear n0_ n1_ n2_; have cB4_0 : w_1.cell? ⟨gB4, 0, none⟩ = some (.int .i64 0) := (blk_cell B4.out 0).trans rfl; have dB4_0 := blk_frozen B4.out 0; have cB4_1 : w_1.cell? ⟨gB4, 1, none⟩ = some (.int .i64 0) := (blk_cell B4.out 1).trans rfl; have dB4_1 := blk_frozen B4.out 1; have cB4_2 : w_1.cell? ⟨gB4, 2, none⟩ = some (.int .i64 0) := (blk_cell B4.out 2).trans rfl; have dB4_2 := blk_frozen B4.out 2; have cB4_3 : w_1.cell? ⟨gB4, 3, none⟩ = some (.int .i64 0) := (blk_cell B4.out 3).trans rfl; have dB4_3 := blk_frozen B4.out 3; have cB5_0 : w_1.cell? ⟨gB5, 0, none⟩ = some (.int .i64 0) := (blk_cell B5.out 0).trans rfl; have dB5_0 := blk_frozen B5.out 0; have cB5_1 : w_1.cell? ⟨gB5, 1, none⟩ = some (.int .i64 0) := (blk_cell B5.out 1).trans rfl; have dB5_1 := blk_frozen B5.out 1; have cB5_2 : w_1.cell? ⟨gB5, 2, none⟩ = some (.int .i64 0) := (blk_cell B5.out 2).trans rfl; have dB5_2 := blk_frozen B5.out 2; have cB5_3 : w_1.cell? ⟨gB5, 3, none⟩ = some (.int .i64 e) := (blk_cell B5.out 3).trans rfl; have dB5_3 := blk_frozen B5.out 3; clear hw_))
  have hcp := cpy1 gB5 w_1 (cc := cc) B5.out (Kd.C_below HC0.out HB.out) 3
  go_upto_region 3 with fail
  clear hcp
  have n0_ : Aside0 (Below w.heap.size w ((w_1).setCell ⟨gB5, 0, none⟩ (.int .i64 a0))) := ⟨below_set (g := gB5) HB.out (by have := ORD.out; omega)⟩
  have n1_ : Aside0 (((w_1).setCell ⟨gB5, 0, none⟩ (.int .i64 a0)).heap[gB4]? = some (.cells #[.int .i64 0, .int .i64 0, .int .i64 0, .int .i64 0] 101 (0, 0))) := ⟨blk_far B4.out (show gB4 ≠ gB5 by have := ORD.out; omega) _⟩
  have n2_ : Aside0 (((w_1).setCell ⟨gB5, 0, none⟩ (.int .i64 a0)).heap[gB5]? = some (.cells #[.int .i64 a0, .int .i64 0, .int .i64 0, .int .i64 e] 101 (0, 0))) := ⟨blk_put B5.out 0 _ rfl⟩
  (try clear cB4_0 dB4_0 cB4_1 dB4_1 cB4_2 dB4_2 cB4_3 dB4_3 cB5_0 dB5_0 cB5_1 dB5_1 cB5_2 dB5_2 cB5_3 dB5_3)
  (try clear HB)
  (try clear B4)
  (try clear B5)
  generalize (w_1).setCell ⟨gB5, 0, none⟩ (.int .i64 a0) = w_2 at n0_ n1_ n2_ ⊢
  have HB := n0_
  have B4 := n1_
  have B5 := n2_
  clear n0_ n1_ n2_
  have cB4_0 : w_2.cell? ⟨gB4, 0, none⟩ = some (.int .i64 0) := (blk_cell B4.out 0).trans rfl
  have dB4_0 := blk_frozen B4.out 0
  have cB4_1 : w_2.cell? ⟨gB4, 1, none⟩ = some (.int .i64 0) := (blk_cell B4.out 1).trans rfl
  have dB4_1 := blk_frozen B4.out 1
  have cB4_2 : w_2.cell? ⟨gB4, 2, none⟩ = some (.int .i64 0) := (blk_cell B4.out 2).trans rfl
  have dB4_2 := blk_frozen B4.out 2
  have cB4_3 : w_2.cell? ⟨gB4, 3, none⟩ = some (.int .i64 0) := (blk_cell B4.out 3).trans rfl
  have dB4_3 := blk_frozen B4.out 3
  have cB5_0 : w_2.cell? ⟨gB5, 0, none⟩ = some (.int .i64 a0) := (blk_cell B5.out 0).trans rfl
  have dB5_0 := blk_frozen B5.out 0
  have cB5_1 : w_2.cell? ⟨gB5, 1, none⟩ = some (.int .i64 0) := (blk_cell B5.out 1).trans rfl
  have dB5_1 := blk_frozen B5.out 1
  have cB5_2 : w_2.cell? ⟨gB5, 2, none⟩ = some (.int .i64 0) := (blk_cell B5.out 2).trans rfl
  have dB5_2 := blk_frozen B5.out 2
  have cB5_3 : w_2.cell? ⟨gB5, 3, none⟩ = some (.int .i64 e) := (blk_cell B5.out 3).trans rfl
  have dB5_3 := blk_frozen B5.out 3
  go_wp2_with (first | ((with_reducible refine gate_store (t := 101) (p := 4) rfl ?_); refine store_event (t := 101) (p := 4) (v := ?vo_w3) (w1 := (((((w_2).setCell ⟨gB4, 0, none⟩ (.int .i64 a0)).setCell ⟨gB4, 1, none⟩ (.int .i64 0)).setCell ⟨gB4, 2, none⟩ (.int .i64 0)).setCell ⟨gB4, 3, none⟩ (.int .i64 e))) ?hg ?ho ?hn ?hr ?_; (case ho => rfl); (case hg => rfl); (case hn => rfl); (case hr => first | (go_simp; done) | (go_simp; rfl)); intro w_3 hw_; have n0_ : Aside0 (Below w.heap.size w w_3) := ⟨by rw [hw_]; exact below_set (g := gB4) (below_set (g := gB4) (below_set (g := gB4) (below_set (g := gB4) HB.out (by have := ORD.out; omega)) (by have := ORD.out; omega)) (by have := ORD.out; omega)) (by have := ORD.out; omega)⟩; have n1_ : Aside0 (w_3.heap[gB4]? = some (.cells #[.int .i64 a0, .int .i64 0, .int .i64 0, .int .i64 e] 101 (0, 0))) := ⟨by rw [hw_]; exact blk_put (blk_put (blk_put (blk_put B4.out 0 _ rfl) 1 _ rfl) 2 _ rfl) 3 _ rfl⟩; have n2_ : Aside0 (w_3.heap[gB5]? = some (.cells #[.int .i64 a0, .int .i64 0, .int .i64 0, .int .i64 e] 101 (0, 0))) := ⟨by rw [hw_]; exact blk_far (blk_far (blk_far (blk_far B5.out (show gB5 ≠ gB4 by have := ORD.out; omega) _) (show gB5 ≠ gB4 by have := ORD.out; omega) _) (show gB5 ≠ gB4 by have := ORD.out; omega) _) (show gB5 ≠ gB4 by have := ORD.out; omega) _⟩; (try clear cB4_0 dB4_0 cB4_1 dB4_1 cB4_2 dB4_2 cB4_3 dB4_3 cB5_0 dB5_0 cB5_1 dB5_1 cB5_2 dB5_2 cB5_3 dB5_3); (try clear HB); (try clear B4); (try clear B5); have HB := n0_; have B4 := n1_; have B5 := n2_; clear n0_ n1_ n2_; have cB4_0 : w_3.cell? ⟨gB4, 0, none⟩ = some (.int .i64 a0) := (blk_cell B4.out 0).trans rfl; have dB4_0 := blk_frozen B4.out 0; have cB4_1 : w_3.cell? ⟨gB4, 1, none⟩ = some (.int .i64 0) := (blk_cell B4.out 1).trans rfl; have dB4_1 := blk_frozen B4.out 1; have cB4_2 : w_3.cell? ⟨gB4, 2, none⟩ = some (.int .i64 0) := (blk_cell B4.out 2).trans rfl; have dB4_2 := blk_frozen B4.out 2; have cB4_3 : w_3.cell? ⟨gB4, 3, none⟩ = some (.int .i64 e) := (blk_cell B4.out 3).trans rfl; have dB4_3 := blk_frozen B4.out 3; have cB5_0 : w_3.cell? ⟨gB5, 0, none⟩ = some (.int .i64 a0) := (blk_cell B5.out 0).trans rfl; have dB5_0 := blk_frozen B5.out 0; have cB5_1 : w_3.cell? ⟨gB5, 1, none⟩ = some (.int .i64 0) := (blk_cell B5.out 1).trans rfl; have dB5_1 := blk_frozen B5.out 1; have cB5_2 : w_3.cell? ⟨gB5, 2, none⟩ = some (.int .i64 0) := (blk_cell B5.out 2).trans rfl; have dB5_2 := blk_frozen B5.out 2; have cB5_3 : w_3.cell? ⟨gB5, 3, none⟩ = some (.int .i64 e) := (blk_cell B5.out 3).trans rfl; have dB5_3 := blk_frozen B5.out 3; clear hw_))
  exact bodyPost_ret (v := .agg #[.int .i64 a0, .int .i64 0, .int .i64 0, .int .i64 e]) (by simp [results, Try.results87, go_sem, cB4_0, cB4_1, cB4_2, cB4_3]) rfl ⟨rfl, HB.out⟩

theorem cpy2 (g : Nat) (W : World) {e : Int} {cc : Nat} {A : Option Addr} {a0 a1 : Int} (hb : W.heap[g]? = some (.cells #[.int .i64 0, .int .i64 0, .int .i64 0, .int .i64 e] 101 (0, 0))) (hC : Kd.C (Kd.int .i64) W A 2 [a0, a1]) (ty : TypeId) :
    (Builtin.copy_ #[46, 46] ty #[.slice (some ⟨g, 0, none⟩) 3 3, .slice A 2 cc]).run Try.prog W = .ok (.int .i64 2) (((W).setCell ⟨g, 0, none⟩ (.int .i64 a0)).setCell ⟨g, 1, none⟩ (.int .i64 a1)) := by
  obtain ⟨_, _, hA⟩ := Kd.reads_of_C (enc := Value.int .i64) (d := (0 : Int)) (h1 := fun _ => rfl) hC
  obtain ⟨ad, rfl, hc⟩ := hA (by decide)
  have h_ := run_copy_cells (P := Try.prog) W 46 46 ty 3 g 0 3 3 ad 2 cc [.int .i64 a0, .int .i64 a1] Try.underlying46 (by kernel_rfl) rfl (by
    intro j u hu
    match j, hu with
    | 0, hu => exact (hc 0 (by decide)).trans hu
    | 1, hu => exact (hc 1 (by decide)).trans hu
    | k + 2, hu => simp at hu) (by
    intro j hj
    match j, hj with
    | 0, hj => rw [show (⟨g, 0 + 0, none⟩ : Addr) = ⟨g, 0, none⟩ by simp, (blk_cell hb 0).trans rfl]; rfl
    | 1, hj => rw [show (⟨g, 0 + 1, none⟩ : Addr) = ⟨g, 1, none⟩ by simp, (blk_cell hb 1).trans rfl]; rfl
    | k + 2, hj => exact absurd hj (by simp)) (fun j _ => blk_frozen hb _) (by simp [Value.oneCell'])
  exact h_

set_option maxHeartbeats 8000000 in
set_option maxRecDepth 100000 in
theorem villageOf2 (e : Int) (A : Option Addr) (cc : Nat) (a0 a1 : Int) (w : World) (hC : Kd.C (Kd.int .i64) w A 2 [a0, a1]) :
    Calls Try.prog 87 #[.int .i64 e, .slice A 2 cc] w fun e_ w' => e_ = .returned (vCells (vOf e [a0, a1])) ∧ Below w.heap.size w w' := by
  have HC0 := Aside0.mk hC
  have HB := Aside0.mk (Below.refl w.heap.size w)
  clear hC
  go_enter Try.func87, Try.ntmps87
  go_upto_region 2 with (first | ((with_reducible refine gate_dst (N := 4) rfl ?_); refine box_event ?hg (N := 4) ?hd (cs := #[.int .i64 0, .int .i64 0, .int .i64 0, .int .i64 0]) (t := 101) ?hr ?_; (case hd => rfl); (case hg => rfl); (case hr => first | (go_simp; done) | (go_simp; rfl)); intro gB4 hg_ w_gB4 BK_ hb_; have ORD_ : Aside0 ((True) ∧ (w.heap.size ≤ gB4)) := ⟨by refine ⟨trivial, ?_⟩; (have := HB.out.size); omega⟩; have ORD := ORD_; clear ORD_; have n0_ : Aside0 (Below w.heap.size w w_gB4) := ⟨Hx.bb_below hb_ (by first | exact HB.out | exact below_drew1 HB.out | exact pw_below_drewN HB.out _)⟩; have m0_ : Aside0 (w_gB4.heap[gB4]? = some (.cells #[.int .i64 0, .int .i64 0, .int .i64 0, .int .i64 0] 101 (0, 0))) := ⟨BK_⟩; (try clear HB); have HB := n0_; have B4 := m0_; clear n0_ m0_; have cB4_0 : w_gB4.cell? ⟨gB4, 0, none⟩ = some (.int .i64 0) := (blk_cell B4.out 0).trans rfl; have dB4_0 := blk_frozen B4.out 0; have cB4_1 : w_gB4.cell? ⟨gB4, 1, none⟩ = some (.int .i64 0) := (blk_cell B4.out 1).trans rfl; have dB4_1 := blk_frozen B4.out 1; have cB4_2 : w_gB4.cell? ⟨gB4, 2, none⟩ = some (.int .i64 0) := (blk_cell B4.out 2).trans rfl; have dB4_2 := blk_frozen B4.out 2; have cB4_3 : w_gB4.cell? ⟨gB4, 3, none⟩ = some (.int .i64 0) := (blk_cell B4.out 3).trans rfl; have dB4_3 := blk_frozen B4.out 3; clear hg_ BK_ hb_) | ((with_reducible refine gate_dst (N := 5) rfl ?_); refine box_event ?hg (N := 5) ?hd (cs := #[.int .i64 0, .int .i64 0, .int .i64 0, .int .i64 0]) (t := 101) ?hr ?_; (case hd => rfl); (case hg => rfl); (case hr => first | (go_simp; done) | (go_simp; rfl)); intro gB5 hg_ w_gB5 BK_ hb_; have ORD_ : Aside0 (((True) ∧ (w.heap.size ≤ gB4)) ∧ (gB4 < gB5 ∧ w.heap.size ≤ gB5)) := ⟨by refine ⟨ORD.out, ?_⟩; (have := HB.out.size); (have := blk_lt B4.out); omega⟩; clear ORD; have ORD := ORD_; clear ORD_; have n0_ : Aside0 (Below w.heap.size w w_gB5) := ⟨Hx.bb_below hb_ (by first | exact HB.out | exact below_drew1 HB.out | exact pw_below_drewN HB.out _)⟩; have n1_ : Aside0 (w_gB5.heap[gB4]? = some (.cells #[.int .i64 0, .int .i64 0, .int .i64 0, .int .i64 0] 101 (0, 0))) := ⟨Hx.b_below hb_ B4.out⟩; have m0_ : Aside0 (w_gB5.heap[gB5]? = some (.cells #[.int .i64 0, .int .i64 0, .int .i64 0, .int .i64 0] 101 (0, 0))) := ⟨BK_⟩; (try clear cB4_0 dB4_0 cB4_1 dB4_1 cB4_2 dB4_2 cB4_3 dB4_3); (try clear HB); (try clear B4); have HB := n0_; have B4 := n1_; have B5 := m0_; clear n0_ n1_ m0_; have cB4_0 : w_gB5.cell? ⟨gB4, 0, none⟩ = some (.int .i64 0) := (blk_cell B4.out 0).trans rfl; have dB4_0 := blk_frozen B4.out 0; have cB4_1 : w_gB5.cell? ⟨gB4, 1, none⟩ = some (.int .i64 0) := (blk_cell B4.out 1).trans rfl; have dB4_1 := blk_frozen B4.out 1; have cB4_2 : w_gB5.cell? ⟨gB4, 2, none⟩ = some (.int .i64 0) := (blk_cell B4.out 2).trans rfl; have dB4_2 := blk_frozen B4.out 2; have cB4_3 : w_gB5.cell? ⟨gB4, 3, none⟩ = some (.int .i64 0) := (blk_cell B4.out 3).trans rfl; have dB4_3 := blk_frozen B4.out 3; have cB5_0 : w_gB5.cell? ⟨gB5, 0, none⟩ = some (.int .i64 0) := (blk_cell B5.out 0).trans rfl; have dB5_0 := blk_frozen B5.out 0; have cB5_1 : w_gB5.cell? ⟨gB5, 1, none⟩ = some (.int .i64 0) := (blk_cell B5.out 1).trans rfl; have dB5_1 := blk_frozen B5.out 1; have cB5_2 : w_gB5.cell? ⟨gB5, 2, none⟩ = some (.int .i64 0) := (blk_cell B5.out 2).trans rfl; have dB5_2 := blk_frozen B5.out 2; have cB5_3 : w_gB5.cell? ⟨gB5, 3, none⟩ = some (.int .i64 0) := (blk_cell B5.out 3).trans rfl; have dB5_3 := blk_frozen B5.out 3; clear hg_ BK_ hb_) | ((with_reducible refine gate_store (t := 101) (p := 5) rfl ?_); refine store_event (t := 101) (p := 5) (v := ?vo_w1) (w1 := (((((w_gB5).setCell ⟨gB5, 0, none⟩ (.int .i64 0)).setCell ⟨gB5, 1, none⟩ (.int .i64 0)).setCell ⟨gB5, 2, none⟩ (.int .i64 0)).setCell ⟨gB5, 3, none⟩ (.int .i64 e))) ?hg ?ho ?hn ?hr ?_; (case ho => rfl); (case hg => rfl); (case hn => rfl); (case hr => first | (go_simp; done) | (go_simp; rfl)); intro w_1 hw_; have n0_ : Aside0 (Below w.heap.size w w_1) := ⟨by rw [hw_]; exact below_set (g := gB5) (below_set (g := gB5) (below_set (g := gB5) (below_set (g := gB5) HB.out (by have := ORD.out; omega)) (by have := ORD.out; omega)) (by have := ORD.out; omega)) (by have := ORD.out; omega)⟩; have n1_ : Aside0 (w_1.heap[gB4]? = some (.cells #[.int .i64 0, .int .i64 0, .int .i64 0, .int .i64 0] 101 (0, 0))) := ⟨by rw [hw_]; exact blk_far (blk_far (blk_far (blk_far B4.out (show gB4 ≠ gB5 by have := ORD.out; omega) _) (show gB4 ≠ gB5 by have := ORD.out; omega) _) (show gB4 ≠ gB5 by have := ORD.out; omega) _) (show gB4 ≠ gB5 by have := ORD.out; omega) _⟩; have n2_ : Aside0 (w_1.heap[gB5]? = some (.cells #[.int .i64 0, .int .i64 0, .int .i64 0, .int .i64 e] 101 (0, 0))) := ⟨by rw [hw_]; exact blk_put (blk_put (blk_put (blk_put B5.out 0 _ rfl) 1 _ rfl) 2 _ rfl) 3 _ rfl⟩; (try clear cB4_0 dB4_0 cB4_1 dB4_1 cB4_2 dB4_2 cB4_3 dB4_3 cB5_0 dB5_0 cB5_1 dB5_1 cB5_2 dB5_2 cB5_3 dB5_3); (try clear HB); (try clear B4); (try clear B5); have HB := n0_; have B4 := n1_; have B5 := n2_; clear n0_ n1_ n2_; have cB4_0 : w_1.cell? ⟨gB4, 0, none⟩ = some (.int .i64 0) := (blk_cell B4.out 0).trans rfl; have dB4_0 := blk_frozen B4.out 0; have cB4_1 : w_1.cell? ⟨gB4, 1, none⟩ = some (.int .i64 0) := (blk_cell B4.out 1).trans rfl; have dB4_1 := blk_frozen B4.out 1; have cB4_2 : w_1.cell? ⟨gB4, 2, none⟩ = some (.int .i64 0) := (blk_cell B4.out 2).trans rfl; have dB4_2 := blk_frozen B4.out 2; have cB4_3 : w_1.cell? ⟨gB4, 3, none⟩ = some (.int .i64 0) := (blk_cell B4.out 3).trans rfl; have dB4_3 := blk_frozen B4.out 3; have cB5_0 : w_1.cell? ⟨gB5, 0, none⟩ = some (.int .i64 0) := (blk_cell B5.out 0).trans rfl; have dB5_0 := blk_frozen B5.out 0; have cB5_1 : w_1.cell? ⟨gB5, 1, none⟩ = some (.int .i64 0) := (blk_cell B5.out 1).trans rfl; have dB5_1 := blk_frozen B5.out 1; have cB5_2 : w_1.cell? ⟨gB5, 2, none⟩ = some (.int .i64 0) := (blk_cell B5.out 2).trans rfl; have dB5_2 := blk_frozen B5.out 2; have cB5_3 : w_1.cell? ⟨gB5, 3, none⟩ = some (.int .i64 e) := (blk_cell B5.out 3).trans rfl; have dB5_3 := blk_frozen B5.out 3; clear hw_))
  have hcp := cpy2 gB5 w_1 (cc := cc) B5.out (Kd.C_below HC0.out HB.out) 3
  go_upto_region 3 with fail
  clear hcp
  have n0_ : Aside0 (Below w.heap.size w (((w_1).setCell ⟨gB5, 0, none⟩ (.int .i64 a0)).setCell ⟨gB5, 1, none⟩ (.int .i64 a1))) := ⟨below_set (g := gB5) (below_set (g := gB5) HB.out (by have := ORD.out; omega)) (by have := ORD.out; omega)⟩
  have n1_ : Aside0 ((((w_1).setCell ⟨gB5, 0, none⟩ (.int .i64 a0)).setCell ⟨gB5, 1, none⟩ (.int .i64 a1)).heap[gB4]? = some (.cells #[.int .i64 0, .int .i64 0, .int .i64 0, .int .i64 0] 101 (0, 0))) := ⟨blk_far (blk_far B4.out (show gB4 ≠ gB5 by have := ORD.out; omega) _) (show gB4 ≠ gB5 by have := ORD.out; omega) _⟩
  have n2_ : Aside0 ((((w_1).setCell ⟨gB5, 0, none⟩ (.int .i64 a0)).setCell ⟨gB5, 1, none⟩ (.int .i64 a1)).heap[gB5]? = some (.cells #[.int .i64 a0, .int .i64 a1, .int .i64 0, .int .i64 e] 101 (0, 0))) := ⟨blk_put (blk_put B5.out 0 _ rfl) 1 _ rfl⟩
  (try clear cB4_0 dB4_0 cB4_1 dB4_1 cB4_2 dB4_2 cB4_3 dB4_3 cB5_0 dB5_0 cB5_1 dB5_1 cB5_2 dB5_2 cB5_3 dB5_3)
  (try clear HB)
  (try clear B4)
  (try clear B5)
  generalize ((w_1).setCell ⟨gB5, 0, none⟩ (.int .i64 a0)).setCell ⟨gB5, 1, none⟩ (.int .i64 a1) = w_2 at n0_ n1_ n2_ ⊢
  have HB := n0_
  have B4 := n1_
  have B5 := n2_
  clear n0_ n1_ n2_
  have cB4_0 : w_2.cell? ⟨gB4, 0, none⟩ = some (.int .i64 0) := (blk_cell B4.out 0).trans rfl
  have dB4_0 := blk_frozen B4.out 0
  have cB4_1 : w_2.cell? ⟨gB4, 1, none⟩ = some (.int .i64 0) := (blk_cell B4.out 1).trans rfl
  have dB4_1 := blk_frozen B4.out 1
  have cB4_2 : w_2.cell? ⟨gB4, 2, none⟩ = some (.int .i64 0) := (blk_cell B4.out 2).trans rfl
  have dB4_2 := blk_frozen B4.out 2
  have cB4_3 : w_2.cell? ⟨gB4, 3, none⟩ = some (.int .i64 0) := (blk_cell B4.out 3).trans rfl
  have dB4_3 := blk_frozen B4.out 3
  have cB5_0 : w_2.cell? ⟨gB5, 0, none⟩ = some (.int .i64 a0) := (blk_cell B5.out 0).trans rfl
  have dB5_0 := blk_frozen B5.out 0
  have cB5_1 : w_2.cell? ⟨gB5, 1, none⟩ = some (.int .i64 a1) := (blk_cell B5.out 1).trans rfl
  have dB5_1 := blk_frozen B5.out 1
  have cB5_2 : w_2.cell? ⟨gB5, 2, none⟩ = some (.int .i64 0) := (blk_cell B5.out 2).trans rfl
  have dB5_2 := blk_frozen B5.out 2
  have cB5_3 : w_2.cell? ⟨gB5, 3, none⟩ = some (.int .i64 e) := (blk_cell B5.out 3).trans rfl
  have dB5_3 := blk_frozen B5.out 3
  go_wp2_with (first | ((with_reducible refine gate_store (t := 101) (p := 4) rfl ?_); refine store_event (t := 101) (p := 4) (v := ?vo_w3) (w1 := (((((w_2).setCell ⟨gB4, 0, none⟩ (.int .i64 a0)).setCell ⟨gB4, 1, none⟩ (.int .i64 a1)).setCell ⟨gB4, 2, none⟩ (.int .i64 0)).setCell ⟨gB4, 3, none⟩ (.int .i64 e))) ?hg ?ho ?hn ?hr ?_; (case ho => rfl); (case hg => rfl); (case hn => rfl); (case hr => first | (go_simp; done) | (go_simp; rfl)); intro w_3 hw_; have n0_ : Aside0 (Below w.heap.size w w_3) := ⟨by rw [hw_]; exact below_set (g := gB4) (below_set (g := gB4) (below_set (g := gB4) (below_set (g := gB4) HB.out (by have := ORD.out; omega)) (by have := ORD.out; omega)) (by have := ORD.out; omega)) (by have := ORD.out; omega)⟩; have n1_ : Aside0 (w_3.heap[gB4]? = some (.cells #[.int .i64 a0, .int .i64 a1, .int .i64 0, .int .i64 e] 101 (0, 0))) := ⟨by rw [hw_]; exact blk_put (blk_put (blk_put (blk_put B4.out 0 _ rfl) 1 _ rfl) 2 _ rfl) 3 _ rfl⟩; have n2_ : Aside0 (w_3.heap[gB5]? = some (.cells #[.int .i64 a0, .int .i64 a1, .int .i64 0, .int .i64 e] 101 (0, 0))) := ⟨by rw [hw_]; exact blk_far (blk_far (blk_far (blk_far B5.out (show gB5 ≠ gB4 by have := ORD.out; omega) _) (show gB5 ≠ gB4 by have := ORD.out; omega) _) (show gB5 ≠ gB4 by have := ORD.out; omega) _) (show gB5 ≠ gB4 by have := ORD.out; omega) _⟩; (try clear cB4_0 dB4_0 cB4_1 dB4_1 cB4_2 dB4_2 cB4_3 dB4_3 cB5_0 dB5_0 cB5_1 dB5_1 cB5_2 dB5_2 cB5_3 dB5_3); (try clear HB); (try clear B4); (try clear B5); have HB := n0_; have B4 := n1_; have B5 := n2_; clear n0_ n1_ n2_; have cB4_0 : w_3.cell? ⟨gB4, 0, none⟩ = some (.int .i64 a0) := (blk_cell B4.out 0).trans rfl; have dB4_0 := blk_frozen B4.out 0; have cB4_1 : w_3.cell? ⟨gB4, 1, none⟩ = some (.int .i64 a1) := (blk_cell B4.out 1).trans rfl; have dB4_1 := blk_frozen B4.out 1; have cB4_2 : w_3.cell? ⟨gB4, 2, none⟩ = some (.int .i64 0) := (blk_cell B4.out 2).trans rfl; have dB4_2 := blk_frozen B4.out 2; have cB4_3 : w_3.cell? ⟨gB4, 3, none⟩ = some (.int .i64 e) := (blk_cell B4.out 3).trans rfl; have dB4_3 := blk_frozen B4.out 3; have cB5_0 : w_3.cell? ⟨gB5, 0, none⟩ = some (.int .i64 a0) := (blk_cell B5.out 0).trans rfl; have dB5_0 := blk_frozen B5.out 0; have cB5_1 : w_3.cell? ⟨gB5, 1, none⟩ = some (.int .i64 a1) := (blk_cell B5.out 1).trans rfl; have dB5_1 := blk_frozen B5.out 1; have cB5_2 : w_3.cell? ⟨gB5, 2, none⟩ = some (.int .i64 0) := (blk_cell B5.out 2).trans rfl; have dB5_2 := blk_frozen B5.out 2; have cB5_3 : w_3.cell? ⟨gB5, 3, none⟩ = some (.int .i64 e) := (blk_cell B5.out 3).trans rfl; have dB5_3 := blk_frozen B5.out 3; clear hw_))
  exact bodyPost_ret (v := .agg #[.int .i64 a0, .int .i64 a1, .int .i64 0, .int .i64 e]) (by simp [results, Try.results87, go_sem, cB4_0, cB4_1, cB4_2, cB4_3]) rfl ⟨rfl, HB.out⟩

theorem cpy3 (g : Nat) (W : World) {e : Int} {cc : Nat} {A : Option Addr} {a0 a1 a2 : Int} (hb : W.heap[g]? = some (.cells #[.int .i64 0, .int .i64 0, .int .i64 0, .int .i64 e] 101 (0, 0))) (hC : Kd.C (Kd.int .i64) W A 3 [a0, a1, a2]) (ty : TypeId) :
    (Builtin.copy_ #[46, 46] ty #[.slice (some ⟨g, 0, none⟩) 3 3, .slice A 3 cc]).run Try.prog W = .ok (.int .i64 3) ((((W).setCell ⟨g, 0, none⟩ (.int .i64 a0)).setCell ⟨g, 1, none⟩ (.int .i64 a1)).setCell ⟨g, 2, none⟩ (.int .i64 a2)) := by
  obtain ⟨_, _, hA⟩ := Kd.reads_of_C (enc := Value.int .i64) (d := (0 : Int)) (h1 := fun _ => rfl) hC
  obtain ⟨ad, rfl, hc⟩ := hA (by decide)
  have h_ := run_copy_cells (P := Try.prog) W 46 46 ty 3 g 0 3 3 ad 3 cc [.int .i64 a0, .int .i64 a1, .int .i64 a2] Try.underlying46 (by kernel_rfl) rfl (by
    intro j u hu
    match j, hu with
    | 0, hu => exact (hc 0 (by decide)).trans hu
    | 1, hu => exact (hc 1 (by decide)).trans hu
    | 2, hu => exact (hc 2 (by decide)).trans hu
    | k + 3, hu => simp at hu) (by
    intro j hj
    match j, hj with
    | 0, hj => rw [show (⟨g, 0 + 0, none⟩ : Addr) = ⟨g, 0, none⟩ by simp, (blk_cell hb 0).trans rfl]; rfl
    | 1, hj => rw [show (⟨g, 0 + 1, none⟩ : Addr) = ⟨g, 1, none⟩ by simp, (blk_cell hb 1).trans rfl]; rfl
    | 2, hj => rw [show (⟨g, 0 + 2, none⟩ : Addr) = ⟨g, 2, none⟩ by simp, (blk_cell hb 2).trans rfl]; rfl
    | k + 3, hj => exact absurd hj (by simp)) (fun j _ => blk_frozen hb _) (by simp [Value.oneCell'])
  exact h_

set_option maxHeartbeats 8000000 in
set_option maxRecDepth 100000 in
theorem villageOf3 (e : Int) (A : Option Addr) (cc : Nat) (a0 a1 a2 : Int) (w : World) (hC : Kd.C (Kd.int .i64) w A 3 [a0, a1, a2]) :
    Calls Try.prog 87 #[.int .i64 e, .slice A 3 cc] w fun e_ w' => e_ = .returned (vCells (vOf e [a0, a1, a2])) ∧ Below w.heap.size w w' := by
  have HC0 := Aside0.mk hC
  have HB := Aside0.mk (Below.refl w.heap.size w)
  clear hC
  go_enter Try.func87, Try.ntmps87
  go_upto_region 2 with (first | ((with_reducible refine gate_dst (N := 4) rfl ?_); refine box_event ?hg (N := 4) ?hd (cs := #[.int .i64 0, .int .i64 0, .int .i64 0, .int .i64 0]) (t := 101) ?hr ?_; (case hd => rfl); (case hg => rfl); (case hr => first | (go_simp; done) | (go_simp; rfl)); intro gB4 hg_ w_gB4 BK_ hb_; have ORD_ : Aside0 ((True) ∧ (w.heap.size ≤ gB4)) := ⟨by refine ⟨trivial, ?_⟩; (have := HB.out.size); omega⟩; have ORD := ORD_; clear ORD_; have n0_ : Aside0 (Below w.heap.size w w_gB4) := ⟨Hx.bb_below hb_ (by first | exact HB.out | exact below_drew1 HB.out | exact pw_below_drewN HB.out _)⟩; have m0_ : Aside0 (w_gB4.heap[gB4]? = some (.cells #[.int .i64 0, .int .i64 0, .int .i64 0, .int .i64 0] 101 (0, 0))) := ⟨BK_⟩; (try clear HB); have HB := n0_; have B4 := m0_; clear n0_ m0_; have cB4_0 : w_gB4.cell? ⟨gB4, 0, none⟩ = some (.int .i64 0) := (blk_cell B4.out 0).trans rfl; have dB4_0 := blk_frozen B4.out 0; have cB4_1 : w_gB4.cell? ⟨gB4, 1, none⟩ = some (.int .i64 0) := (blk_cell B4.out 1).trans rfl; have dB4_1 := blk_frozen B4.out 1; have cB4_2 : w_gB4.cell? ⟨gB4, 2, none⟩ = some (.int .i64 0) := (blk_cell B4.out 2).trans rfl; have dB4_2 := blk_frozen B4.out 2; have cB4_3 : w_gB4.cell? ⟨gB4, 3, none⟩ = some (.int .i64 0) := (blk_cell B4.out 3).trans rfl; have dB4_3 := blk_frozen B4.out 3; clear hg_ BK_ hb_) | ((with_reducible refine gate_dst (N := 5) rfl ?_); refine box_event ?hg (N := 5) ?hd (cs := #[.int .i64 0, .int .i64 0, .int .i64 0, .int .i64 0]) (t := 101) ?hr ?_; (case hd => rfl); (case hg => rfl); (case hr => first | (go_simp; done) | (go_simp; rfl)); intro gB5 hg_ w_gB5 BK_ hb_; have ORD_ : Aside0 (((True) ∧ (w.heap.size ≤ gB4)) ∧ (gB4 < gB5 ∧ w.heap.size ≤ gB5)) := ⟨by refine ⟨ORD.out, ?_⟩; (have := HB.out.size); (have := blk_lt B4.out); omega⟩; clear ORD; have ORD := ORD_; clear ORD_; have n0_ : Aside0 (Below w.heap.size w w_gB5) := ⟨Hx.bb_below hb_ (by first | exact HB.out | exact below_drew1 HB.out | exact pw_below_drewN HB.out _)⟩; have n1_ : Aside0 (w_gB5.heap[gB4]? = some (.cells #[.int .i64 0, .int .i64 0, .int .i64 0, .int .i64 0] 101 (0, 0))) := ⟨Hx.b_below hb_ B4.out⟩; have m0_ : Aside0 (w_gB5.heap[gB5]? = some (.cells #[.int .i64 0, .int .i64 0, .int .i64 0, .int .i64 0] 101 (0, 0))) := ⟨BK_⟩; (try clear cB4_0 dB4_0 cB4_1 dB4_1 cB4_2 dB4_2 cB4_3 dB4_3); (try clear HB); (try clear B4); have HB := n0_; have B4 := n1_; have B5 := m0_; clear n0_ n1_ m0_; have cB4_0 : w_gB5.cell? ⟨gB4, 0, none⟩ = some (.int .i64 0) := (blk_cell B4.out 0).trans rfl; have dB4_0 := blk_frozen B4.out 0; have cB4_1 : w_gB5.cell? ⟨gB4, 1, none⟩ = some (.int .i64 0) := (blk_cell B4.out 1).trans rfl; have dB4_1 := blk_frozen B4.out 1; have cB4_2 : w_gB5.cell? ⟨gB4, 2, none⟩ = some (.int .i64 0) := (blk_cell B4.out 2).trans rfl; have dB4_2 := blk_frozen B4.out 2; have cB4_3 : w_gB5.cell? ⟨gB4, 3, none⟩ = some (.int .i64 0) := (blk_cell B4.out 3).trans rfl; have dB4_3 := blk_frozen B4.out 3; have cB5_0 : w_gB5.cell? ⟨gB5, 0, none⟩ = some (.int .i64 0) := (blk_cell B5.out 0).trans rfl; have dB5_0 := blk_frozen B5.out 0; have cB5_1 : w_gB5.cell? ⟨gB5, 1, none⟩ = some (.int .i64 0) := (blk_cell B5.out 1).trans rfl; have dB5_1 := blk_frozen B5.out 1; have cB5_2 : w_gB5.cell? ⟨gB5, 2, none⟩ = some (.int .i64 0) := (blk_cell B5.out 2).trans rfl; have dB5_2 := blk_frozen B5.out 2; have cB5_3 : w_gB5.cell? ⟨gB5, 3, none⟩ = some (.int .i64 0) := (blk_cell B5.out 3).trans rfl; have dB5_3 := blk_frozen B5.out 3; clear hg_ BK_ hb_) | ((with_reducible refine gate_store (t := 101) (p := 5) rfl ?_); refine store_event (t := 101) (p := 5) (v := ?vo_w1) (w1 := (((((w_gB5).setCell ⟨gB5, 0, none⟩ (.int .i64 0)).setCell ⟨gB5, 1, none⟩ (.int .i64 0)).setCell ⟨gB5, 2, none⟩ (.int .i64 0)).setCell ⟨gB5, 3, none⟩ (.int .i64 e))) ?hg ?ho ?hn ?hr ?_; (case ho => rfl); (case hg => rfl); (case hn => rfl); (case hr => first | (go_simp; done) | (go_simp; rfl)); intro w_1 hw_; have n0_ : Aside0 (Below w.heap.size w w_1) := ⟨by rw [hw_]; exact below_set (g := gB5) (below_set (g := gB5) (below_set (g := gB5) (below_set (g := gB5) HB.out (by have := ORD.out; omega)) (by have := ORD.out; omega)) (by have := ORD.out; omega)) (by have := ORD.out; omega)⟩; have n1_ : Aside0 (w_1.heap[gB4]? = some (.cells #[.int .i64 0, .int .i64 0, .int .i64 0, .int .i64 0] 101 (0, 0))) := ⟨by rw [hw_]; exact blk_far (blk_far (blk_far (blk_far B4.out (show gB4 ≠ gB5 by have := ORD.out; omega) _) (show gB4 ≠ gB5 by have := ORD.out; omega) _) (show gB4 ≠ gB5 by have := ORD.out; omega) _) (show gB4 ≠ gB5 by have := ORD.out; omega) _⟩; have n2_ : Aside0 (w_1.heap[gB5]? = some (.cells #[.int .i64 0, .int .i64 0, .int .i64 0, .int .i64 e] 101 (0, 0))) := ⟨by rw [hw_]; exact blk_put (blk_put (blk_put (blk_put B5.out 0 _ rfl) 1 _ rfl) 2 _ rfl) 3 _ rfl⟩; (try clear cB4_0 dB4_0 cB4_1 dB4_1 cB4_2 dB4_2 cB4_3 dB4_3 cB5_0 dB5_0 cB5_1 dB5_1 cB5_2 dB5_2 cB5_3 dB5_3); (try clear HB); (try clear B4); (try clear B5); have HB := n0_; have B4 := n1_; have B5 := n2_; clear n0_ n1_ n2_; have cB4_0 : w_1.cell? ⟨gB4, 0, none⟩ = some (.int .i64 0) := (blk_cell B4.out 0).trans rfl; have dB4_0 := blk_frozen B4.out 0; have cB4_1 : w_1.cell? ⟨gB4, 1, none⟩ = some (.int .i64 0) := (blk_cell B4.out 1).trans rfl; have dB4_1 := blk_frozen B4.out 1; have cB4_2 : w_1.cell? ⟨gB4, 2, none⟩ = some (.int .i64 0) := (blk_cell B4.out 2).trans rfl; have dB4_2 := blk_frozen B4.out 2; have cB4_3 : w_1.cell? ⟨gB4, 3, none⟩ = some (.int .i64 0) := (blk_cell B4.out 3).trans rfl; have dB4_3 := blk_frozen B4.out 3; have cB5_0 : w_1.cell? ⟨gB5, 0, none⟩ = some (.int .i64 0) := (blk_cell B5.out 0).trans rfl; have dB5_0 := blk_frozen B5.out 0; have cB5_1 : w_1.cell? ⟨gB5, 1, none⟩ = some (.int .i64 0) := (blk_cell B5.out 1).trans rfl; have dB5_1 := blk_frozen B5.out 1; have cB5_2 : w_1.cell? ⟨gB5, 2, none⟩ = some (.int .i64 0) := (blk_cell B5.out 2).trans rfl; have dB5_2 := blk_frozen B5.out 2; have cB5_3 : w_1.cell? ⟨gB5, 3, none⟩ = some (.int .i64 e) := (blk_cell B5.out 3).trans rfl; have dB5_3 := blk_frozen B5.out 3; clear hw_))
  have hcp := cpy3 gB5 w_1 (cc := cc) B5.out (Kd.C_below HC0.out HB.out) 3
  go_upto_region 3 with fail
  clear hcp
  have n0_ : Aside0 (Below w.heap.size w ((((w_1).setCell ⟨gB5, 0, none⟩ (.int .i64 a0)).setCell ⟨gB5, 1, none⟩ (.int .i64 a1)).setCell ⟨gB5, 2, none⟩ (.int .i64 a2))) := ⟨below_set (g := gB5) (below_set (g := gB5) (below_set (g := gB5) HB.out (by have := ORD.out; omega)) (by have := ORD.out; omega)) (by have := ORD.out; omega)⟩
  have n1_ : Aside0 (((((w_1).setCell ⟨gB5, 0, none⟩ (.int .i64 a0)).setCell ⟨gB5, 1, none⟩ (.int .i64 a1)).setCell ⟨gB5, 2, none⟩ (.int .i64 a2)).heap[gB4]? = some (.cells #[.int .i64 0, .int .i64 0, .int .i64 0, .int .i64 0] 101 (0, 0))) := ⟨blk_far (blk_far (blk_far B4.out (show gB4 ≠ gB5 by have := ORD.out; omega) _) (show gB4 ≠ gB5 by have := ORD.out; omega) _) (show gB4 ≠ gB5 by have := ORD.out; omega) _⟩
  have n2_ : Aside0 (((((w_1).setCell ⟨gB5, 0, none⟩ (.int .i64 a0)).setCell ⟨gB5, 1, none⟩ (.int .i64 a1)).setCell ⟨gB5, 2, none⟩ (.int .i64 a2)).heap[gB5]? = some (.cells #[.int .i64 a0, .int .i64 a1, .int .i64 a2, .int .i64 e] 101 (0, 0))) := ⟨blk_put (blk_put (blk_put B5.out 0 _ rfl) 1 _ rfl) 2 _ rfl⟩
  (try clear cB4_0 dB4_0 cB4_1 dB4_1 cB4_2 dB4_2 cB4_3 dB4_3 cB5_0 dB5_0 cB5_1 dB5_1 cB5_2 dB5_2 cB5_3 dB5_3)
  (try clear HB)
  (try clear B4)
  (try clear B5)
  generalize (((w_1).setCell ⟨gB5, 0, none⟩ (.int .i64 a0)).setCell ⟨gB5, 1, none⟩ (.int .i64 a1)).setCell ⟨gB5, 2, none⟩ (.int .i64 a2) = w_2 at n0_ n1_ n2_ ⊢
  have HB := n0_
  have B4 := n1_
  have B5 := n2_
  clear n0_ n1_ n2_
  have cB4_0 : w_2.cell? ⟨gB4, 0, none⟩ = some (.int .i64 0) := (blk_cell B4.out 0).trans rfl
  have dB4_0 := blk_frozen B4.out 0
  have cB4_1 : w_2.cell? ⟨gB4, 1, none⟩ = some (.int .i64 0) := (blk_cell B4.out 1).trans rfl
  have dB4_1 := blk_frozen B4.out 1
  have cB4_2 : w_2.cell? ⟨gB4, 2, none⟩ = some (.int .i64 0) := (blk_cell B4.out 2).trans rfl
  have dB4_2 := blk_frozen B4.out 2
  have cB4_3 : w_2.cell? ⟨gB4, 3, none⟩ = some (.int .i64 0) := (blk_cell B4.out 3).trans rfl
  have dB4_3 := blk_frozen B4.out 3
  have cB5_0 : w_2.cell? ⟨gB5, 0, none⟩ = some (.int .i64 a0) := (blk_cell B5.out 0).trans rfl
  have dB5_0 := blk_frozen B5.out 0
  have cB5_1 : w_2.cell? ⟨gB5, 1, none⟩ = some (.int .i64 a1) := (blk_cell B5.out 1).trans rfl
  have dB5_1 := blk_frozen B5.out 1
  have cB5_2 : w_2.cell? ⟨gB5, 2, none⟩ = some (.int .i64 a2) := (blk_cell B5.out 2).trans rfl
  have dB5_2 := blk_frozen B5.out 2
  have cB5_3 : w_2.cell? ⟨gB5, 3, none⟩ = some (.int .i64 e) := (blk_cell B5.out 3).trans rfl
  have dB5_3 := blk_frozen B5.out 3
  go_wp2_with (first | ((with_reducible refine gate_store (t := 101) (p := 4) rfl ?_); refine store_event (t := 101) (p := 4) (v := ?vo_w3) (w1 := (((((w_2).setCell ⟨gB4, 0, none⟩ (.int .i64 a0)).setCell ⟨gB4, 1, none⟩ (.int .i64 a1)).setCell ⟨gB4, 2, none⟩ (.int .i64 a2)).setCell ⟨gB4, 3, none⟩ (.int .i64 e))) ?hg ?ho ?hn ?hr ?_; (case ho => rfl); (case hg => rfl); (case hn => rfl); (case hr => first | (go_simp; done) | (go_simp; rfl)); intro w_3 hw_; have n0_ : Aside0 (Below w.heap.size w w_3) := ⟨by rw [hw_]; exact below_set (g := gB4) (below_set (g := gB4) (below_set (g := gB4) (below_set (g := gB4) HB.out (by have := ORD.out; omega)) (by have := ORD.out; omega)) (by have := ORD.out; omega)) (by have := ORD.out; omega)⟩; have n1_ : Aside0 (w_3.heap[gB4]? = some (.cells #[.int .i64 a0, .int .i64 a1, .int .i64 a2, .int .i64 e] 101 (0, 0))) := ⟨by rw [hw_]; exact blk_put (blk_put (blk_put (blk_put B4.out 0 _ rfl) 1 _ rfl) 2 _ rfl) 3 _ rfl⟩; have n2_ : Aside0 (w_3.heap[gB5]? = some (.cells #[.int .i64 a0, .int .i64 a1, .int .i64 a2, .int .i64 e] 101 (0, 0))) := ⟨by rw [hw_]; exact blk_far (blk_far (blk_far (blk_far B5.out (show gB5 ≠ gB4 by have := ORD.out; omega) _) (show gB5 ≠ gB4 by have := ORD.out; omega) _) (show gB5 ≠ gB4 by have := ORD.out; omega) _) (show gB5 ≠ gB4 by have := ORD.out; omega) _⟩; (try clear cB4_0 dB4_0 cB4_1 dB4_1 cB4_2 dB4_2 cB4_3 dB4_3 cB5_0 dB5_0 cB5_1 dB5_1 cB5_2 dB5_2 cB5_3 dB5_3); (try clear HB); (try clear B4); (try clear B5); have HB := n0_; have B4 := n1_; have B5 := n2_; clear n0_ n1_ n2_; have cB4_0 : w_3.cell? ⟨gB4, 0, none⟩ = some (.int .i64 a0) := (blk_cell B4.out 0).trans rfl; have dB4_0 := blk_frozen B4.out 0; have cB4_1 : w_3.cell? ⟨gB4, 1, none⟩ = some (.int .i64 a1) := (blk_cell B4.out 1).trans rfl; have dB4_1 := blk_frozen B4.out 1; have cB4_2 : w_3.cell? ⟨gB4, 2, none⟩ = some (.int .i64 a2) := (blk_cell B4.out 2).trans rfl; have dB4_2 := blk_frozen B4.out 2; have cB4_3 : w_3.cell? ⟨gB4, 3, none⟩ = some (.int .i64 e) := (blk_cell B4.out 3).trans rfl; have dB4_3 := blk_frozen B4.out 3; have cB5_0 : w_3.cell? ⟨gB5, 0, none⟩ = some (.int .i64 a0) := (blk_cell B5.out 0).trans rfl; have dB5_0 := blk_frozen B5.out 0; have cB5_1 : w_3.cell? ⟨gB5, 1, none⟩ = some (.int .i64 a1) := (blk_cell B5.out 1).trans rfl; have dB5_1 := blk_frozen B5.out 1; have cB5_2 : w_3.cell? ⟨gB5, 2, none⟩ = some (.int .i64 a2) := (blk_cell B5.out 2).trans rfl; have dB5_2 := blk_frozen B5.out 2; have cB5_3 : w_3.cell? ⟨gB5, 3, none⟩ = some (.int .i64 e) := (blk_cell B5.out 3).trans rfl; have dB5_3 := blk_frozen B5.out 3; clear hw_))
  exact bodyPost_ret (v := .agg #[.int .i64 a0, .int .i64 a1, .int .i64 a2, .int .i64 e]) (by simp [results, Try.results87, go_sem, cB4_0, cB4_1, cB4_2, cB4_3]) rfl ⟨rfl, HB.out⟩


-- FOR impl.GoodHouseDrops
-- KIND rounds=0 making=1
-- CALLS impl.isStocked ; impl.villageOf ; (impl.houser).good ; spec.hoDrops ; spec.hoAsked ; impl.AreHouses ; impl.within ; impl.eggsNeeded
-- USES kd [][]int
def hoB (l : List Int) : Bool := decide (1 ≤ l.length) && decide (l.length ≤ 3) && l.all inHo
def hAsk (e : Int) (l : List Int) : Bool := hoB l && (decide ((vOf e l).need ≤ e) && decide (e ≤ 6))
theorem hoB_len {l : List Int} (h : hoB l = true) : 1 ≤ l.length ∧ l.length ≤ 3 := by
  unfold hoB at h
  simp only [Bool.and_eq_true, decide_eq_true_eq] at h
  exact h.1
theorem hoB_good {l : List Int} (h : hoB l = true) : LGood l := by
  unfold hoB at h
  simp only [Bool.and_eq_true, decide_eq_true_eq, List.all_eq_true] at h
  refine ⟨h.1.1, h.1.2, fun x hx => ?_⟩
  have h2 := h.2 x hx
  unfold inHo at h2
  simp only [Bool.and_eq_true, decide_eq_true_eq] at h2
  exact h2
theorem hAsk_good {e : Int} {l : List Int} (h : hAsk e l = true) : LGood l ∧ (0 ≤ e ∧ e ≤ 6) ∧ (vOf e l).need ≤ e := by
  unfold hAsk at h
  simp only [Bool.and_eq_true, decide_eq_true_eq] at h
  have := need_lo (vOf e l)
  exact ⟨hoB_good h.1, ⟨by omega, h.2.2⟩, h.2.1⟩
theorem eggsL_is (e : Int) {l : List Int} (hl : 1 ≤ l.length ∧ l.length ≤ 3) : impl_eggsNeeded.f 9 l = some (vOf e l).need := by
  have r0 : ∀ (a : Int) (l : List Int), rd (a :: l) 0 = a := fun _ _ => rfl
  have r1 : ∀ (a b : Int) (l : List Int), rd (a :: b :: l) 1 = b := fun _ _ _ => rfl
  have r2 : ∀ (a b c : Int) (l : List Int), rd (a :: b :: c :: l) 2 = c := fun _ _ _ _ => rfl
  have w1 : wrap64 1 = 1 := Hw.wrap_id (by omega) (by omega)
  have w2 : wrap64 2 = 2 := Hw.wrap_id (by omega) (by omega)
  have w3 : wrap64 3 = 3 := Hw.wrap_id (by omega) (by omega)
  unfold impl_eggsNeeded.f
  simp only [VS.need, vOf]
  rcases lcases hl with ⟨a, rfl⟩ | ⟨a, b, rfl⟩ | ⟨a, b, c, rfl⟩ <;> simp only [impl_eggsNeeded.l0] <;> unfold nz
  · by_cases h0 : a > 0 <;> simp [h0, r0, w1, w2, w3]
  · by_cases h0 : a > 0 <;> by_cases h1 : b > 0 <;> simp [h0, h1, r0, r1, w1, w2, w3]
  · by_cases h0 : a > 0 <;> by_cases h1 : b > 0 <;> by_cases h2 : c > 0 <;> simp [h0, h1, h2, r0, r1, r2, w1, w2, w3]
theorem stocked_is (e : Int) (l : List Int) : impl_isStocked.f 9 e l = some (hAsk e l) := by
  unfold impl_isStocked.f hAsk
  rw [show impl_AreHouses.f l = some (hoB l) from rfl, Option.bind_some]
  cases hb : hoB l with
  | false => simp
  | true => rw [if_pos rfl, eggsL_is e (hoB_len hb), Option.bind_some, ho_within, Option.bind_some, Bool.true_and]
theorem l1In_is (a b c : Int) : spec_l1In.f a b c = some (decide (b ≤ a) && decide (a ≤ c)) := by
  unfold spec_l1In.f
  split
  · rename_i h; rw [decide_eq_true (show b ≤ a from h), Bool.true_and]
  · rename_i h; rw [decide_eq_false (show ¬ b ≤ a from h), Bool.false_and]
theorem hoGood_is (l : List Int) : spec_hoGood.f 9 l = some (hoB l) := by
  have r0 : ∀ (a : Int) (l : List Int), rd (a :: l) 0 = a := fun _ _ => rfl
  have r1 : ∀ (a b : Int) (l : List Int), rd (a :: b :: l) 1 = b := fun _ _ _ => rfl
  have r2 : ∀ (a b c : Int) (l : List Int), rd (a :: b :: c :: l) 2 = c := fun _ _ _ _ => rfl
  have w1 : wrap64 1 = 1 := Hw.wrap_id (by omega) (by omega)
  have w2 : wrap64 2 = 2 := Hw.wrap_id (by omega) (by omega)
  have w3 : wrap64 3 = 3 := Hw.wrap_id (by omega) (by omega)
  unfold spec_hoGood.f hoB
  rw [l1In_is, Option.bind_some]
  by_cases hl : 1 ≤ l.length ∧ l.length ≤ 3
  · rw [if_pos (by simp; omega), decide_eq_true hl.1, decide_eq_true hl.2]
    simp only [Bool.true_and]
    unfold spec_l1All.f
    have hin : ∀ a, spec_l1In.f a 0 8 = some (inHo a) := fun a => l1In_is a 0 8
    rcases lcases hl with ⟨a, rfl⟩ | ⟨a, b, rfl⟩ | ⟨a, b, c, rfl⟩ <;> simp only [spec_l1All.l0, hin]
    · cases h0 : inHo a <;> simp [h0, r0, w1, w2, w3]
    · cases h0 : inHo a <;> cases h1 : inHo b <;> simp [h0, h1, r0, r1, w1, w2, w3]
    · cases h0 : inHo a <;> cases h1 : inHo b <;> cases h2 : inHo c <;> simp [h0, h1, h2, r0, r1, r2, w1, w2, w3]
  · have h1 : (decide (1 ≤ l.length) && decide (l.length ≤ 3)) = false := by
      cases hq : (decide (1 ≤ l.length) && decide (l.length ≤ 3)) with
      | false => rfl
      | true => simp at hq; omega
    rw [h1, if_neg (by simp; omega)]
    rfl
theorem asked_is (e : Int) (l : List Int) : spec_hoAsked.f 9 e l = some (hAsk e l) := by
  unfold spec_hoAsked.f hAsk
  rw [hoGood_is, Option.bind_some]
  cases hb : hoB l with
  | false => simp
  | true => rw [if_pos rfl, need_is e (hoB_len hb), Option.bind_some, l1In_is, Option.bind_some, Bool.true_and]
def goodH (e : Int) (l : List Int) : List (List Int) × Bool := if hAsk e l then (vLits (vOf e l) (vOf e l).tests, true) else ([], false)

def impl_GoodHouseDrops.f (a0 : Int) (l1 : List Int) : Option (List (List Int) × Bool) := some (goodH a0 l1)
theorem vill_of (e : Int) {l : List Int} (hl : 1 ≤ l.length ∧ l.length ≤ 3) (A : Option Addr) (cc : Nat) (w : World) (hC : Kd.C (Kd.int .i64) w A l.length l) :
    Calls Try.prog 87 #[.int .i64 e, .slice A l.length cc] w fun e_ w' => e_ = .returned (vCells (vOf e l)) ∧ Below w.heap.size w w' := by
  rcases lcases hl with ⟨a, rfl⟩ | ⟨a, b, rfl⟩ | ⟨a, b, c, rfl⟩
  · exact villageOf1 e A cc a w hC
  · exact villageOf2 e A cc a b w hC
  · exact villageOf3 e A cc a b c w hC
theorem hou_made (w : World) : Hou (w.alloc (.map #[] 0)) w.heap.size := Hm.Mem.made _ _ _ _ _
set_option maxHeartbeats 8000000 in
set_option maxRecDepth 100000 in
theorem impl_GoodHouseDrops.calls (a0 : Int) (A1 : Option Addr) (c1 : Nat) (l1 : List Int) (r1 : List (List Int)) (r2 : Bool) (w : World) (hr1 : Kd.C (Kd.int .i64) w A1 l1.length l1) (hc1 : l1.length ≤ c1) (h : impl_GoodHouseDrops.f a0 l1 = some (r1, r2)) :
    Calls Try.prog 42 #[.int .i64 a0, .slice A1 l1.length c1] w fun e w' => ∃ v0_ : Value, e = .returned (.tuple #[v0_, .bool r2]) ∧ Kd.S (Kd.slice 3 (Kd.int .i64)) 46 w' w.heap.size (fun _ => True) v0_ r1 ∧ Below w.heap.size w w' := by
  have hmk : ∀ w : World, (Instr.makeMap 97 none).run Try.prog w = .ok (.map (some w.heap.size)) (w.alloc (.map #[] 0)) := fun _ => rfl
  have HB := Aside0.mk (Below.refl w.heap.size w)
  have HC1 := Aside0.mk hr1
  have HL1 := Aside0.mk hc1
  obtain ⟨b1, hb1⟩ : ∃ b, b = hAsk a0 l1 := ⟨_, rfl⟩
  have e1 := stocked_is a0 l1
  unfold impl_GoodHouseDrops.f goodH at h
  rw [← hb1] at e1 h
  have HA := Aside0.mk e1
  have HAG := Aside0.mk hb1
  clear e1 hb1 hr1 hc1
  cases b1 with
  | false =>
    simp only [Bool.false_eq_true, if_false, Option.some.injEq, Prod.mk.injEq] at h
    obtain ⟨rfl, rfl⟩ := h
    clear hmk
    go_enter Try.func42, Try.ntmps42
    go_wp2_with (first | ((with_reducible refine gate_callee (f := 85) rfl ?_); refine goesL_ (some 8) rfl rfl Try.func85 (by kernel_rfl) rfl #[.int .i64 a0, .slice A1 l1.length c1] rfl (by (try simp only [List.map_toArray, List.map_cons, List.map_nil]); first | done | rfl) ?_; refine (impl_isStocked.calls 9 a0 A1 c1 l1 _ _ HC1.out HL1.out HA.out).mono ?_; rintro e_ w_1 ⟨rfl, hb_⟩; refine ⟨_, rfl, ?_⟩; have n0_ : Aside0 (Below w.heap.size w w_1) := ⟨Hx.bb_below hb_ (by first | exact HB.out | exact below_drew1 HB.out | exact pw_below_drewN HB.out _)⟩; have n1_ : Aside0 (Kd.C (Kd.int .i64) w_1 A1 l1.length l1) := ⟨Kd.C_below HC1.out hb_⟩; (try clear HB); (try clear HC1); have HB := n0_; have HC1 := n1_; clear n0_ n1_; clear hb_))
    go_ret2
    exact ⟨_, rfl, Kd.S_nil _ _ _ _ _, HB.out⟩
  | true =>
    simp only [if_true, Option.some.injEq, Prod.mk.injEq] at h
    obtain ⟨rfl, rfl⟩ := h
    have HG0 := Aside0.mk (hAsk_good HAG.out.symm)
    go_enter Try.func42, Try.ntmps42
    go_upto_region 3 with (first | ((with_reducible refine gate_callee (f := 85) rfl ?_); refine goesL_ (some 8) rfl rfl Try.func85 (by kernel_rfl) rfl #[.int .i64 a0, .slice A1 l1.length c1] rfl (by (try simp only [List.map_toArray, List.map_cons, List.map_nil]); first | done | rfl) ?_; refine (impl_isStocked.calls 9 a0 A1 c1 l1 _ _ HC1.out HL1.out HA.out).mono ?_; rintro e_ w_1 ⟨rfl, hb_⟩; refine ⟨_, rfl, ?_⟩; have n0_ : Aside0 (Below w.heap.size w w_1) := ⟨Hx.bb_below hb_ (by first | exact HB.out | exact below_drew1 HB.out | exact pw_below_drewN HB.out _)⟩; have n1_ : Aside0 (Kd.C (Kd.int .i64) w_1 A1 l1.length l1) := ⟨Kd.C_below HC1.out hb_⟩; (try clear HB); (try clear HC1); have HB := n0_; have HC1 := n1_; clear n0_ n1_; clear hb_))
    go_wp2_with (first | (go_at_call 87; refine (vill_of a0 ⟨HG0.out.1.1, HG0.out.1.2.1⟩ A1 c1 _ (Kd.C_below HC1.out (below_alloc (Below.refl _ _) _))).mono ?_; rintro e_ w_3 ⟨rfl, hb_⟩; have HS : Aside0 (Hou w_3 w_1.heap.size) := ⟨Hm.Mem.below (hou_made w_1) hb_⟩; have n0_ : Aside0 (Below w.heap.size w w_3) := ⟨Hx.bb_below hb_ (below_alloc HB.out _)⟩; have ZZ := Aside0.mk (show w.heap.size ≤ w_1.heap.size from HB.out.size); clear HB HC1 hb_; have HB := n0_; clear n0_) | (go_at_call 86; refine (good_of w_1.heap.size (vOf a0 l1) (vOf_good HG0.out.1 HG0.out.2.1) HG0.out.2.2 _ rfl w_3 HS.out).mono ?_; rintro e_ w_4 ⟨v_, rfl, hr_, hs_, hg_⟩; have HR := Aside0.mk (Kd.S_lower hr_ HB.out.size); have HB5 := Aside0.mk (Hx.bb_grown HB.out hg_ ZZ.out); clear HB HS hs_ hg_ hr_; have HB := HB5; clear HB5))
    go_ret2
    exact ⟨_, rfl, HR.out, HB.out⟩


-- FOR spec.GoodHouseDrops
-- KIND rounds=0 making=1
-- CALLS impl.GoodHouseDrops ; spec.hoDrops ; spec.hoAsked ; spec.hoTable
-- USES kd [][]int

def spec_GoodHouseDrops.f (a0 : Int) (l1 : List Int) : Option (List (List Int) × Bool) := some (goodH a0 l1)
set_option maxHeartbeats 8000000 in
set_option maxRecDepth 100000 in
theorem spec_GoodHouseDrops.calls (a0 : Int) (A1 : Option Addr) (c1 : Nat) (l1 : List Int) (r1 : List (List Int)) (r2 : Bool) (w : World) (hr1 : Kd.C (Kd.int .i64) w A1 l1.length l1) (hc1 : l1.length ≤ c1) (h : spec_GoodHouseDrops.f a0 l1 = some (r1, r2)) :
    Calls Try.prog 41 #[.int .i64 a0, .slice A1 l1.length c1] w fun e w' => ∃ v0_ : Value, e = .returned (.tuple #[v0_, .bool r2]) ∧ Kd.S (Kd.slice 3 (Kd.int .i64)) 46 w' w.heap.size (fun _ => True) v0_ r1 ∧ Below w.heap.size w w' := by
  have HB := Aside0.mk (Below.refl w.heap.size w)
  have HC1 := Aside0.mk hr1
  have HC0 := Aside0.mk hr1
  have HL1 := Aside0.mk hc1
  obtain ⟨b1, hb1⟩ : ∃ b, b = hAsk a0 l1 := ⟨_, rfl⟩
  have e1 := asked_is a0 l1
  unfold spec_GoodHouseDrops.f goodH at h
  rw [← hb1] at e1 h
  have HA := Aside0.mk e1
  have HAG := Aside0.mk hb1
  clear e1 hb1 hr1 hc1
  cases b1 with
  | false =>
    simp only [Bool.false_eq_true, if_false, Option.some.injEq, Prod.mk.injEq] at h
    obtain ⟨rfl, rfl⟩ := h
    go_enter Try.func41, Try.ntmps41
    go_wp2_with (first | ((with_reducible refine gate_callee (f := 80) rfl ?_); refine goesL_ (some 8) rfl rfl Try.func80 (by kernel_rfl) rfl #[.int .i64 a0, .slice A1 l1.length c1] rfl (by (try simp only [List.map_toArray, List.map_cons, List.map_nil]); first | done | rfl) ?_; refine (spec_hoAsked.calls 9 a0 A1 c1 l1 _ _ HC1.out HL1.out HA.out).mono ?_; rintro e_ w_1 ⟨rfl, hd_⟩; refine ⟨_, rfl, ?_⟩; have hb_ : Below _ _ w_1 := (by first | exact hd_ | exact hd_.below); clear hd_; have n0_ : Aside0 (Below w.heap.size w w_1) := ⟨Hx.bb_below hb_ (by first | exact HB.out | exact below_drew1 HB.out | exact pw_below_drewN HB.out _)⟩; have n1_ : Aside0 (Kd.C (Kd.int .i64) w_1 A1 l1.length l1) := ⟨Kd.C_below HC1.out hb_⟩; (try clear HB); (try clear HC1); have HB := n0_; have HC1 := n1_; clear n0_ n1_; clear hb_))
    go_ret2
    exact ⟨_, rfl, Kd.S_nil _ _ _ _ _, HB.out⟩
  | true =>
    simp only [if_true, Option.some.injEq, Prod.mk.injEq] at h
    obtain ⟨rfl, rfl⟩ := h
    have HG0 := Aside0.mk (hAsk_good HAG.out.symm)
    go_enter Try.func41, Try.ntmps41
    go_upto_region 3 with (first | ((with_reducible refine gate_callee (f := 80) rfl ?_); refine goesL_ (some 8) rfl rfl Try.func80 (by kernel_rfl) rfl #[.int .i64 a0, .slice A1 l1.length c1] rfl (by (try simp only [List.map_toArray, List.map_cons, List.map_nil]); first | done | rfl) ?_; refine (spec_hoAsked.calls 9 a0 A1 c1 l1 _ _ HC1.out HL1.out HA.out).mono ?_; rintro e_ w_1 ⟨rfl, hd_⟩; refine ⟨_, rfl, ?_⟩; have hb_ : Below _ _ w_1 := (by first | exact hd_ | exact hd_.below); clear hd_; have n0_ : Aside0 (Below w.heap.size w w_1) := ⟨Hx.bb_below hb_ (by first | exact HB.out | exact below_drew1 HB.out | exact pw_below_drewN HB.out _)⟩; have n1_ : Aside0 (Kd.C (Kd.int .i64) w_1 A1 l1.length l1) := ⟨Kd.C_below HC1.out hb_⟩; (try clear HB); (try clear HC1); have HB := n0_; have HC1 := n1_; clear n0_ n1_; clear hb_))
    go_wp2_with (first | ((with_reducible refine gate_callee (f := 83) rfl ?_); refine goesL_ (some 10) rfl rfl Try.func83 (by kernel_rfl) rfl #[] rfl (by (try simp only [List.map_toArray, List.map_cons, List.map_nil]); first | done | rfl) ?_; refine (spec_hoTable.calls 5108 _ _ hoTable_is).mono ?_; rintro e_ w_2 ⟨v_, rfl, hr_, hb_⟩; refine ⟨_, rfl, ?_⟩; obtain ⟨tb, c0, rfl, ht_, hz_⟩ := htab_of hr_; have ZZ := Aside0.mk (show w.heap.size ≤ tb from Nat.le_trans HB.out.size hz_); have HB2 := Aside0.mk (Hx.bb_below hb_ HB.out); clear HB; have HB := HB2; clear HB2; have HT := Aside0.mk ht_; have LS := Aside0.mk (lst_of HC0.out HG0.out.1.1 HB.out ZZ.out); clear ht_ hb_ hr_ hz_) | ((with_reducible refine gate_callee (f := 82) rfl ?_); refine goesL_ (some 13) rfl rfl Try.func82 (by kernel_rfl) rfl #[.slice (some ⟨tb, 0, none⟩) 5103 c0, .int .i64 a0, .slice A1 l1.length c1] rfl (by (try simp only [List.map_toArray, List.map_cons, List.map_nil]); first | done | rfl) ?_; refine (hdrops_of tb c0 a0 l1 HG0.out.1 HG0.out.2.1 HG0.out.2.2 _ rfl A1 c1 _ HL1.out LS.out HT.out).mono ?_; rintro e_ w_3 ⟨v_, rfl, hr_, ht_, hg_⟩; refine ⟨_, rfl, ?_⟩; have HR := Aside0.mk (Kd.S_lower hr_ HB.out.size); have HB5 := Aside0.mk (Hx.bb_grown HB.out hg_ ZZ.out); clear HB HT LS hg_ ht_ hr_; have HB := HB5; clear HB5))
    go_ret2
    exact ⟨_, rfl, HR.out, HB.out⟩


-- FOR spec.FirstHouseDrop
-- KIND rounds=0 making=1
-- CALLS impl.GoodHouseDrops ; spec.GoodHouseDrops ; spec.hoDrops ; spec.hoAsked ; spec.hoTable ; spec.hoNeeded
-- USES kd [][]int
theorem row_first {W : World} {base : Nat} {ok : Nat → Prop} {v : Value} {y : List Int} {ys : List (List Int)} (h : Kd.S (Kd.slice 3 (Kd.int .i64)) 46 W base ok v (y :: ys)) :
    ∃ (g c : Nat) (A1 : Option Addr) (c1 : Nat), v = .slice (some ⟨g, 0, none⟩) (ys.length + 1) c ∧ W.cell? ⟨g, 0, none⟩ = some (.slice A1 y.length c1) ∧ Kd.R (Kd.int .i64) 3 W base (fun _ => True) (.slice A1 y.length c1) y := by
  obtain ⟨g, cap, rfl, _, _, _⟩ := Kd.S_form h (by simp)
  obtain ⟨ce, hce, hMe, hcc⟩ := Kd.S_get h [] 0 (by omega) (by simp)
  obtain ⟨v, rfl, hr⟩ := hMe
  have hr' : Kd.R (Kd.int .i64) 3 W base (fun _ => True) v y := Kd.R_mono hr (fun _ _ => trivial)
  obtain ⟨A1, c1, rfl⟩ := Kd.R_slice hr'
  exact ⟨g, cap, A1, c1, rfl, hcc 0 _ rfl, hr'⟩
theorem row_two {W : World} {base : Nat} {ok : Nat → Prop} {A : Option Addr} {c : Nat} {a b : Int} (h : Kd.R (Kd.int .i64) 3 W base ok (.slice A [a, b].length c) [a, b]) :
    ∃ g, A = some ⟨g, 0, none⟩ ∧ base ≤ g ∧ g < W.heap.size ∧ W.cell? ⟨g, 0, none⟩ = some (.int .i64 a) ∧ W.cell? ⟨g, 1, none⟩ = some (.int .i64 b) := by
  obtain ⟨g, cap, e, h1, h2, _⟩ := Kd.R_form h (by simp)
  injection e with e1 _ _
  subst e1
  obtain ⟨x0, _⟩ := Kd.R_celln 0 h 0 (by omega) (by simp)
  obtain ⟨x1, _⟩ := Kd.R_celln 0 h 1 (by omega) (by simp)
  exact ⟨g, rfl, h1, h2, x0, x1⟩

def vFirst (v : VS) : Nat × Int := (vGood v).headD (0, 0)
theorem vLits_first {v : VS} (hv : VOk v) : ∃ ys, [((vFirst v).1 : Int), (vFirst v).2] :: ys = vLits v v.tests := by
  have hne := vGood_ne hv
  unfold vLits vFirst
  show ∃ ys, _ = (vGood v).map vLit
  cases hg : vGood v with
  | nil => exact absurd hg hne
  | cons t ts => exact ⟨ts.map vLit, rfl⟩
def firstH (e : Int) (l : List Int) : Int × Int × Bool := if hAsk e l = true ∧ (vOf e l).need ≠ 0 then (((vFirst (vOf e l)).1 : Int), (vFirst (vOf e l)).2, true) else (0, 0, false)
def spec_FirstHouseDrop.f (a0 : Int) (l1 : List Int) : Option (Int × Int × Bool) := some (firstH a0 l1)
set_option maxHeartbeats 8000000 in
set_option maxRecDepth 100000 in
theorem spec_FirstHouseDrop.calls (a0 : Int) (A1 : Option Addr) (c1 : Nat) (l1 : List Int) (r1 : Int) (r2 : Int) (r3 : Bool) (w : World) (hr1 : Kd.C (Kd.int .i64) w A1 l1.length l1) (hc1 : l1.length ≤ c1) (h : spec_FirstHouseDrop.f a0 l1 = some (r1, r2, r3)) :
    Calls Try.prog 37 #[.int .i64 a0, .slice A1 l1.length c1] w fun e w' => e = .returned (.tuple #[.int .i64 r1, .int .i64 r2, .bool r3]) ∧ Below w.heap.size w w' := by
  have HB := Aside0.mk (Below.refl w.heap.size w)
  have HC1 := Aside0.mk hr1
  have HC0 := Aside0.mk hr1
  have HL1 := Aside0.mk hc1
  obtain ⟨b1, hb1⟩ : ∃ b, b = hAsk a0 l1 := ⟨_, rfl⟩
  have e1 := asked_is a0 l1
  unfold spec_FirstHouseDrop.f firstH at h
  rw [← hb1] at e1 h
  have HA := Aside0.mk e1
  have HAG := Aside0.mk hb1
  clear e1 hb1 hr1 hc1
  cases b1 with
  | false =>
    simp only [Bool.false_eq_true, false_and, if_false, Option.some.injEq, Prod.mk.injEq] at h
    obtain ⟨rfl, rfl, rfl⟩ := h
    go_enter Try.func37, Try.ntmps37
    go_wp2_with (first | ((with_reducible refine gate_callee (f := 80) rfl ?_); refine goesL_ (some 10) rfl rfl Try.func80 (by kernel_rfl) rfl #[.int .i64 a0, .slice A1 l1.length c1] rfl (by (try simp only [List.map_toArray, List.map_cons, List.map_nil]); first | done | rfl) ?_; refine (spec_hoAsked.calls 9 a0 A1 c1 l1 _ _ HC1.out HL1.out HA.out).mono ?_; rintro e_ w_1 ⟨rfl, hd_⟩; refine ⟨_, rfl, ?_⟩; have hb_ : Below _ _ w_1 := (by first | exact hd_ | exact hd_.below); clear hd_; have n0_ : Aside0 (Below w.heap.size w w_1) := ⟨Hx.bb_below hb_ (by first | exact HB.out | exact below_drew1 HB.out | exact pw_below_drewN HB.out _)⟩; have n1_ : Aside0 (Kd.C (Kd.int .i64) w_1 A1 l1.length l1) := ⟨Kd.C_below HC1.out hb_⟩; (try clear HB); (try clear HC1); have HB := n0_; have HC1 := n1_; clear n0_ n1_; clear hb_))
    go_ret3
    exact ⟨rfl, HB.out⟩
  | true =>
    have HG0 := Aside0.mk (hAsk_good HAG.out.symm)
    have HN := Aside0.mk (need_is a0 ⟨HG0.out.1.1, HG0.out.1.2.1⟩)
    obtain ⟨nd, hnd⟩ : ∃ nd, nd = (vOf a0 l1).need := ⟨_, rfl⟩
    rw [← hnd] at HN h
    have HND := Aside0.mk hnd
    clear hnd
    by_cases h0 : nd = 0
    · have e0 : (nd == 0) = true := by simpa using h0
      rw [if_neg (fun h_ => h_.2 h0)] at h
      simp only [Option.some.injEq, Prod.mk.injEq] at h
      obtain ⟨rfl, rfl, rfl⟩ := h
      clear h0
      go_enter Try.func37, Try.ntmps37
      go_wp2_with (first | ((with_reducible refine gate_callee (f := 80) rfl ?_); refine goesL_ (some 10) rfl rfl Try.func80 (by kernel_rfl) rfl #[.int .i64 a0, .slice A1 l1.length c1] rfl (by (try simp only [List.map_toArray, List.map_cons, List.map_nil]); first | done | rfl) ?_; refine (spec_hoAsked.calls 9 a0 A1 c1 l1 _ _ HC1.out HL1.out HA.out).mono ?_; rintro e_ w_1 ⟨rfl, hd_⟩; refine ⟨_, rfl, ?_⟩; have hb_ : Below _ _ w_1 := (by first | exact hd_ | exact hd_.below); clear hd_; have n0_ : Aside0 (Below w.heap.size w w_1) := ⟨Hx.bb_below hb_ (by first | exact HB.out | exact below_drew1 HB.out | exact pw_below_drewN HB.out _)⟩; have n1_ : Aside0 (Kd.C (Kd.int .i64) w_1 A1 l1.length l1) := ⟨Kd.C_below HC1.out hb_⟩; (try clear HB); (try clear HC1); have HB := n0_; have HC1 := n1_; clear n0_ n1_; clear hb_) | (go_at_call 81; refine (spec_hoNeeded.calls 9 A1 c1 l1 nd _ HC1.out HL1.out HN.out).mono ?_; rintro e_ w_2 ⟨rfl, hd_⟩; have hb_ : Below _ _ w_2 := (by first | exact hd_ | exact hd_.below); clear hd_; have n0_ : Aside0 (Below w.heap.size w w_2) := ⟨Hx.bb_below hb_ (by first | exact HB.out | exact below_drew1 HB.out | exact pw_below_drewN HB.out _)⟩; have n1_ : Aside0 (Kd.C (Kd.int .i64) w_2 A1 l1.length l1) := ⟨Kd.C_below HC1.out hb_⟩; (try clear HB); (try clear HC1); have HB := n0_; have HC1 := n1_; clear n0_ n1_; clear hb_))
      go_ret3
      exact ⟨rfl, HB.out⟩
    · have e0 : (nd == 0) = false := by simpa using h0
      rw [if_pos ⟨rfl, h0⟩] at h
      simp only [Option.some.injEq, Prod.mk.injEq] at h
      obtain ⟨rfl, rfl, rfl⟩ := h
      have hok : VOk (vOf a0 l1) := ⟨vOf_good HG0.out.1 HG0.out.2.1, by have := need_lo (vOf a0 l1); have := HND.out; omega, HG0.out.2.2⟩
      obtain ⟨ys, hys⟩ := vLits_first hok
      obtain ⟨a, ha⟩ : ∃ a, a = ((vFirst (vOf a0 l1)).1 : Int) := ⟨_, rfl⟩
      obtain ⟨b, hb⟩ : ∃ b, b = (vFirst (vOf a0 l1)).2 := ⟨_, rfl⟩
      rw [← ha, ← hb] at hys ⊢
      have HR0 := Aside0.mk hys
      clear h0 hok hys ha hb
      go_enter Try.func37, Try.ntmps37
      go_upto_region 3 with (first | ((with_reducible refine gate_callee (f := 80) rfl ?_); refine goesL_ (some 10) rfl rfl Try.func80 (by kernel_rfl) rfl #[.int .i64 a0, .slice A1 l1.length c1] rfl (by (try simp only [List.map_toArray, List.map_cons, List.map_nil]); first | done | rfl) ?_; refine (spec_hoAsked.calls 9 a0 A1 c1 l1 _ _ HC1.out HL1.out HA.out).mono ?_; rintro e_ w_1 ⟨rfl, hd_⟩; refine ⟨_, rfl, ?_⟩; have hb_ : Below _ _ w_1 := (by first | exact hd_ | exact hd_.below); clear hd_; have n0_ : Aside0 (Below w.heap.size w w_1) := ⟨Hx.bb_below hb_ (by first | exact HB.out | exact below_drew1 HB.out | exact pw_below_drewN HB.out _)⟩; have n1_ : Aside0 (Kd.C (Kd.int .i64) w_1 A1 l1.length l1) := ⟨Kd.C_below HC1.out hb_⟩; (try clear HB); (try clear HC1); have HB := n0_; have HC1 := n1_; clear n0_ n1_; clear hb_) | (go_at_call 81; refine (spec_hoNeeded.calls 9 A1 c1 l1 nd _ HC1.out HL1.out HN.out).mono ?_; rintro e_ w_2 ⟨rfl, hd_⟩; have hb_ : Below _ _ w_2 := (by first | exact hd_ | exact hd_.below); clear hd_; have n0_ : Aside0 (Below w.heap.size w w_2) := ⟨Hx.bb_below hb_ (by first | exact HB.out | exact below_drew1 HB.out | exact pw_below_drewN HB.out _)⟩; have n1_ : Aside0 (Kd.C (Kd.int .i64) w_2 A1 l1.length l1) := ⟨Kd.C_below HC1.out hb_⟩; (try clear HB); (try clear HC1); have HB := n0_; have HC1 := n1_; clear n0_ n1_; clear hb_))
      go_upto_region 4 with (first | ((with_reducible refine gate_callee (f := 83) rfl ?_); refine goesL_ (some 17) rfl rfl Try.func83 (by kernel_rfl) rfl #[] rfl (by (try simp only [List.map_toArray, List.map_cons, List.map_nil]); first | done | rfl) ?_; refine (spec_hoTable.calls 5108 _ _ hoTable_is).mono ?_; rintro e_ w_3 ⟨v_, rfl, hr_, hb_⟩; refine ⟨_, rfl, ?_⟩; obtain ⟨tb, c0, rfl, ht_, hz_⟩ := htab_of hr_; have ZZ := Aside0.mk (show w.heap.size ≤ tb from Nat.le_trans HB.out.size hz_); have HB2 := Aside0.mk (Hx.bb_below hb_ HB.out); clear HB; have HB := HB2; clear HB2; have HT := Aside0.mk ht_; have LS := Aside0.mk (lst_of HC0.out HG0.out.1.1 HB.out ZZ.out); clear ht_ hb_ hr_ hz_) | ((with_reducible refine gate_callee (f := 82) rfl ?_); refine goesL_ (some 20) rfl rfl Try.func82 (by kernel_rfl) rfl #[.slice (some ⟨tb, 0, none⟩) 5103 c0, .int .i64 a0, .slice A1 l1.length c1] rfl (by (try simp only [List.map_toArray, List.map_cons, List.map_nil]); first | done | rfl) ?_; refine (hdrops_of tb c0 a0 l1 HG0.out.1 HG0.out.2.1 HG0.out.2.2 _ HR0.out A1 c1 _ HL1.out LS.out HT.out).mono ?_; rintro e_ w_4 ⟨v_, rfl, hr_, ht_, hg_⟩; refine ⟨_, rfl, ?_⟩; have HB5 := Aside0.mk (Hx.bb_grown HB.out hg_ ZZ.out); clear HB HT LS hg_ ht_; have HB := HB5; clear HB5; obtain ⟨g_, cc_, A2_, c2_, rfl, x0_, hr2_⟩ := row_first hr_; obtain ⟨g2_, rfl, _, _, y0_, y1_⟩ := row_two hr2_; clear hr_ hr2_))
      go_quiet (fail)
      go_wp2
      go_ret3
      exact ⟨rfl, pw_below_drewN HB.out _⟩


/-! ### laws_roomBehind: function 84 -/
def laws_roomBehind.f (a0 : Int) : Option (Int) := if (Int.tmod a0 6) = 5 then (some 0) else (if (Int.tmod a0 3) = 0 then (some 1) else (some a0))
set_option maxHeartbeats 8000000 in
set_option maxRecDepth 100000 in
theorem laws_roomBehind.calls (a0 : Int) (r : Int) (w : World) (h : laws_roomBehind.f a0 = some r) :
    Calls Try.prog 84 #[.int .i64 a0] w fun e w' => e = .returned (.int .i64 r) ∧ Drawn0 w w' := by
  have H : (if (Int.tmod a0 6) = 5 then (some 0) else (if (Int.tmod a0 3) = 0 then (some 1) else (some a0))) = some r := h
  clear h
  by_cases c2 : (Int.tmod a0 6) = 5
  · rw [if_pos c2] at H
    have c2b0 : ((Int.tmod a0 6) == 5) = true := beq_iff_eq.mpr c2
    have c2b1 : ((Int.tmod a0 6) != 5) = false := bne_eq_false_iff_eq.mpr c2
    clear c2
    obtain rfl := Option.some.inj H
    go_enter Try.func84, Try.ntmps84
    go_wp2
    go_ret
    exact ⟨by first | rfl | (simp; done) | (simp [*]; done), by repeat (first | exact Drawn0.refl _ | apply Drawn0.step)⟩
  · rw [if_neg c2] at H
    have c2b0 : ((Int.tmod a0 6) == 5) = false := beq_eq_false_iff_ne.mpr c2
    have c2b1 : ((Int.tmod a0 6) != 5) = true := bne_iff_ne.mpr c2
    by_cases c3 : (Int.tmod a0 3) = 0
    · rw [if_pos c3] at H
      have c3b0 : ((Int.tmod a0 3) == 0) = true := beq_iff_eq.mpr c3
      have c3b1 : ((Int.tmod a0 3) != 0) = false := bne_eq_false_iff_eq.mpr c3
      clear c3
      obtain rfl := Option.some.inj H
      go_enter Try.func84, Try.ntmps84
      go_wp2
      go_ret
      exact ⟨by first | rfl | (simp; done) | (simp [*]; done), by repeat (first | exact Drawn0.refl _ | apply Drawn0.step)⟩
    · rw [if_neg c3] at H
      have c3b0 : ((Int.tmod a0 3) == 0) = false := beq_eq_false_iff_ne.mpr c3
      have c3b1 : ((Int.tmod a0 3) != 0) = true := bne_iff_ne.mpr c3
      obtain rfl := Option.some.inj H
      go_enter Try.func84, Try.ntmps84
      go_wp2
      go_ret
      exact ⟨by first | rfl | (simp; done) | (simp [*]; done), by repeat (first | exact Drawn0.refl _ | apply Drawn0.step)⟩

/-! ### laws_toIntS: function 38 -/
mutual
def laws_toIntS.j0 : Nat → List Int → Bool → Option (List Int)
  | 0, _, _ => none
  | k + 1, x0, x13 => if x13 = true then (some ([] : List Int)) else ((laws_roomBehind.f (x0.length : Int)).bind fun t133 => (if 0 ≤ (wrap64 ((x0.length : Int) + t133)) then (if (wrap64 ((x0.length : Int) + t133) : Int).toNat ≤ 35184372088832 then (laws_toIntS.l0 k x0 (List.replicate (wrap64 ((x0.length : Int) + t133) : Int).toNat 0) 0) else (none)) else (none)))
def laws_toIntS.l0 : Nat → List Int → List Int → Int → Option (List Int)
  | 0, _, _, _ => none
  | k + 1, x0, x5, x6 => if x6 < (x0.length : Int) then (if 0 ≤ x6 then (if x6 < (x5.length : Int) then (laws_toIntS.l0 k x0 (x5.set (x6 : Int).toNat (rd x0 x6)) (wrap64 (x6 + 1))) else (none)) else (none)) else (laws_toIntS.l1 k x0 x5 (x0.length : Int))
def laws_toIntS.l1 : Nat → List Int → List Int → Int → Option (List Int)
  | 0, _, _, _ => none
  | k + 1, x0, x5, x7 => if x7 < (x5.length : Int) then (if 0 ≤ x7 then (laws_toIntS.l1 k x0 (x5.set (x7 : Int).toNat (-7000000000000000101)) (wrap64 (x7 + 1))) else (none)) else (if 0 ≤ (x0.length : Int) then (if (x0.length : Int) ≤ (x5.length : Int) then (some (x5.take ((x0.length : Int) : Int).toNat)) else (none)) else (none))
end
def laws_toIntS.f (k : Nat) (l0 : List Int) (a1 : Bool) : Option (List Int) := if a1 = true then (laws_toIntS.j0 k l0 ((l0.length : Int) == 0)) else (laws_toIntS.j0 k l0 false)
theorem laws_toIntS.mono_l : ∀ k, (∀ y0 y1, LeO (laws_toIntS.j0 k y0 y1) (laws_toIntS.j0 (k + 1) y0 y1)) ∧ (∀ y0 y1 y2, LeO (laws_toIntS.l0 k y0 y1 y2) (laws_toIntS.l0 (k + 1) y0 y1 y2)) ∧ (∀ y0 y1 y2, LeO (laws_toIntS.l1 k y0 y1 y2) (laws_toIntS.l1 (k + 1) y0 y1 y2))
  | 0 => ⟨fun _ _ r h => by simp [laws_toIntS.j0] at h, fun _ _ _ r h => by simp [laws_toIntS.l0] at h, fun _ _ _ r h => by simp [laws_toIntS.l1] at h⟩
  | k + 1 => by
    obtain ⟨ih0, ih1, ih2⟩ := laws_toIntS.mono_l k
    refine ⟨?_, ?_, ?_⟩
    · intro y0 y1
      unfold laws_toIntS.j0
      repeat' first
      | (with_reducible exact ih0 _ _)
      | (with_reducible exact ih1 _ _ _)
      | (with_reducible exact ih2 _ _ _)
      | (with_reducible exact LeO.refl _)
      | (with_reducible exact LeO.none _)
      | (with_reducible refine LeO.ite ?_ ?_)
      | (with_reducible refine LeO.bind ?_ (fun _ => ?_))
      | exact ih0 _ _
      | exact ih1 _ _ _
      | exact ih2 _ _ _
      | exact LeO.none _
      | refine LeO.ite ?_ ?_
      | refine LeO.bind ?_ (fun _ => ?_)
    · intro y0 y1 y2
      unfold laws_toIntS.l0
      repeat' first
      | (with_reducible exact ih0 _ _)
      | (with_reducible exact ih1 _ _ _)
      | (with_reducible exact ih2 _ _ _)
      | (with_reducible exact LeO.refl _)
      | (with_reducible exact LeO.none _)
      | (with_reducible refine LeO.ite ?_ ?_)
      | (with_reducible refine LeO.bind ?_ (fun _ => ?_))
      | exact ih0 _ _
      | exact ih1 _ _ _
      | exact ih2 _ _ _
      | exact LeO.none _
      | refine LeO.ite ?_ ?_
      | refine LeO.bind ?_ (fun _ => ?_)
    · intro y0 y1 y2
      unfold laws_toIntS.l1
      repeat' first
      | (with_reducible exact ih0 _ _)
      | (with_reducible exact ih1 _ _ _)
      | (with_reducible exact ih2 _ _ _)
      | (with_reducible exact LeO.refl _)
      | (with_reducible exact LeO.none _)
      | (with_reducible refine LeO.ite ?_ ?_)
      | (with_reducible refine LeO.bind ?_ (fun _ => ?_))
      | exact ih0 _ _
      | exact ih1 _ _ _
      | exact ih2 _ _ _
      | exact LeO.none _
      | refine LeO.ite ?_ ?_
      | refine LeO.bind ?_ (fun _ => ?_)
theorem laws_toIntS.mono : ∀ a0 a1 k, LeO (laws_toIntS.f k a0 a1) (laws_toIntS.f (k + 1) a0 a1) := by
  intro a0 a1 k
  obtain ⟨ih0, ih1, ih2⟩ := laws_toIntS.mono_l k
  unfold laws_toIntS.f
  repeat' first
      | (with_reducible exact ih0 _ _)
      | (with_reducible exact ih1 _ _ _)
      | (with_reducible exact ih2 _ _ _)
      | (with_reducible exact LeO.refl _)
      | (with_reducible exact LeO.none _)
      | (with_reducible refine LeO.ite ?_ ?_)
      | (with_reducible refine LeO.bind ?_ (fun _ => ?_))
      | exact ih0 _ _
      | exact ih1 _ _ _
      | exact ih2 _ _ _
      | exact LeO.none _
      | refine LeO.ite ?_ ?_
      | refine LeO.bind ?_ (fun _ => ?_)
set_option maxHeartbeats 8000000 in
set_option maxRecDepth 100000 in
theorem laws_toIntS.calls (k : Nat) (A0 : Option Addr) (c0 : Nat) (l0 : List Int) (a1 : Bool) (r : List Int) (w : World) (hr0 : Kd.C (Kd.int .i64) w A0 l0.length l0) (hc0 : l0.length ≤ c0) (h : laws_toIntS.f k l0 a1 = some r) :
    Calls Try.prog 38 #[.slice A0 l0.length c0, .bool a1] w fun e w' => ∃ v0_ : Value, e = .returned (v0_) ∧ Kd.R (Kd.int .i64) 3 w' w.heap.size (fun _ => True) v0_ r ∧ Below w.heap.size w w' := by
  have HR0 := Aside0.mk hr0
  have HC0 := Aside0.mk hc0
  clear hr0 hc0
  have HB := Aside0.mk (Below.refl w.heap.size w)
  have H : (if a1 = true then (laws_toIntS.j0 k l0 ((l0.length : Int) == 0)) else (laws_toIntS.j0 k l0 false)) = some r := h
  clear h
  have HC3 := Aside0.mk H
  clear H
  go_enter Try.func38, Try.ntmps38
  go_upto_region 1 with (fail)
  go_cut [13] (fun v13 wc => ∃ (kq : Nat) (x13_2 : Bool), v13 = .bool x13_2 ∧ Aside0 (laws_toIntS.j0 kq l0 x13_2 = some r) ∧ Aside0 (kq ≤ k) ∧ Aside0 (Below w.heap.size w wc))
  case first =>
    have H := HC3.out
    clear HC3
    by_cases c4 : a1 = true
    · subst c4
      have H1 : (laws_toIntS.j0 k l0 ((l0.length : Int) == 0)) = some r := by rw [if_pos rfl] at H; exact H
      clear H
      have H := H1
      clear H1
      have H' := Aside0.mk H
      clear H
      go_wp2
      go_meet
      case rel => exact ⟨_, (((l0.length : Int) == 0)), (by first | rfl | (simp; done) | (simp [*]; done)), H', ⟨by first | omega | exact Nat.le_refl _⟩, ⟨by repeat (first | (with_reducible first | exact HB.out | apply below_alloc | apply pw_below_drewN | apply below_drew1) | exact HB.out)⟩⟩
    · replace c4 := Bool.eq_false_iff.mpr c4
      subst c4
      have H1 : (laws_toIntS.j0 k l0 false) = some r := by rw [if_neg (show ¬ (false = true) by decide)] at H; exact H
      clear H
      have H := H1
      clear H1
      have H' := Aside0.mk H
      clear H
      go_wp2
      go_meet
      case rel => exact ⟨_, (false), (by first | rfl | (simp; done) | (simp [*]; done)), H', ⟨by first | omega | exact Nat.le_refl _⟩, ⟨by repeat (first | (with_reducible first | exact HB.out | apply below_alloc | apply pw_below_drewN | apply below_drew1) | exact HB.out)⟩⟩
  case rest =>
    clear HC3
    try clear p2
    try clear c3
    try clear c4
    obtain ⟨kq, x13_2, rfl, HA, HJ2, HB⟩ := hcut
    cases kq with
    | zero => exact absurd HA.out (by simp [laws_toIntS.j0])
    | succ kj2 =>
      have H := HA.out
      clear HA
      simp only [laws_toIntS.j0] at H
      by_cases c5 : x13_2 = true
      · subst c5
        have H1 : (some ([] : List Int)) = some r := by rw [if_pos rfl] at H; exact H
        clear H
        have H := H1
        clear H1
        obtain rfl := Option.some.inj H
        go_wp2
        go_ret
        exact ⟨_, by first | rfl | (simp [errW_none, errW_some] <;> rfl) | (simp [*, errW_none, errW_some] <;> rfl), by first | exact Kd.R_nil _ _ _ _ _ | exact Kd.N_nil _ _ _ _ _ | exact Kd.V_nil _ _ _ _ _ | exact Kd.Q_nil _ _ _ _ _ | exact Kd.S_nil _ _ _ _ _, by repeat (first | (with_reducible first | exact HB.out | apply below_alloc | apply pw_below_drewN | apply below_drew1) | exact HB.out)⟩
      · replace c5 := Bool.eq_false_iff.mpr c5
        subst c5
        have H1 : ((laws_roomBehind.f (l0.length : Int)).bind fun t133 => (if 0 ≤ (wrap64 ((l0.length : Int) + t133)) then (if (wrap64 ((l0.length : Int) + t133) : Int).toNat ≤ 35184372088832 then (laws_toIntS.l0 kj2 l0 (List.replicate (wrap64 ((l0.length : Int) + t133) : Int).toNat 0) 0) else (none)) else (none))) = some r := by rw [if_neg (show ¬ (false = true) by decide)] at H; exact H
        clear H
        have H := H1
        clear H1
        replace H := Option.bind_eq_some_iff.mp H
        obtain ⟨t133, A60, H⟩ := H
        replace H : (if 0 ≤ (wrap64 ((l0.length : Int) + t133)) then (if (wrap64 ((l0.length : Int) + t133) : Int).toNat ≤ 35184372088832 then (laws_toIntS.l0 kj2 l0 (List.replicate (wrap64 ((l0.length : Int) + t133) : Int).toNat 0) 0) else (none)) else (none)) = some r := H
        have A6 := Aside0.mk A60
        clear A60
        obtain ⟨ji7, hji7⟩ : ∃ j_ : Int, (wrap64 ((l0.length : Int) + t133)) = j_ := ⟨_, rfl⟩
        replace H : (if 0 ≤ (ji7) then (if (ji7 : Int).toNat ≤ 35184372088832 then (laws_toIntS.l0 kj2 l0 (List.replicate (ji7 : Int).toNat 0) 0) else (none)) else (none)) = some r := by first | (rw [hji7] at H; exact H) | (simp only [hji7] at H ⊢; exact H)
        (try rw [hji7] at A6)
        have hji7w : (IntKind.i64.wrap ((l0.length : Int) + t133)) = ji7 := (i64_w _).trans hji7
        by_cases c8 : 0 ≤ (ji7)
        · rw [if_pos c8] at H
          have c8b0 := eq_true c8
          have c8b1 : decide (0 ≤ (ji7)) = true := decide_eq_true c8
          clear c8
          by_cases c9 : (ji7 : Int).toNat ≤ 35184372088832
          · rw [if_pos c9] at H
            have c9b0 := eq_true c9
            have c9b1 : decide ((ji7 : Int).toNat ≤ 35184372088832) = true := decide_eq_true c9
            clear c9
            obtain ⟨y134, hy134⟩ : ∃ y_ : List Int, y_ = (List.replicate (ji7 : Int).toNat 0) := ⟨_, rfl⟩
            replace H : (laws_toIntS.l0 kj2 l0 y134 0) = some r := by first | (rw [hy134]; with_reducible exact H) | (have H2_ := (Option.bind_some _ _).symm.trans H; rw [hy134]; with_reducible exact H2_) | (have H2_ := (Option.bind_some _ _).symm.trans H; with_reducible exact H2_) | with_reducible exact H | (rw [hy134]; exact H) | exact H
            have Ny134 := Aside0.mk hy134
            clear hy134
            have H' := Aside0.mk H
            clear H
            go_wp2_with (first | ((with_reducible refine gate_callee (f := 84) rfl ?_); refine goesL_ (some 18) rfl rfl Try.func84 (by kernel_rfl) rfl #[.int .i64 (l0.length : Int)] rfl (by (try simp only [List.map_toArray, List.map_cons, List.map_nil]); first | done | rfl | (simp only [List.length_drop, List.length_take]; rfl)) ?_; (with_reducible refine (laws_roomBehind.calls (l0.length : Int) t133 _ A6.out).mono ?_); rintro e w' ⟨rfl, ⟨nd, rfl⟩⟩; refine ⟨_, rfl, ?_⟩) | ((with_reducible refine gate_dst (N := 20) rfl ?_); (try (refine gate_guard (by rfl) ?_; dsimp only)); refine Kd.R_make (Kd.int .i64) _ 3 rfl (N := 20) rfl 46 _ _ rfl ji7 rfl rfl Try.underlying46 (.int .i64 0) 8 info3 rfl (by decide) (by omega) 0 (ok := fun _ => True) (okp := fun _ => True) rfl (fun _ hk => hk) trivial (of_decide_eq_true (by first | (with_reducible assumption) | assumption)) (Nat.le_trans (Nat.mul_le_mul_right _ (of_decide_eq_true (by first | (with_reducible assumption) | assumption) : ji7.toNat ≤ 35184372088832)) (by omega)) (Below.refl _ _) (Nat.le_refl _) ?_; intro v135 w10 ho11 hb hg_ hnew_; clear hg_ hnew_; (first | rw [← Ny134.out] at ho11 | (simp only [Int.reduceToNat] at ho11; rw [← Ny134.out] at ho11)); have n0_ := Aside0.mk (Kd.R_lower ho11 (below_size (by repeat (first | (with_reducible first | exact HB.out | apply below_alloc | apply pw_below_drewN | apply below_drew1) | exact HB.out)))); have n1_ := Aside0.mk (below_step (by repeat (first | (with_reducible first | exact HB.out | apply below_alloc | apply pw_below_drewN | apply below_drew1) | exact HB.out)) hb); clear HB; have HO136 := n0_; have HB := n1_; clear n0_ n1_; clear hb ho11))
            go_loopg [6] kj2 (fun kq v6 w' => ∃ (x5_2 : List Int) (x6_2 : Int), v6 = .int .i64 x6_2 ∧ Aside0 (laws_toIntS.l0 kq l0 x5_2 x6_2 = some r) ∧ Aside0 (kq ≤ kj2) ∧ Aside0 (Kd.R (Kd.int .i64) 3 w' w.heap.size (fun _ => True) v135 x5_2) ∧ Aside0 (Below w.heap.size w w'))
            case atStart => exact ⟨(y134), (0), (by first | rfl | (simp; done) | (simp [*]; done)), H', ⟨Nat.le_refl _⟩, ⟨by (with_reducible repeat (first | apply Kd.R_alloc | apply Kd.R_drewN | apply Kd.R_drew)); exact HO136.out⟩, ⟨by repeat (first | (with_reducible first | exact HB.out | apply below_alloc | apply pw_below_drewN | apply below_drew1) | exact HB.out)⟩⟩
            case round =>
              clear H'
              try clear p2
              try clear c3
              try clear c4
              try clear c5
              try clear p6
              try clear c8
              try clear c8b0
              try clear c8b1
              try clear c9
              try clear c9b0
              try clear c9b1
              try clear p2
              obtain ⟨x5_2, x6_2, rfl, HA, HK2, HO_5, HB⟩ := hrel
              cases gk with
              | zero => exact absurd HA.out (by simp [laws_toIntS.l0])
              | succ k2 =>
                have H := HA.out
                clear HA
                simp only [laws_toIntS.l0] at H
                by_cases c12 : x6_2 < (l0.length : Int)
                · rw [if_pos c12] at H
                  have c12b0 : decide (x6_2 < (l0.length : Int)) = true := decide_eq_true c12
                  clear c12
                  by_cases c13 : 0 ≤ x6_2
                  · rw [if_pos c13] at H
                    have c13b0 : decide (0 ≤ x6_2) = true := decide_eq_true c13
                    clear c13
                    by_cases c14 : x6_2 < (x5_2.length : Int)
                    · rw [if_pos c14] at H
                      have c14b0 : decide (x6_2 < (x5_2.length : Int)) = true := decide_eq_true c14
                      clear c14
                      obtain ⟨y138, hy138⟩ : ∃ y_ : List Int, y_ = (x5_2.set (x6_2 : Int).toNat (rd l0 x6_2)) := ⟨_, rfl⟩
                      replace H : (laws_toIntS.l0 k2 l0 y138 (wrap64 (x6_2 + 1))) = some r := by first | (rw [hy138]; with_reducible exact H) | (have H2_ := (Option.bind_some _ _).symm.trans H; rw [hy138]; with_reducible exact H2_) | (have H2_ := (Option.bind_some _ _).symm.trans H; with_reducible exact H2_) | with_reducible exact H | (rw [hy138]; exact H) | exact H
                      have Ny138 := Aside0.mk hy138
                      clear hy138
                      have H' := Aside0.mk H
                      clear H
                      have p137 : 0 ≤ (x6_2 : Int) := of_decide_eq_true (by first | (with_reducible assumption) | assumption)
                      have q137 : x6_2 < (l0.length : Int) := of_decide_eq_true (by first | (with_reducible assumption) | assumption)
                      obtain ⟨ad137, e137, hx137_0⟩ := Kd.at_int HR0.out x6_2 p137 q137
                      cases e137
                      replace hx137_0 := (HB.out.cell (World.block_lt_of_cell? w _ hx137_0)).trans hx137_0
                      replace p137 := eq_true p137
                      replace q137 := eq_true q137
                      have p15 : 0 ≤ (x6_2 : Int) := of_decide_eq_true (by first | (with_reducible assumption) | assumption)
                      have q15 : (x6_2 : Int) < ((x5_2.length : Int) : Int) := of_decide_eq_true (by first | (with_reducible assumption) | assumption)
                      obtain ⟨go15, co15, eo15, gb15, gl15, cl15, HG15⟩ := Kd.R_form HO_5.out (by omega)
                      (first | cases eo15 | (injection eo15 with ea_ en_ ec_; (first | subst ea_ | (injection ea_ with ea_; subst ea_)); subst ec_; clear en_))
                      have GB15 := Aside0.mk gb15
                      have GG15 := Aside0.mk HG15
                      clear gb15 gl15 HG15
                      obtain ⟨hx15_0, hf15_0⟩ := Kd.R_celln 0 HO_5.out (x6_2 : Int) p15 q15
                      replace p15 := eq_true p15
                      replace q15 := eq_true q15
                      have HP16 := Kd.R_putg HO_5.out (x6_2 : Int) (rd l0 x6_2)
                      go_wp2_with (first | ((with_reducible refine gate_store (t := 3) (p := 33) rfl ?_); refine store_event (t := 3) (p := 33) (v := ?vo_w17) (w1 := (wr.setCell ⟨go15, (x6_2 : Int).toNat, none⟩ (.int .i64 (rd l0 x6_2)))) ?hg ?ho ?hn ?hr ?_; (case ho => rfl); (case hg => rfl); (case hn => rfl); (case hr => first | (go_simp; done) | (go_simp; rfl)); intro w17 hw; have hg : wr.grownBy w17 (some go15) := (by rw [hw]; exact HP16.2); have hp_ : Kd.R (Kd.int .i64) 3 w17 w.heap.size (fun _ => True) (.slice (some ⟨go15, 0, none⟩) x5_2.length co15) y138 := (by rw [hw, Ny138.out]; exact HP16.1); clear HP16; have n0_ := Aside0.mk (hp_); have n1_ := Aside0.mk ((by rw [hw]; exact below_set (HB.out) GB15.out : Below w.heap.size w w17)); clear HO_5; clear HB; have HO_5 := n0_; have HB := n1_; clear n0_ n1_; clear hg hw hp_))
                      go_roundg k2
                      case measure => have := HJ2.out; have := HK2.out; omega
                      case rel => exact ⟨(y138), (wrap64 (x6_2 + 1)), (by first | rfl | (simp; done) | (simp [*]; done)), H', ⟨by have := HJ2.out; have := HK2.out; omega⟩, ⟨by (with_reducible repeat (first | apply Kd.R_alloc | apply Kd.R_drewN | apply Kd.R_drew)); exact HO_5.out⟩, ⟨by repeat (first | (with_reducible first | exact HB.out | apply below_alloc | apply pw_below_drewN | apply below_drew1) | exact HB.out)⟩⟩
                    · rw [if_neg c14] at H
                      exact absurd H (by simp)
                  · rw [if_neg c13] at H
                    exact absurd H (by simp)
                · rw [if_neg c12] at H
                  have c12b0 : decide (x6_2 < (l0.length : Int)) = false := decide_eq_false c12
                  clear c12
                  have H' := Aside0.mk H
                  clear H
                  go_wp2
                  go_loopg [7] k2 (fun kq v7 w' => ∃ (x5_3 : List Int) (x7_3 : Int), v7 = .int .i64 x7_3 ∧ Aside0 (laws_toIntS.l1 kq l0 x5_3 x7_3 = some r) ∧ Aside0 (kq ≤ k2) ∧ Aside0 (Kd.R (Kd.int .i64) 3 w' w.heap.size (fun _ => True) v135 x5_3) ∧ Aside0 (Below w.heap.size w w'))
                  case atStart => exact ⟨(x5_2), ((l0.length : Int)), (by first | rfl | (simp; done) | (simp [*]; done)), H', ⟨Nat.le_refl _⟩, ⟨by (with_reducible repeat (first | apply Kd.R_alloc | apply Kd.R_drewN | apply Kd.R_drew)); exact HO_5.out⟩, ⟨by repeat (first | (with_reducible first | exact HB.out | apply below_alloc | apply pw_below_drewN | apply below_drew1) | exact HB.out)⟩⟩
                  case round =>
                    clear H'
                    try clear c1
                    try clear p1
                    try clear q1
                    try clear hx1
                    try clear p2
                    try clear c3
                    try clear c4
                    try clear c5
                    try clear p6
                    try clear c8
                    try clear c8b0
                    try clear c8b1
                    try clear c9
                    try clear c9b0
                    try clear c9b1
                    try clear c12
                    try clear c12b0
                    try clear c13
                    try clear c13b0
                    try clear p13
                    try clear q13
                    try clear hx13
                    try clear c14
                    try clear c14b0
                    try clear p15
                    try clear q15
                    try clear hx15
                    try clear hf15
                    try clear hx137_0
                    try clear hx15_0
                    try clear p137
                    try clear p15
                    try clear p2
                    try clear p6
                    try clear q137
                    try clear q15
                    obtain ⟨x5_3, x7_3, rfl, HA, HK3, HO_5, HB⟩ := hrel
                    cases gk with
                    | zero => exact absurd HA.out (by simp [laws_toIntS.l1])
                    | succ k3 =>
                      have H := HA.out
                      clear HA
                      simp only [laws_toIntS.l1] at H
                      by_cases c18 : x7_3 < (x5_3.length : Int)
                      · rw [if_pos c18] at H
                        have c18b0 : decide (x7_3 < (x5_3.length : Int)) = true := decide_eq_true c18
                        clear c18
                        by_cases c19 : 0 ≤ x7_3
                        · rw [if_pos c19] at H
                          have c19b0 : decide (0 ≤ x7_3) = true := decide_eq_true c19
                          clear c19
                          obtain ⟨y139, hy139⟩ : ∃ y_ : List Int, y_ = (x5_3.set (x7_3 : Int).toNat (-7000000000000000101)) := ⟨_, rfl⟩
                          replace H : (laws_toIntS.l1 k3 l0 y139 (wrap64 (x7_3 + 1))) = some r := by first | (rw [hy139]; with_reducible exact H) | (have H2_ := (Option.bind_some _ _).symm.trans H; rw [hy139]; with_reducible exact H2_) | (have H2_ := (Option.bind_some _ _).symm.trans H; with_reducible exact H2_) | with_reducible exact H | (rw [hy139]; exact H) | exact H
                          have Ny139 := Aside0.mk hy139
                          clear hy139
                          have H' := Aside0.mk H
                          clear H
                          obtain ⟨Ao21, co21, eo21⟩ := Kd.R_slice HO_5.out
                          subst eo21
                          have p20 : 0 ≤ (x7_3 : Int) := of_decide_eq_true (by first | (with_reducible assumption) | assumption)
                          have q20 : (x7_3 : Int) < ((x5_3.length : Int) : Int) := of_decide_eq_true (by first | (with_reducible assumption) | assumption)
                          obtain ⟨go20, co20, eo20, gb20, gl20, cl20, HG20⟩ := Kd.R_form HO_5.out (by omega)
                          (first | cases eo20 | (injection eo20 with ea_ en_ ec_; (first | subst ea_ | (injection ea_ with ea_; subst ea_)); subst ec_; clear en_))
                          have GB20 := Aside0.mk gb20
                          have GG20 := Aside0.mk HG20
                          clear gb20 gl20 HG20
                          obtain ⟨hx20_0, hf20_0⟩ := Kd.R_celln 0 HO_5.out (x7_3 : Int) p20 q20
                          replace p20 := eq_true p20
                          replace q20 := eq_true q20
                          have HP22 := Kd.R_putg HO_5.out (x7_3 : Int) (-7000000000000000101)
                          go_wp2_with (first | ((with_reducible refine gate_store (t := 3) (p := 44) rfl ?_); refine store_event (t := 3) (p := 44) (v := ?vo_w23) (w1 := (wr.setCell ⟨go20, (x7_3 : Int).toNat, none⟩ (.int .i64 (-7000000000000000101)))) ?hg ?ho ?hn ?hr ?_; (case ho => rfl); (case hg => rfl); (case hn => rfl); (case hr => first | (go_simp; done) | (go_simp; rfl)); intro w23 hw; have hg : wr.grownBy w23 (some go20) := (by rw [hw]; exact HP22.2); have hp_ : Kd.R (Kd.int .i64) 3 w23 w.heap.size (fun _ => True) (.slice (some ⟨go20, 0, none⟩) x5_3.length co21) y139 := (by rw [hw, Ny139.out]; exact HP22.1); clear HP22; have n0_ := Aside0.mk (hp_); have n1_ := Aside0.mk ((by rw [hw]; exact below_set (HB.out) GB20.out : Below w.heap.size w w23)); clear HO_5; clear HB; have HO_5 := n0_; have HB := n1_; clear n0_ n1_; clear hg hw hp_))
                          go_roundg k3
                          case measure => have := HJ2.out; have := HK2.out; have := HK3.out; omega
                          case rel => exact ⟨(y139), (wrap64 (x7_3 + 1)), (by first | rfl | (simp; done) | (simp [*]; done)), H', ⟨by have := HJ2.out; have := HK2.out; have := HK3.out; omega⟩, ⟨by (with_reducible repeat (first | apply Kd.R_alloc | apply Kd.R_drewN | apply Kd.R_drew)); exact HO_5.out⟩, ⟨by repeat (first | (with_reducible first | exact HB.out | apply below_alloc | apply pw_below_drewN | apply below_drew1) | exact HB.out)⟩⟩
                        · rw [if_neg c19] at H
                          exact absurd H (by simp)
                      · rw [if_neg c18] at H
                        have c18b0 : decide (x7_3 < (x5_3.length : Int)) = false := decide_eq_false c18
                        clear c18
                        by_cases c24 : 0 ≤ (l0.length : Int)
                        · rw [if_pos c24] at H
                          have c24b0 := eq_true c24
                          have c24b1 : decide (0 ≤ (l0.length : Int)) = true := decide_eq_true c24
                          clear c24
                          by_cases c25 : (l0.length : Int) ≤ (x5_3.length : Int)
                          · rw [if_pos c25] at H
                            have c25b0 := eq_true c25
                            have c25b1 : decide ((l0.length : Int) ≤ (x5_3.length : Int)) = true := decide_eq_true c25
                            clear c25
                            obtain ⟨y140, hy140⟩ : ∃ y_ : List Int, y_ = (x5_3.take ((l0.length : Int) : Int).toNat) := ⟨_, rfl⟩
                            replace H : (some y140) = some r := by first | (rw [hy140]; with_reducible exact H) | (have H2_ := (Option.bind_some _ _).symm.trans H; rw [hy140]; with_reducible exact H2_) | (have H2_ := (Option.bind_some _ _).symm.trans H; with_reducible exact H2_) | with_reducible exact H | (rw [hy140]; exact H) | exact H
                            have Ny140 := Aside0.mk hy140
                            clear hy140
                            obtain rfl := Option.some.inj H
                            obtain ⟨Ao26, co26, eo26⟩ := Kd.R_slice HO_5.out
                            subst eo26
                            have q27 : ((l0.length : Int) : Int) ≤ ((x5_3.length : Int) : Int) := of_decide_eq_true (by first | (with_reducible assumption) | assumption)
                            obtain ⟨i027, hi027, _, hsz27, _⟩ := info_parts info3
                            have hcut27 := cut_to (P := Try.prog) 46 3 .i64 Try.underlying46 hi027 Ao26 x5_3.length co26 (l0.length : Int) (of_decide_eq_true (by first | (with_reducible assumption) | assumption)) q27 (Kd.R_reads' HO_5.out).2.1
                            have hr27 := Kd.R_take (m := ((l0.length : Int) : Int).toNat) HO_5.out (by omega)
                            have hy27 : y140.length = ((l0.length : Int) : Int).toNat := (by rw [Ny140.out, List.length_take]; omega)
                            rw [← Ny140.out] at hr27
                            rw [← hy27] at hr27 hcut27
                            clear hy27 hi027 hsz27 HO_5
                            have HO142 := Aside0.mk hr27
                            clear hr27
                            replace q27 := eq_true q27
                            go_wp2
                            go_ret
                            exact ⟨_, by first | rfl | (simp [errW_none, errW_some] <;> rfl) | (simp only [← hji7]; first | rfl | (simp [errW_none, errW_some] <;> rfl)) | (simp [*, errW_none, errW_some] <;> rfl), by (with_reducible repeat (first | apply Kd.R_alloc | apply Kd.R_drewN | apply Kd.R_drew)); exact HO142.out, by repeat (first | (with_reducible first | exact HB.out | apply below_alloc | apply pw_below_drewN | apply below_drew1) | exact HB.out)⟩
                          · rw [if_neg c25] at H
                            exact absurd H (by simp)
                        · rw [if_neg c24] at H
                          exact absurd H (by simp)
          · rw [if_neg c9] at H
            exact absurd H (by simp)
        · rw [if_neg c8] at H
          exact absurd H (by simp)

end Go.Proofs.Ytoomacelbhojhaa.F
