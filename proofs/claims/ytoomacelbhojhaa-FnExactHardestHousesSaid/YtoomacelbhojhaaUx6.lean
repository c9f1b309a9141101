/- Plain Lean functions with the answers of Go functions, and proofs of it: printed by a program of this session (pr.py) over the kit's print, with hand-written parts. -/
import Derived.Test.YtoomacelbhojhaaUx0
import Derived.Test.YtoomacelbhojhaaUx4
namespace Go.Proofs.Ytoomacelbhojhaa.U
open Go.RowKit Go.Proofs.YtoomacelbhojhaaW.PrintWords Go.Proofs.YtoomacelbhojhaaW.PrintLast Go.Proofs.YtoomacelbhojhaaW.PrintMore
attribute [local go_sem] max2_int min2_int max_two min_two max_three min_three max_four min_four   -- for this text's walks alone
set_option linter.unusedVariables false
set_option linter.unusedSimpArgs false

-- FOR impl.villageOf
-- CALLS (impl.village).parts

theorem wpc_copy {P : Program} (w : World) {ops : Array Oper} {rest : List Oper} {o : Oper} {a : Act} {Q : Exit → Act → World → Prop} (hgd : o.guard = none) (d s : Operand) (t t' : TypeId)
    (ho : o.op = .call { callee := .builtin .copy, args := #[d, s], argTypes := #[t, t'] }) (v u : Value) (hd : a.eval d = v) (hs : a.eval s = u) {v' : Value} {w' : World}
    (hr : (Builtin.copy_ #[t, t'] o.type #[v, u]).run P w = .ok v' w') (h : wpList P ops Q rest (a.put o.dst v') w') : wpList P ops Q (o :: rest) a w := by
  refine wpList_plain hgd fun K hK => ?_
  unfold Oper.wp execOp
  simp only [ho, resolve, invoke, builtin, Sem.run_bind, Sem.run_pure, Result.andThen_ok, List.map_toArray, List.map_cons, List.map_nil, hd, hs, hr]
  exact hK _ _ h

theorem cpy1 (g : Nat) (W : World) {e : Int} {cc : Nat} {A : Option Addr} {a0 : Int} (hb : W.heap[g]? = some (.cells #[.int .i64 0, .int .i64 0, .int .i64 0, .int .i64 e] 101 (0, 0))) (hC : Kd.C (Kd.int .i64) W A 1 [a0]) (ty : TypeId) :
    (Builtin.copy_ #[46, 46] ty #[.slice (some ⟨g, 0, none⟩) 3 3, .slice A 1 cc]).run Try.prog W = .ok (.int .i64 1) ((W).setCell ⟨g, 0, none⟩ (.int .i64 a0)) := by
  obtain ⟨_, _, hA⟩ := Kd.reads_of_C (enc := Value.int .i64) (d := (0 : Int)) (h1 := fun _ => rfl) hC
  obtain ⟨ad, rfl, hc⟩ := hA (by decide)
  have h_ := run_copy_cells (P := Try.prog) W 46 46 ty 3 g 0 3 3 ad 1 cc [.int .i64 a0] Try.underlying46 (by kernel_rfl) rfl (by
    intro j u hu
    match j, hu with
    | 0, hu => exact (hc 0 (by decide)).trans hu
    | k + 1, hu => simp at hu) (by
    intro j hj
    match j, hj with
    | 0, hj => rw [show (⟨g, 0 + 0, none⟩ : Addr) = ⟨g, 0, none⟩ by simp, (blk_cell hb 0).trans rfl]; rfl
    | k + 1, hj => exact absurd hj (by simp)) (fun j _ => blk_frozen hb _) (by simp [Value.oneCell'])
  exact h_

set_option maxHeartbeats 8000000 in
set_option maxRecDepth 100000 in
theorem villageOf1 (e : Int) (A : Option Addr) (cc : Nat) (a0 : Int) (w : World) (hC : Kd.C (Kd.int .i64) w A 1 [a0]) :
    Calls Try.prog 87 #[.int .i64 e, .slice A 1 cc] w fun e_ w' => e_ = .returned (vCells (vOf e [a0])) ∧ Below w.heap.size w w' := by
  have HC0 := Aside0.mk hC
  have HB := Aside0.mk (Below.refl w.heap.size w)
  clear hC
  go_enter Try.func87, Try.ntmps87
  go_upto_region 2 with (first | ((with_reducible refine gate_dst (N := 4) rfl ?_); refine box_event ?hg (N := 4) ?hd (cs := #[.int .i64 0, .int .i64 0, .int .i64 0, .int .i64 0]) (t := 101) ?hr ?_; (case hd => rfl); (case hg => rfl); (case hr => first | (go_simp; done) | (go_simp; rfl)); intro gB4 hg_ w_gB4 BK_ hb_; have ORD_ : Aside0 ((True) ∧ (w.heap.size ≤ gB4)) := ⟨by refine ⟨trivial, ?_⟩; (have := HB.out.size); omega⟩; have ORD := ORD_; clear ORD_; have n0_ : Aside0 (Below w.heap.size w w_gB4) := ⟨Hx.bb_below hb_ (by first | exact HB.out | exact below_drew1 HB.out | exact pw_below_drewN HB.out _)⟩; have m0_ : Aside0 (w_gB4.heap[gB4]? = some (.cells #[.int .i64 0, .int .i64 0, .int .i64 0, .int .i64 0] 101 (0, 0))) := ⟨BK_⟩; (try clear HB); have HB := n0_; have B4 := m0_; clear n0_ m0_; have cB4_0 : w_gB4.cell? ⟨gB4, 0, none⟩ = some (.int .i64 0) := (blk_cell B4.out 0).trans rfl; have dB4_0 := blk_frozen B4.out 0; have cB4_1 : w_gB4.cell? ⟨gB4, 1, none⟩ = some (.int .i64 0) := (blk_cell B4.out 1).trans rfl; have dB4_1 := blk_frozen B4.out 1; have cB4_2 : w_gB4.cell? ⟨gB4, 2, none⟩ = some (.int .i64 0) := (blk_cell B4.out 2).trans rfl; have dB4_2 := blk_frozen B4.out 2; have cB4_3 : w_gB4.cell? ⟨gB4, 3, none⟩ = some (.int .i64 0) := (blk_cell B4.out 3).trans rfl; have dB4_3 := blk_frozen B4.out 3; clear hg_ BK_ hb_) | ((with_reducible refine gate_dst (N := 5) rfl ?_); refine box_event ?hg (N := 5) ?hd (cs := #[.int .i64 0, .int .i64 0, .int .i64 0, .int .i64 0]) (t := 101) ?hr ?_; (case hd => rfl); (case hg => rfl); (case hr => first | (go_simp; done) | (go_simp; rfl)); intro gB5 hg_ w_gB5 BK_ hb_; have ORD_ : Aside0 (((True) ∧ (w.heap.size ≤ gB4)) ∧ (gB4 < gB5 ∧ w.heap.size ≤ gB5)) := ⟨by refine ⟨ORD.out, ?_⟩; (have := HB.out.size); (have := blk_lt B4.out); omega⟩; clear ORD; have ORD := ORD_; clear ORD_; have n0_ : Aside0 (Below w.heap.size w w_gB5) := ⟨Hx.bb_below hb_ (by first | exact HB.out | exact below_drew1 HB.out | exact pw_below_drewN HB.out _)⟩; have n1_ : Aside0 (w_gB5.heap[gB4]? = some (.cells #[.int .i64 0, .int .i64 0, .int .i64 0, .int .i64 0] 101 (0, 0))) := ⟨Hx.b_below hb_ B4.out⟩; have m0_ : Aside0 (w_gB5.heap[gB5]? = some (.cells #[.int .i64 0, .int .i64 0, .int .i64 0, .int .i64 0] 101 (0, 0))) := ⟨BK_⟩; (try clear cB4_0 dB4_0 cB4_1 dB4_1 cB4_2 dB4_2 cB4_3 dB4_3); (try clear HB); (try clear B4); have HB := n0_; have B4 := n1_; have B5 := m0_; clear n0_ n1_ m0_; have cB4_0 : w_gB5.cell? ⟨gB4, 0, none⟩ = some (.int .i64 0) := (blk_cell B4.out 0).trans rfl; have dB4_0 := blk_frozen B4.out 0; have cB4_1 : w_gB5.cell? ⟨gB4, 1, none⟩ = some (.int .i64 0) := (blk_cell B4.out 1).trans rfl; have dB4_1 := blk_frozen B4.out 1; have cB4_2 : w_gB5.cell? ⟨gB4, 2, none⟩ = some (.int .i64 0) := (blk_cell B4.out 2).trans rfl; have dB4_2 := blk_frozen B4.out 2; have cB4_3 : w_gB5.cell? ⟨gB4, 3, none⟩ = some (.int .i64 0) := (blk_cell B4.out 3).trans rfl; have dB4_3 := blk_frozen B4.out 3; have cB5_0 : w_gB5.cell? ⟨gB5, 0, none⟩ = some (.int .i64 0) := (blk_cell B5.out 0).trans rfl; have dB5_0 := blk_frozen B5.out 0; have cB5_1 : w_gB5.cell? ⟨gB5, 1, none⟩ = some (.int .i64 0) := (blk_cell B5.out 1).trans rfl; have dB5_1 := blk_frozen B5.out 1; have cB5_2 : w_gB5.cell? ⟨gB5, 2, none⟩ = some (.int .i64 0) := (blk_cell B5.out 2).trans rfl; have dB5_2 := blk_frozen B5.out 2; have cB5_3 : w_gB5.cell? ⟨gB5, 3, none⟩ = some (.int .i64 0) := (blk_cell B5.out 3).trans rfl; have dB5_3 := blk_frozen B5.out 3; clear hg_ BK_ hb_) | ((with_reducible refine gate_store (t := 101) (p := 5) rfl ?_); refine store_event (t := 101) (p := 5) (v := ?vo_w1) (w1 := (((((w_gB5).setCell ⟨gB5, 0, none⟩ (.int .i64 0)).setCell ⟨gB5, 1, none⟩ (.int .i64 0)).setCell ⟨gB5, 2, none⟩ (.int .i64 0)).setCell ⟨gB5, 3, none⟩ (.int .i64 e))) ?hg ?ho ?hn ?hr ?_; (case ho => rfl); (case hg => rfl); (case hn => rfl); (case hr => first | (go_simp; done) | (go_simp; rfl)); intro w_1 hw_; have n0_ : Aside0 (Below w.heap.size w w_1) := ⟨by rw [hw_]; exact below_set (g := gB5) (below_set (g := gB5) (below_set (g := gB5) (below_set (g := gB5) HB.out (by have := ORD.out; omega)) (by have := ORD.out; omega)) (by have := ORD.out; omega)) (by have := ORD.out; omega)⟩; have n1_ : Aside0 (w_1.heap[gB4]? = some (.cells #[.int .i64 0, .int .i64 0, .int .i64 0, .int .i64 0] 101 (0, 0))) := ⟨by rw [hw_]; exact blk_far (blk_far (blk_far (blk_far B4.out (show gB4 ≠ gB5 by have := ORD.out; omega) _) (show gB4 ≠ gB5 by have := ORD.out; omega) _) (show gB4 ≠ gB5 by have := ORD.out; omega) _) (show gB4 ≠ gB5 by have := ORD.out; omega) _⟩; have n2_ : Aside0 (w_1.heap[gB5]? = some (.cells #[.int .i64 0, .int .i64 0, .int .i64 0, .int .i64 e] 101 (0, 0))) := ⟨by rw [hw_]; exact blk_put (blk_put (blk_put (blk_put B5.out 0 _ rfl) 1 _ rfl) 2 _ rfl) 3 _ rfl⟩; (try clear cB4_0 dB4_0 cB4_1 dB4_1 cB4_2 dB4_2 cB4_3 dB4_3 cB5_0 dB5_0 cB5_1 dB5_1 cB5_2 dB5_2 cB5_3 dB5_3); (try clear HB); (try clear B4); (try clear B5); have HB := n0_; have B4 := n1_; have B5 := n2_; clear n0_ n1_ n2_; have cB4_0 : w_1.cell? ⟨gB4, 0, none⟩ = some (.int .i64 0) := (blk_cell B4.out 0).trans rfl; have dB4_0 := blk_frozen B4.out 0; have cB4_1 : w_1.cell? ⟨gB4, 1, none⟩ = some (.int .i64 0) := (blk_cell B4.out 1).trans rfl; have dB4_1 := blk_frozen B4.out 1; have cB4_2 : w_1.cell? ⟨gB4, 2, none⟩ = some (.int .i64 0) := (blk_cell B4.out 2).trans rfl; have dB4_2 := blk_frozen B4.out 2; have cB4_3 : w_1.cell? ⟨gB4, 3, none⟩ = some (.int .i64 0) := (blk_cell B4.out 3).trans rfl; have dB4_3 := blk_frozen B4.out 3; have cB5_0 : w_1.cell? ⟨gB5, 0, none⟩ = some (.int .i64 0) := (blk_cell B5.out 0).trans rfl; have dB5_0 := blk_frozen B5.out 0; have cB5_1 : w_1.cell? ⟨gB5, 1, none⟩ = some (.int .i64 0) := (blk_cell B5.out 1).trans rfl; have dB5_1 := blk_frozen B5.out 1; have cB5_2 : w_1.cell? ⟨gB5, 2, none⟩ = some (.int .i64 0) := (blk_cell B5.out 2).trans rfl; have dB5_2 := blk_frozen B5.out 2; have cB5_3 : w_1.cell? ⟨gB5, 3, none⟩ = some (.int .i64 e) := (blk_cell B5.out 3).trans rfl; have dB5_3 := blk_frozen B5.out 3; clear hw_))
  have hcp := cpy1 gB5 w_1 (cc := cc) B5.out (Kd.C_below HC0.out HB.out) 3
  go_upto_region 3 with fail
  clear hcp
  have n0_ : Aside0 (Below w.heap.size w ((w_1).setCell ⟨gB5, 0, none⟩ (.int .i64 a0))) := ⟨below_set (g := gB5) HB.out (by have := ORD.out; omega)⟩
  have n1_ : Aside0 (((w_1).setCell ⟨gB5, 0, none⟩ (.int .i64 a0)).heap[gB4]? = some (.cells #[.int .i64 0, .int .i64 0, .int .i64 0, .int .i64 0] 101 (0, 0))) := ⟨blk_far B4.out (show gB4 ≠ gB5 by have := ORD.out; omega) _⟩
  have n2_ : Aside0 (((w_1).setCell ⟨gB5, 0, none⟩ (.int .i64 a0)).heap[gB5]? = some (.cells #[.int .i64 a0, .int .i64 0, .int .i64 0, .int .i64 e] 101 (0, 0))) := ⟨blk_put B5.out 0 _ rfl⟩
  (try clear cB4_0 dB4_0 cB4_1 dB4_1 cB4_2 dB4_2 cB4_3 dB4_3 cB5_0 dB5_0 cB5_1 dB5_1 cB5_2 dB5_2 cB5_3 dB5_3)
  (try clear HB)
  (try clear B4)
  (try clear B5)
  generalize (w_1).setCell ⟨gB5, 0, none⟩ (.int .i64 a0) = w_2 at n0_ n1_ n2_ ⊢
  have HB := n0_
  have B4 := n1_
  have B5 := n2_
  clear n0_ n1_ n2_
  have cB4_0 : w_2.cell? ⟨gB4, 0, none⟩ = some (.int .i64 0) := (blk_cell B4.out 0).trans rfl
  have dB4_0 := blk_frozen B4.out 0
  have cB4_1 : w_2.cell? ⟨gB4, 1, none⟩ = some (.int .i64 0) := (blk_cell B4.out 1).trans rfl
  have dB4_1 := blk_frozen B4.out 1
  have cB4_2 : w_2.cell? ⟨gB4, 2, none⟩ = some (.int .i64 0) := (blk_cell B4.out 2).trans rfl
  have dB4_2 := blk_frozen B4.out 2
  have cB4_3 : w_2.cell? ⟨gB4, 3, none⟩ = some (.int .i64 0) := (blk_cell B4.out 3).trans rfl
  have dB4_3 := blk_frozen B4.out 3
  have cB5_0 : w_2.cell? ⟨gB5, 0, none⟩ = some (.int .i64 a0) := (blk_cell B5.out 0).trans rfl
  have dB5_0 := blk_frozen B5.out 0
  have cB5_1 : w_2.cell? ⟨gB5, 1, none⟩ = some (.int .i64 0) := (blk_cell B5.out 1).trans rfl
  have dB5_1 := blk_frozen B5.out 1
  have cB5_2 : w_2.cell? ⟨gB5, 2, none⟩ = some (.int .i64 0) := (blk_cell B5.out 2).trans rfl
  have dB5_2 := blk_frozen B5.out 2
  have cB5_3 : w_2.cell? ⟨gB5, 3, none⟩ = some (.int .i64 e) := (blk_cell B5.out 3).trans rfl
  have dB5_3 := blk_frozen B5.out 3
  go_wp2_with (first | ((with_reducible refine gate_store (t := 101) (p := 4) rfl ?_); refine store_event (t := 101) (p := 4) (v := ?vo_w3) (w1 := (((((w_2).setCell ⟨gB4, 0, none⟩ (.int .i64 a0)).setCell ⟨gB4, 1, none⟩ (.int .i64 0)).setCell ⟨gB4, 2, none⟩ (.int .i64 0)).setCell ⟨gB4, 3, none⟩ (.int .i64 e))) ?hg ?ho ?hn ?hr ?_; (case ho => rfl); (case hg => rfl); (case hn => rfl); (case hr => first | (go_simp; done) | (go_simp; rfl)); intro w_3 hw_; have n0_ : Aside0 (Below w.heap.size w w_3) := ⟨by rw [hw_]; exact below_set (g := gB4) (below_set (g := gB4) (below_set (g := gB4) (below_set (g := gB4) HB.out (by have := ORD.out; omega)) (by have := ORD.out; omega)) (by have := ORD.out; omega)) (by have := ORD.out; omega)⟩; have n1_ : Aside0 (w_3.heap[gB4]? = some (.cells #[.int .i64 a0, .int .i64 0, .int .i64 0, .int .i64 e] 101 (0, 0))) := ⟨by rw [hw_]; exact blk_put (blk_put (blk_put (blk_put B4.out 0 _ rfl) 1 _ rfl) 2 _ rfl) 3 _ rfl⟩; have n2_ : Aside0 (w_3.heap[gB5]? = some (.cells #[.int .i64 a0, .int .i64 0, .int .i64 0, .int .i64 e] 101 (0, 0))) := ⟨by rw [hw_]; exact blk_far (blk_far (blk_far (blk_far B5.out (show gB5 ≠ gB4 by have := ORD.out; omega) _) (show gB5 ≠ gB4 by have := ORD.out; omega) _) (show gB5 ≠ gB4 by have := ORD.out; omega) _) (show gB5 ≠ gB4 by have := ORD.out; omega) _⟩; (try clear cB4_0 dB4_0 cB4_1 dB4_1 cB4_2 dB4_2 cB4_3 dB4_3 cB5_0 dB5_0 cB5_1 dB5_1 cB5_2 dB5_2 cB5_3 dB5_3); (try clear HB); (try clear B4); (try clear B5); have HB := n0_; have B4 := n1_; have B5 := n2_; clear n0_ n1_ n2_; have cB4_0 : w_3.cell? ⟨gB4, 0, none⟩ = some (.int .i64 a0) := (blk_cell B4.out 0).trans rfl; have dB4_0 := blk_frozen B4.out 0; have cB4_1 : w_3.cell? ⟨gB4, 1, none⟩ = some (.int .i64 0) := (blk_cell B4.out 1).trans rfl; have dB4_1 := blk_frozen B4.out 1; have cB4_2 : w_3.cell? ⟨gB4, 2, none⟩ = some (.int .i64 0) := (blk_cell B4.out 2).trans rfl; have dB4_2 := blk_frozen B4.out 2; have cB4_3 : w_3.cell? ⟨gB4, 3, none⟩ = some (.int .i64 e) := (blk_cell B4.out 3).trans rfl; have dB4_3 := blk_frozen B4.out 3; have cB5_0 : w_3.cell? ⟨gB5, 0, none⟩ = some (.int .i64 a0) := (blk_cell B5.out 0).trans rfl; have dB5_0 := blk_frozen B5.out 0; have cB5_1 : w_3.cell? ⟨gB5, 1, none⟩ = some (.int .i64 0) := (blk_cell B5.out 1).trans rfl; have dB5_1 := blk_frozen B5.out 1; have cB5_2 : w_3.cell? ⟨gB5, 2, none⟩ = some (.int .i64 0) := (blk_cell B5.out 2).trans rfl; have dB5_2 := blk_frozen B5.out 2; have cB5_3 : w_3.cell? ⟨gB5, 3, none⟩ = some (.int .i64 e) := (blk_cell B5.out 3).trans rfl; have dB5_3 := blk_frozen B5.out 3; clear hw_))
  exact bodyPost_ret (v := .agg #[.int .i64 a0, .int .i64 0, .int .i64 0, .int .i64 e]) (by simp [results, Try.results87, go_sem, cB4_0, cB4_1, cB4_2, cB4_3]) rfl ⟨rfl, HB.out⟩

theorem cpy2 (g : Nat) (W : World) {e : Int} {cc : Nat} {A : Option Addr} {a0 a1 : Int} (hb : W.heap[g]? = some (.cells #[.int .i64 0, .int .i64 0, .int .i64 0, .int .i64 e] 101 (0, 0))) (hC : Kd.C (Kd.int .i64) W A 2 [a0, a1]) (ty : TypeId) :
    (Builtin.copy_ #[46, 46] ty #[.slice (some ⟨g, 0, none⟩) 3 3, .slice A 2 cc]).run Try.prog W = .ok (.int .i64 2) (((W).setCell ⟨g, 0, none⟩ (.int .i64 a0)).setCell ⟨g, 1, none⟩ (.int .i64 a1)) := by
  obtain ⟨_, _, hA⟩ := Kd.reads_of_C (enc := Value.int .i64) (d := (0 : Int)) (h1 := fun _ => rfl) hC
  obtain ⟨ad, rfl, hc⟩ := hA (by decide)
  have h_ := run_copy_cells (P := Try.prog) W 46 46 ty 3 g 0 3 3 ad 2 cc [.int .i64 a0, .int .i64 a1] Try.underlying46 (by kernel_rfl) rfl (by
    intro j u hu
    match j, hu with
    | 0, hu => exact (hc 0 (by decide)).trans hu
    | 1, hu => exact (hc 1 (by decide)).trans hu
    | k + 2, hu => simp at hu) (by
    intro j hj
    match j, hj with
    | 0, hj => rw [show (⟨g, 0 + 0, none⟩ : Addr) = ⟨g, 0, none⟩ by simp, (blk_cell hb 0).trans rfl]; rfl
    | 1, hj => rw [show (⟨g, 0 + 1, none⟩ : Addr) = ⟨g, 1, none⟩ by simp, (blk_cell hb 1).trans rfl]; rfl
    | k + 2, hj => exact absurd hj (by simp)) (fun j _ => blk_frozen hb _) (by simp [Value.oneCell'])
  exact h_

set_option maxHeartbeats 8000000 in
set_option maxRecDepth 100000 in
theorem villageOf2 (e : Int) (A : Option Addr) (cc : Nat) (a0 a1 : Int) (w : World) (hC : Kd.C (Kd.int .i64) w A 2 [a0, a1]) :
    Calls Try.prog 87 #[.int .i64 e, .slice A 2 cc] w fun e_ w' => e_ = .returned (vCells (vOf e [a0, a1])) ∧ Below w.heap.size w w' := by
  have HC0 := Aside0.mk hC
  have HB := Aside0.mk (Below.refl w.heap.size w)
  clear hC
  go_enter Try.func87, Try.ntmps87
  go_upto_region 2 with (first | ((with_reducible refine gate_dst (N := 4) rfl ?_); refine box_event ?hg (N := 4) ?hd (cs := #[.int .i64 0, .int .i64 0, .int .i64 0, .int .i64 0]) (t := 101) ?hr ?_; (case hd => rfl); (case hg => rfl); (case hr => first | (go_simp; done) | (go_simp; rfl)); intro gB4 hg_ w_gB4 BK_ hb_; have ORD_ : Aside0 ((True) ∧ (w.heap.size ≤ gB4)) := ⟨by refine ⟨trivial, ?_⟩; (have := HB.out.size); omega⟩; have ORD := ORD_; clear ORD_; have n0_ : Aside0 (Below w.heap.size w w_gB4) := ⟨Hx.bb_below hb_ (by first | exact HB.out | exact below_drew1 HB.out | exact pw_below_drewN HB.out _)⟩; have m0_ : Aside0 (w_gB4.heap[gB4]? = some (.cells #[.int .i64 0, .int .i64 0, .int .i64 0, .int .i64 0] 101 (0, 0))) := ⟨BK_⟩; (try clear HB); have HB := n0_; have B4 := m0_; clear n0_ m0_; have cB4_0 : w_gB4.cell? ⟨gB4, 0, none⟩ = some (.int .i64 0) := (blk_cell B4.out 0).trans rfl; have dB4_0 := blk_frozen B4.out 0; have cB4_1 : w_gB4.cell? ⟨gB4, 1, none⟩ = some (.int .i64 0) := (blk_cell B4.out 1).trans rfl; have dB4_1 := blk_frozen B4.out 1; have cB4_2 : w_gB4.cell? ⟨gB4, 2, none⟩ = some (.int .i64 0) := (blk_cell B4.out 2).trans rfl; have dB4_2 := blk_frozen B4.out 2; have cB4_3 : w_gB4.cell? ⟨gB4, 3, none⟩ = some (.int .i64 0) := (blk_cell B4.out 3).trans rfl; have dB4_3 := blk_frozen B4.out 3; clear hg_ BK_ hb_) | ((with_reducible refine gate_dst (N := 5) rfl ?_); refine box_event ?hg (N := 5) ?hd (cs := #[.int .i64 0, .int .i64 0, .int .i64 0, .int .i64 0]) (t := 101) ?hr ?_; (case hd => rfl); (case hg => rfl); (case hr => first | (go_simp; done) | (go_simp; rfl)); intro gB5 hg_ w_gB5 BK_ hb_; have ORD_ : Aside0 (((True) ∧ (w.heap.size ≤ gB4)) ∧ (gB4 < gB5 ∧ w.heap.size ≤ gB5)) := ⟨by refine ⟨ORD.out, ?_⟩; (have := HB.out.size); (have := blk_lt B4.out); omega⟩; clear ORD; have ORD := ORD_; clear ORD_; have n0_ : Aside0 (Below w.heap.size w w_gB5) := ⟨Hx.bb_below hb_ (by first | exact HB.out | exact below_drew1 HB.out | exact pw_below_drewN HB.out _)⟩; have n1_ : Aside0 (w_gB5.heap[gB4]? = some (.cells #[.int .i64 0, .int .i64 0, .int .i64 0, .int .i64 0] 101 (0, 0))) := ⟨Hx.b_below hb_ B4.out⟩; have m0_ : Aside0 (w_gB5.heap[gB5]? = some (.cells #[.int .i64 0, .int .i64 0, .int .i64 0, .int .i64 0] 101 (0, 0))) := ⟨BK_⟩; (try clear cB4_0 dB4_0 cB4_1 dB4_1 cB4_2 dB4_2 cB4_3 dB4_3); (try clear HB); (try clear B4); have HB := n0_; have B4 := n1_; have B5 := m0_; clear n0_ n1_ m0_; have cB4_0 : w_gB5.cell? ⟨gB4, 0, none⟩ = some (.int .i64 0) := (blk_cell B4.out 0).trans rfl; have dB4_0 := blk_frozen B4.out 0; have cB4_1 : w_gB5.cell? ⟨gB4, 1, none⟩ = some (.int .i64 0) := (blk_cell B4.out 1).trans rfl; have dB4_1 := blk_frozen B4.out 1; have cB4_2 : w_gB5.cell? ⟨gB4, 2, none⟩ = some (.int .i64 0) := (blk_cell B4.out 2).trans rfl; have dB4_2 := blk_frozen B4.out 2; have cB4_3 : w_gB5.cell? ⟨gB4, 3, none⟩ = some (.int .i64 0) := (blk_cell B4.out 3).trans rfl; have dB4_3 := blk_frozen B4.out 3; have cB5_0 : w_gB5.cell? ⟨gB5, 0, none⟩ = some (.int .i64 0) := (blk_cell B5.out 0).trans rfl; have dB5_0 := blk_frozen B5.out 0; have cB5_1 : w_gB5.cell? ⟨gB5, 1, none⟩ = some (.int .i64 0) := (blk_cell B5.out 1).trans rfl; have dB5_1 := blk_frozen B5.out 1; have cB5_2 : w_gB5.cell? ⟨gB5, 2, none⟩ = some (.int .i64 0) := (blk_cell B5.out 2).trans rfl; have dB5_2 := blk_frozen B5.out 2; have cB5_3 : w_gB5.cell? ⟨gB5, 3, none⟩ = some (.int .i64 0) := (blk_cell B5.out 3).trans rfl; have dB5_3 := blk_frozen B5.out 3; clear hg_ BK_ hb_) | ((with_reducible refine gate_store (t := 101) (p := 5) rfl ?_); refine store_event (t := 101) (p := 5) (v := ?vo_w1) (w1 := (((((w_gB5).setCell ⟨gB5, 0, none⟩ (.int .i64 0)).setCell ⟨gB5, 1, none⟩ (.int .i64 0)).setCell ⟨gB5, 2, none⟩ (.int .i64 0)).setCell ⟨gB5, 3, none⟩ (.int .i64 e))) ?hg ?ho ?hn ?hr ?_; (case ho => rfl); (case hg => rfl); (case hn => rfl); (case hr => first | (go_simp; done) | (go_simp; rfl)); intro w_1 hw_; have n0_ : Aside0 (Below w.heap.size w w_1) := ⟨by rw [hw_]; exact below_set (g := gB5) (below_set (g := gB5) (below_set (g := gB5) (below_set (g := gB5) HB.out (by have := ORD.out; omega)) (by have := ORD.out; omega)) (by have := ORD.out; omega)) (by have := ORD.out; omega)⟩; have n1_ : Aside0 (w_1.heap[gB4]? = some (.cells #[.int .i64 0, .int .i64 0, .int .i64 0, .int .i64 0] 101 (0, 0))) := ⟨by rw [hw_]; exact blk_far (blk_far (blk_far (blk_far B4.out (show gB4 ≠ gB5 by have := ORD.out; omega) _) (show gB4 ≠ gB5 by have := ORD.out; omega) _) (show gB4 ≠ gB5 by have := ORD.out; omega) _) (show gB4 ≠ gB5 by have := ORD.out; omega) _⟩; have n2_ : Aside0 (w_1.heap[gB5]? = some (.cells #[.int .i64 0, .int .i64 0, .int .i64 0, .int .i64 e] 101 (0, 0))) := ⟨by rw [hw_]; exact blk_put (blk_put (blk_put (blk_put B5.out 0 _ rfl) 1 _ rfl) 2 _ rfl) 3 _ rfl⟩; (try clear cB4_0 dB4_0 cB4_1 dB4_1 cB4_2 dB4_2 cB4_3 dB4_3 cB5_0 dB5_0 cB5_1 dB5_1 cB5_2 dB5_2 cB5_3 dB5_3); (try clear HB); (try clear B4); (try clear B5); have HB := n0_; have B4 := n1_; have B5 := n2_; clear n0_ n1_ n2_; have cB4_0 : w_1.cell? ⟨gB4, 0, none⟩ = some (.int .i64 0) := (blk_cell B4.out 0).trans rfl; have dB4_0 := blk_frozen B4.out 0; have cB4_1 : w_1.cell? ⟨gB4, 1, none⟩ = some (.int .i64 0) := (blk_cell B4.out 1).trans rfl; have dB4_1 := blk_frozen B4.out 1; have cB4_2 : w_1.cell? ⟨gB4, 2, none⟩ = some (.int .i64 0) := (blk_cell B4.out 2).trans rfl; have dB4_2 := blk_frozen B4.out 2; have cB4_3 : w_1.cell? ⟨gB4, 3, none⟩ = some (.int .i64 0) := (blk_cell B4.out 3).trans rfl; have dB4_3 := blk_frozen B4.out 3; have cB5_0 : w_1.cell? ⟨gB5, 0, none⟩ = some (.int .i64 0) := (blk_cell B5.out 0).trans rfl; have dB5_0 := blk_frozen B5.out 0; have cB5_1 : w_1.cell? ⟨gB5, 1, none⟩ = some (.int .i64 0) := (blk_cell B5.out 1).trans rfl; have dB5_1 := blk_frozen B5.out 1; have cB5_2 : w_1.cell? ⟨gB5, 2, none⟩ = some (.int .i64 0) := (blk_cell B5.out 2).trans rfl; have dB5_2 := blk_frozen B5.out 2; have cB5_3 : w_1.cell? ⟨gB5, 3, none⟩ = some (.int .i64 e) := (blk_cell B5.out 3).trans rfl; have dB5_3 := blk_frozen B5.out 3; clear hw_))
  have hcp := cpy2 gB5 w_1 (cc := cc) B5.out (Kd.C_below HC0.out HB.out) 3
  go_upto_region 3 with fail
  clear hcp
  have n0_ : Aside0 (Below w.heap.size w (((w_1).setCell ⟨gB5, 0, none⟩ (.int .i64 a0)).setCell ⟨gB5, 1, none⟩ (.int .i64 a1))) := ⟨below_set (g := gB5) (below_set (g := gB5) HB.out (by have := ORD.out; omega)) (by have := ORD.out; omega)⟩
  have n1_ : Aside0 ((((w_1).setCell ⟨gB5, 0, none⟩ (.int .i64 a0)).setCell ⟨gB5, 1, none⟩ (.int .i64 a1)).heap[gB4]? = some (.cells #[.int .i64 0, .int .i64 0, .int .i64 0, .int .i64 0] 101 (0, 0))) := ⟨blk_far (blk_far B4.out (show gB4 ≠ gB5 by have := ORD.out; omega) _) (show gB4 ≠ gB5 by have := ORD.out; omega) _⟩
  have n2_ : Aside0 ((((w_1).setCell ⟨gB5, 0, none⟩ (.int .i64 a0)).setCell ⟨gB5, 1, none⟩ (.int .i64 a1)).heap[gB5]? = some (.cells #[.int .i64 a0, .int .i64 a1, .int .i64 0, .int .i64 e] 101 (0, 0))) := ⟨blk_put (blk_put B5.out 0 _ rfl) 1 _ rfl⟩
  (try clear cB4_0 dB4_0 cB4_1 dB4_1 cB4_2 dB4_2 cB4_3 dB4_3 cB5_0 dB5_0 cB5_1 dB5_1 cB5_2 dB5_2 cB5_3 dB5_3)
  (try clear HB)
  (try clear B4)
  (try clear B5)
  generalize ((w_1).setCell ⟨gB5, 0, none⟩ (.int .i64 a0)).setCell ⟨gB5, 1, none⟩ (.int .i64 a1) = w_2 at n0_ n1_ n2_ ⊢
  have HB := n0_
  have B4 := n1_
  have B5 := n2_
  clear n0_ n1_ n2_
  have cB4_0 : w_2.cell? ⟨gB4, 0, none⟩ = some (.int .i64 0) := (blk_cell B4.out 0).trans rfl
  have dB4_0 := blk_frozen B4.out 0
  have cB4_1 : w_2.cell? ⟨gB4, 1, none⟩ = some (.int .i64 0) := (blk_cell B4.out 1).trans rfl
  have dB4_1 := blk_frozen B4.out 1
  have cB4_2 : w_2.cell? ⟨gB4, 2, none⟩ = some (.int .i64 0) := (blk_cell B4.out 2).trans rfl
  have dB4_2 := blk_frozen B4.out 2
  have cB4_3 : w_2.cell? ⟨gB4, 3, none⟩ = some (.int .i64 0) := (blk_cell B4.out 3).trans rfl
  have dB4_3 := blk_frozen B4.out 3
  have cB5_0 : w_2.cell? ⟨gB5, 0, none⟩ = some (.int .i64 a0) := (blk_cell B5.out 0).trans rfl
  have dB5_0 := blk_frozen B5.out 0
  have cB5_1 : w_2.cell? ⟨gB5, 1, none⟩ = some (.int .i64 a1) := (blk_cell B5.out 1).trans rfl
  have dB5_1 := blk_frozen B5.out 1
  have cB5_2 : w_2.cell? ⟨gB5, 2, none⟩ = some (.int .i64 0) := (blk_cell B5.out 2).trans rfl
  have dB5_2 := blk_frozen B5.out 2
  have cB5_3 : w_2.cell? ⟨gB5, 3, none⟩ = some (.int .i64 e) := (blk_cell B5.out 3).trans rfl
  have dB5_3 := blk_frozen B5.out 3
  go_wp2_with (first | ((with_reducible refine gate_store (t := 101) (p := 4) rfl ?_); refine store_event (t := 101) (p := 4) (v := ?vo_w3) (w1 := (((((w_2).setCell ⟨gB4, 0, none⟩ (.int .i64 a0)).setCell ⟨gB4, 1, none⟩ (.int .i64 a1)).setCell ⟨gB4, 2, none⟩ (.int .i64 0)).setCell ⟨gB4, 3, none⟩ (.int .i64 e))) ?hg ?ho ?hn ?hr ?_; (case ho => rfl); (case hg => rfl); (case hn => rfl); (case hr => first | (go_simp; done) | (go_simp; rfl)); intro w_3 hw_; have n0_ : Aside0 (Below w.heap.size w w_3) := ⟨by rw [hw_]; exact below_set (g := gB4) (below_set (g := gB4) (below_set (g := gB4) (below_set (g := gB4) HB.out (by have := ORD.out; omega)) (by have := ORD.out; omega)) (by have := ORD.out; omega)) (by have := ORD.out; omega)⟩; have n1_ : Aside0 (w_3.heap[gB4]? = some (.cells #[.int .i64 a0, .int .i64 a1, .int .i64 0, .int .i64 e] 101 (0, 0))) := ⟨by rw [hw_]; exact blk_put (blk_put (blk_put (blk_put B4.out 0 _ rfl) 1 _ rfl) 2 _ rfl) 3 _ rfl⟩; have n2_ : Aside0 (w_3.heap[gB5]? = some (.cells #[.int .i64 a0, .int .i64 a1, .int .i64 0, .int .i64 e] 101 (0, 0))) := ⟨by rw [hw_]; exact blk_far (blk_far (blk_far (blk_far B5.out (show gB5 ≠ gB4 by have := ORD.out; omega) _) (show gB5 ≠ gB4 by have := ORD.out; omega) _) (show gB5 ≠ gB4 by have := ORD.out; omega) _) (show gB5 ≠ gB4 by have := ORD.out; omega) _⟩; (try clear cB4_0 dB4_0 cB4_1 dB4_1 cB4_2 dB4_2 cB4_3 dB4_3 cB5_0 dB5_0 cB5_1 dB5_1 cB5_2 dB5_2 cB5_3 dB5_3); (try clear HB); (try clear B4); (try clear B5); have HB := n0_; have B4 := n1_; have B5 := n2_; clear n0_ n1_ n2_; have cB4_0 : w_3.cell? ⟨gB4, 0, none⟩ = some (.int .i64 a0) := (blk_cell B4.out 0).trans rfl; have dB4_0 := blk_frozen B4.out 0; have cB4_1 : w_3.cell? ⟨gB4, 1, none⟩ = some (.int .i64 a1) := (blk_cell B4.out 1).trans rfl; have dB4_1 := blk_frozen B4.out 1; have cB4_2 : w_3.cell? ⟨gB4, 2, none⟩ = some (.int .i64 0) := (blk_cell B4.out 2).trans rfl; have dB4_2 := blk_frozen B4.out 2; have cB4_3 : w_3.cell? ⟨gB4, 3, none⟩ = some (.int .i64 e) := (blk_cell B4.out 3).trans rfl; have dB4_3 := blk_frozen B4.out 3; have cB5_0 : w_3.cell? ⟨gB5, 0, none⟩ = some (.int .i64 a0) := (blk_cell B5.out 0).trans rfl; have dB5_0 := blk_frozen B5.out 0; have cB5_1 : w_3.cell? ⟨gB5, 1, none⟩ = some (.int .i64 a1) := (blk_cell B5.out 1).trans rfl; have dB5_1 := blk_frozen B5.out 1; have cB5_2 : w_3.cell? ⟨gB5, 2, none⟩ = some (.int .i64 0) := (blk_cell B5.out 2).trans rfl; have dB5_2 := blk_frozen B5.out 2; have cB5_3 : w_3.cell? ⟨gB5, 3, none⟩ = some (.int .i64 e) := (blk_cell B5.out 3).trans rfl; have dB5_3 := blk_frozen B5.out 3; clear hw_))
  exact bodyPost_ret (v := .agg #[.int .i64 a0, .int .i64 a1, .int .i64 0, .int .i64 e]) (by simp [results, Try.results87, go_sem, cB4_0, cB4_1, cB4_2, cB4_3]) rfl ⟨rfl, HB.out⟩

theorem cpy3 (g : Nat) (W : World) {e : Int} {cc : Nat} {A : Option Addr} {a0 a1 a2 : Int} (hb : W.heap[g]? = some (.cells #[.int .i64 0, .int .i64 0, .int .i64 0, .int .i64 e] 101 (0, 0))) (hC : Kd.C (Kd.int .i64) W A 3 [a0, a1, a2]) (ty : TypeId) :
    (Builtin.copy_ #[46, 46] ty #[.slice (some ⟨g, 0, none⟩) 3 3, .slice A 3 cc]).run Try.prog W = .ok (.int .i64 3) ((((W).setCell ⟨g, 0, none⟩ (.int .i64 a0)).setCell ⟨g, 1, none⟩ (.int .i64 a1)).setCell ⟨g, 2, none⟩ (.int .i64 a2)) := by
  obtain ⟨_, _, hA⟩ := Kd.reads_of_C (enc := Value.int .i64) (d := (0 : Int)) (h1 := fun _ => rfl) hC
  obtain ⟨ad, rfl, hc⟩ := hA (by decide)
  have h_ := run_copy_cells (P := Try.prog) W 46 46 ty 3 g 0 3 3 ad 3 cc [.int .i64 a0, .int .i64 a1, .int .i64 a2] Try.underlying46 (by kernel_rfl) rfl (by
    intro j u hu
    match j, hu with
    | 0, hu => exact (hc 0 (by decide)).trans hu
    | 1, hu => exact (hc 1 (by decide)).trans hu
    | 2, hu => exact (hc 2 (by decide)).trans hu
    | k + 3, hu => simp at hu) (by
    intro j hj
    match j, hj with
    | 0, hj => rw [show (⟨g, 0 + 0, none⟩ : Addr) = ⟨g, 0, none⟩ by simp, (blk_cell hb 0).trans rfl]; rfl
    | 1, hj => rw [show (⟨g, 0 + 1, none⟩ : Addr) = ⟨g, 1, none⟩ by simp, (blk_cell hb 1).trans rfl]; rfl
    | 2, hj => rw [show (⟨g, 0 + 2, none⟩ : Addr) = ⟨g, 2, none⟩ by simp, (blk_cell hb 2).trans rfl]; rfl
    | k + 3, hj => exact absurd hj (by simp)) (fun j _ => blk_frozen hb _) (by simp [Value.oneCell'])
  exact h_

set_option maxHeartbeats 8000000 in
set_option maxRecDepth 100000 in
theorem villageOf3 (e : Int) (A : Option Addr) (cc : Nat) (a0 a1 a2 : Int) (w : World) (hC : Kd.C (Kd.int .i64) w A 3 [a0, a1, a2]) :
    Calls Try.prog 87 #[.int .i64 e, .slice A 3 cc] w fun e_ w' => e_ = .returned (vCells (vOf e [a0, a1, a2])) ∧ Below w.heap.size w w' := by
  have HC0 := Aside0.mk hC
  have HB := Aside0.mk (Below.refl w.heap.size w)
  clear hC
  go_enter Try.func87, Try.ntmps87
  go_upto_region 2 with (first | ((with_reducible refine gate_dst (N := 4) rfl ?_); refine box_event ?hg (N := 4) ?hd (cs := #[.int .i64 0, .int .i64 0, .int .i64 0, .int .i64 0]) (t := 101) ?hr ?_; (case hd => rfl); (case hg => rfl); (case hr => first | (go_simp; done) | (go_simp; rfl)); intro gB4 hg_ w_gB4 BK_ hb_; have ORD_ : Aside0 ((True) ∧ (w.heap.size ≤ gB4)) := ⟨by refine ⟨trivial, ?_⟩; (have := HB.out.size); omega⟩; have ORD := ORD_; clear ORD_; have n0_ : Aside0 (Below w.heap.size w w_gB4) := ⟨Hx.bb_below hb_ (by first | exact HB.out | exact below_drew1 HB.out | exact pw_below_drewN HB.out _)⟩; have m0_ : Aside0 (w_gB4.heap[gB4]? = some (.cells #[.int .i64 0, .int .i64 0, .int .i64 0, .int .i64 0] 101 (0, 0))) := ⟨BK_⟩; (try clear HB); have HB := n0_; have B4 := m0_; clear n0_ m0_; have cB4_0 : w_gB4.cell? ⟨gB4, 0, none⟩ = some (.int .i64 0) := (blk_cell B4.out 0).trans rfl; have dB4_0 := blk_frozen B4.out 0; have cB4_1 : w_gB4.cell? ⟨gB4, 1, none⟩ = some (.int .i64 0) := (blk_cell B4.out 1).trans rfl; have dB4_1 := blk_frozen B4.out 1; have cB4_2 : w_gB4.cell? ⟨gB4, 2, none⟩ = some (.int .i64 0) := (blk_cell B4.out 2).trans rfl; have dB4_2 := blk_frozen B4.out 2; have cB4_3 : w_gB4.cell? ⟨gB4, 3, none⟩ = some (.int .i64 0) := (blk_cell B4.out 3).trans rfl; have dB4_3 := blk_frozen B4.out 3; clear hg_ BK_ hb_) | ((with_reducible refine gate_dst (N := 5) rfl ?_); refine box_event ?hg (N := 5) ?hd (cs := #[.int .i64 0, .int .i64 0, .int .i64 0, .int .i64 0]) (t := 101) ?hr ?_; (case hd => rfl); (case hg => rfl); (case hr => first | (go_simp; done) | (go_simp; rfl)); intro gB5 hg_ w_gB5 BK_ hb_; have ORD_ : Aside0 (((True) ∧ (w.heap.size ≤ gB4)) ∧ (gB4 < gB5 ∧ w.heap.size ≤ gB5)) := ⟨by refine ⟨ORD.out, ?_⟩; (have := HB.out.size); (have := blk_lt B4.out); omega⟩; clear ORD; have ORD := ORD_; clear ORD_; have n0_ : Aside0 (Below w.heap.size w w_gB5) := ⟨Hx.bb_below hb_ (by first | exact HB.out | exact below_drew1 HB.out | exact pw_below_drewN HB.out _)⟩; have n1_ : Aside0 (w_gB5.heap[gB4]? = some (.cells #[.int .i64 0, .int .i64 0, .int .i64 0, .int .i64 0] 101 (0, 0))) := ⟨Hx.b_below hb_ B4.out⟩; have m0_ : Aside0 (w_gB5.heap[gB5]? = some (.cells #[.int .i64 0, .int .i64 0, .int .i64 0, .int .i64 0] 101 (0, 0))) := ⟨BK_⟩; (try clear cB4_0 dB4_0 cB4_1 dB4_1 cB4_2 dB4_2 cB4_3 dB4_3); (try clear HB); (try clear B4); have HB := n0_; have B4 := n1_; have B5 := m0_; clear n0_ n1_ m0_; have cB4_0 : w_gB5.cell? ⟨gB4, 0, none⟩ = some (.int .i64 0) := (blk_cell B4.out 0).trans rfl; have dB4_0 := blk_frozen B4.out 0; have cB4_1 : w_gB5.cell? ⟨gB4, 1, none⟩ = some (.int .i64 0) := (blk_cell B4.out 1).trans rfl; have dB4_1 := blk_frozen B4.out 1; have cB4_2 : w_gB5.cell? ⟨gB4, 2, none⟩ = some (.int .i64 0) := (blk_cell B4.out 2).trans rfl; have dB4_2 := blk_frozen B4.out 2; have cB4_3 : w_gB5.cell? ⟨gB4, 3, none⟩ = some (.int .i64 0) := (blk_cell B4.out 3).trans rfl; have dB4_3 := blk_frozen B4.out 3; have cB5_0 : w_gB5.cell? ⟨gB5, 0, none⟩ = some (.int .i64 0) := (blk_cell B5.out 0).trans rfl; have dB5_0 := blk_frozen B5.out 0; have cB5_1 : w_gB5.cell? ⟨gB5, 1, none⟩ = some (.int .i64 0) := (blk_cell B5.out 1).trans rfl; have dB5_1 := blk_frozen B5.out 1; have cB5_2 : w_gB5.cell? ⟨gB5, 2, none⟩ = some (.int .i64 0) := (blk_cell B5.out 2).trans rfl; have dB5_2 := blk_frozen B5.out 2; have cB5_3 : w_gB5.cell? ⟨gB5, 3, none⟩ = some (.int .i64 0) := (blk_cell B5.out 3).trans rfl; have dB5_3 := blk_frozen B5.out 3; clear hg_ BK_ hb_) | ((with_reducible refine gate_store (t := 101) (p := 5) rfl ?_); refine store_event (t := 101) (p := 5) (v := ?vo_w1) (w1 := (((((w_gB5).setCell ⟨gB5, 0, none⟩ (.int .i64 0)).setCell ⟨gB5, 1, none⟩ (.int .i64 0)).setCell ⟨gB5, 2, none⟩ (.int .i64 0)).setCell ⟨gB5, 3, none⟩ (.int .i64 e))) ?hg ?ho ?hn ?hr ?_; (case ho => rfl); (case hg => rfl); (case hn => rfl); (case hr => first | (go_simp; done) | (go_simp; rfl)); intro w_1 hw_; have n0_ : Aside0 (Below w.heap.size w w_1) := ⟨by rw [hw_]; exact below_set (g := gB5) (below_set (g := gB5) (below_set (g := gB5) (below_set (g := gB5) HB.out (by have := ORD.out; omega)) (by have := ORD.out; omega)) (by have := ORD.out; omega)) (by have := ORD.out; omega)⟩; have n1_ : Aside0 (w_1.heap[gB4]? = some (.cells #[.int .i64 0, .int .i64 0, .int .i64 0, .int .i64 0] 101 (0, 0))) := ⟨by rw [hw_]; exact blk_far (blk_far (blk_far (blk_far B4.out (show gB4 ≠ gB5 by have := ORD.out; omega) _) (show gB4 ≠ gB5 by have := ORD.out; omega) _) (show gB4 ≠ gB5 by have := ORD.out; omega) _) (show gB4 ≠ gB5 by have := ORD.out; omega) _⟩; have n2_ : Aside0 (w_1.heap[gB5]? = some (.cells #[.int .i64 0, .int .i64 0, .int .i64 0, .int .i64 e] 101 (0, 0))) := ⟨by rw [hw_]; exact blk_put (blk_put (blk_put (blk_put B5.out 0 _ rfl) 1 _ rfl) 2 _ rfl) 3 _ rfl⟩; (try clear cB4_0 dB4_0 cB4_1 dB4_1 cB4_2 dB4_2 cB4_3 dB4_3 cB5_0 dB5_0 cB5_1 dB5_1 cB5_2 dB5_2 cB5_3 dB5_3); (try clear HB); (try clear B4); (try clear B5); have HB := n0_; have B4 := n1_; have B5 := n2_; clear n0_ n1_ n2_; have cB4_0 : w_1.cell? ⟨gB4, 0, none⟩ = some (.int .i64 0) := (blk_cell B4.out 0).trans rfl; have dB4_0 := blk_frozen B4.out 0; have cB4_1 : w_1.cell? ⟨gB4, 1, none⟩ = some (.int .i64 0) := (blk_cell B4.out 1).trans rfl; have dB4_1 := blk_frozen B4.out 1; have cB4_2 : w_1.cell? ⟨gB4, 2, none⟩ = some (.int .i64 0) := (blk_cell B4.out 2).trans rfl; have dB4_2 := blk_frozen B4.out 2; have cB4_3 : w_1.cell? ⟨gB4, 3, none⟩ = some (.int .i64 0) := (blk_cell B4.out 3).trans rfl; have dB4_3 := blk_frozen B4.out 3; have cB5_0 : w_1.cell? ⟨gB5, 0, none⟩ = some (.int .i64 0) := (blk_cell B5.out 0).trans rfl; have dB5_0 := blk_frozen B5.out 0; have cB5_1 : w_1.cell? ⟨gB5, 1, none⟩ = some (.int .i64 0) := (blk_cell B5.out 1).trans rfl; have dB5_1 := blk_frozen B5.out 1; have cB5_2 : w_1.cell? ⟨gB5, 2, none⟩ = some (.int .i64 0) := (blk_cell B5.out 2).trans rfl; have dB5_2 := blk_frozen B5.out 2; have cB5_3 : w_1.cell? ⟨gB5, 3, none⟩ = some (.int .i64 e) := (blk_cell B5.out 3).trans rfl; have dB5_3 := blk_frozen B5.out 3; clear hw_))
  have hcp := cpy3 gB5 w_1 (cc := cc) B5.out (Kd.C_below HC0.out HB.out) 3
  go_upto_region 3 with fail
  clear hcp
  have n0_ : Aside0 (Below w.heap.size w ((((w_1).setCell ⟨gB5, 0, none⟩ (.int .i64 a0)).setCell ⟨gB5, 1, none⟩ (.int .i64 a1)).setCell ⟨gB5, 2, none⟩ (.int .i64 a2))) := ⟨below_set (g := gB5) (below_set (g := gB5) (below_set (g := gB5) HB.out (by have := ORD.out; omega)) (by have := ORD.out; omega)) (by have := ORD.out; omega)⟩
  have n1_ : Aside0 (((((w_1).setCell ⟨gB5, 0, none⟩ (.int .i64 a0)).setCell ⟨gB5, 1, none⟩ (.int .i64 a1)).setCell ⟨gB5, 2, none⟩ (.int .i64 a2)).heap[gB4]? = some (.cells #[.int .i64 0, .int .i64 0, .int .i64 0, .int .i64 0] 101 (0, 0))) := ⟨blk_far (blk_far (blk_far B4.out (show gB4 ≠ gB5 by have := ORD.out; omega) _) (show gB4 ≠ gB5 by have := ORD.out; omega) _) (show gB4 ≠ gB5 by have := ORD.out; omega) _⟩
  have n2_ : Aside0 (((((w_1).setCell ⟨gB5, 0, none⟩ (.int .i64 a0)).setCell ⟨gB5, 1, none⟩ (.int .i64 a1)).setCell ⟨gB5, 2, none⟩ (.int .i64 a2)).heap[gB5]? = some (.cells #[.int .i64 a0, .int .i64 a1, .int .i64 a2, .int .i64 e] 101 (0, 0))) := ⟨blk_put (blk_put (blk_put B5.out 0 _ rfl) 1 _ rfl) 2 _ rfl⟩
  (try clear cB4_0 dB4_0 cB4_1 dB4_1 cB4_2 dB4_2 cB4_3 dB4_3 cB5_0 dB5_0 cB5_1 dB5_1 cB5_2 dB5_2 cB5_3 dB5_3)
  (try clear HB)
  (try clear B4)
  (try clear B5)
  generalize (((w_1).setCell ⟨gB5, 0, none⟩ (.int .i64 a0)).setCell ⟨gB5, 1, none⟩ (.int .i64 a1)).setCell ⟨gB5, 2, none⟩ (.int .i64 a2) = w_2 at n0_ n1_ n2_ ⊢
  have HB := n0_
  have B4 := n1_
  have B5 := n2_
  clear n0_ n1_ n2_
  have cB4_0 : w_2.cell? ⟨gB4, 0, none⟩ = some (.int .i64 0) := (blk_cell B4.out 0).trans rfl
  have dB4_0 := blk_frozen B4.out 0
  have cB4_1 : w_2.cell? ⟨gB4, 1, none⟩ = some (.int .i64 0) := (blk_cell B4.out 1).trans rfl
  have dB4_1 := blk_frozen B4.out 1
  have cB4_2 : w_2.cell? ⟨gB4, 2, none⟩ = some (.int .i64 0) := (blk_cell B4.out 2).trans rfl
  have dB4_2 := blk_frozen B4.out 2
  have cB4_3 : w_2.cell? ⟨gB4, 3, none⟩ = some (.int .i64 0) := (blk_cell B4.out 3).trans rfl
  have dB4_3 := blk_frozen B4.out 3
  have cB5_0 : w_2.cell? ⟨gB5, 0, none⟩ = some (.int .i64 a0) := (blk_cell B5.out 0).trans rfl
  have dB5_0 := blk_frozen B5.out 0
  have cB5_1 : w_2.cell? ⟨gB5, 1, none⟩ = some (.int .i64 a1) := (blk_cell B5.out 1).trans rfl
  have dB5_1 := blk_frozen B5.out 1
  have cB5_2 : w_2.cell? ⟨gB5, 2, none⟩ = some (.int .i64 a2) := (blk_cell B5.out 2).trans rfl
  have dB5_2 := blk_frozen B5.out 2
  have cB5_3 : w_2.cell? ⟨gB5, 3, none⟩ = some (.int .i64 e) := (blk_cell B5.out 3).trans rfl
  have dB5_3 := blk_frozen B5.out 3
  go_wp2_with (first | ((with_reducible refine gate_store (t := 101) (p := 4) rfl ?_); refine store_event (t := 101) (p := 4) (v := ?vo_w3) (w1 := (((((w_2).setCell ⟨gB4, 0, none⟩ (.int .i64 a0)).setCell ⟨gB4, 1, none⟩ (.int .i64 a1)).setCell ⟨gB4, 2, none⟩ (.int .i64 a2)).setCell ⟨gB4, 3, none⟩ (.int .i64 e))) ?hg ?ho ?hn ?hr ?_; (case ho => rfl); (case hg => rfl); (case hn => rfl); (case hr => first | (go_simp; done) | (go_simp; rfl)); intro w_3 hw_; have n0_ : Aside0 (Below w.heap.size w w_3) := ⟨by rw [hw_]; exact below_set (g := gB4) (below_set (g := gB4) (below_set (g := gB4) (below_set (g := gB4) HB.out (by have := ORD.out; omega)) (by have := ORD.out; omega)) (by have := ORD.out; omega)) (by have := ORD.out; omega)⟩; have n1_ : Aside0 (w_3.heap[gB4]? = some (.cells #[.int .i64 a0, .int .i64 a1, .int .i64 a2, .int .i64 e] 101 (0, 0))) := ⟨by rw [hw_]; exact blk_put (blk_put (blk_put (blk_put B4.out 0 _ rfl) 1 _ rfl) 2 _ rfl) 3 _ rfl⟩; have n2_ : Aside0 (w_3.heap[gB5]? = some (.cells #[.int .i64 a0, .int .i64 a1, .int .i64 a2, .int .i64 e] 101 (0, 0))) := ⟨by rw [hw_]; exact blk_far (blk_far (blk_far (blk_far B5.out (show gB5 ≠ gB4 by have := ORD.out; omega) _) (show gB5 ≠ gB4 by have := ORD.out; omega) _) (show gB5 ≠ gB4 by have := ORD.out; omega) _) (show gB5 ≠ gB4 by have := ORD.out; omega) _⟩; (try clear cB4_0 dB4_0 cB4_1 dB4_1 cB4_2 dB4_2 cB4_3 dB4_3 cB5_0 dB5_0 cB5_1 dB5_1 cB5_2 dB5_2 cB5_3 dB5_3); (try clear HB); (try clear B4); (try clear B5); have HB := n0_; have B4 := n1_; have B5 := n2_; clear n0_ n1_ n2_; have cB4_0 : w_3.cell? ⟨gB4, 0, none⟩ = some (.int .i64 a0) := (blk_cell B4.out 0).trans rfl; have dB4_0 := blk_frozen B4.out 0; have cB4_1 : w_3.cell? ⟨gB4, 1, none⟩ = some (.int .i64 a1) := (blk_cell B4.out 1).trans rfl; have dB4_1 := blk_frozen B4.out 1; have cB4_2 : w_3.cell? ⟨gB4, 2, none⟩ = some (.int .i64 a2) := (blk_cell B4.out 2).trans rfl; have dB4_2 := blk_frozen B4.out 2; have cB4_3 : w_3.cell? ⟨gB4, 3, none⟩ = some (.int .i64 e) := (blk_cell B4.out 3).trans rfl; have dB4_3 := blk_frozen B4.out 3; have cB5_0 : w_3.cell? ⟨gB5, 0, none⟩ = some (.int .i64 a0) := (blk_cell B5.out 0).trans rfl; have dB5_0 := blk_frozen B5.out 0; have cB5_1 : w_3.cell? ⟨gB5, 1, none⟩ = some (.int .i64 a1) := (blk_cell B5.out 1).trans rfl; have dB5_1 := blk_frozen B5.out 1; have cB5_2 : w_3.cell? ⟨gB5, 2, none⟩ = some (.int .i64 a2) := (blk_cell B5.out 2).trans rfl; have dB5_2 := blk_frozen B5.out 2; have cB5_3 : w_3.cell? ⟨gB5, 3, none⟩ = some (.int .i64 e) := (blk_cell B5.out 3).trans rfl; have dB5_3 := blk_frozen B5.out 3; clear hw_))
  exact bodyPost_ret (v := .agg #[.int .i64 a0, .int .i64 a1, .int .i64 a2, .int .i64 e]) (by simp [results, Try.results87, go_sem, cB4_0, cB4_1, cB4_2, cB4_3]) rfl ⟨rfl, HB.out⟩


/-! ### spec_l1Least: function 132 -/
def spec_l1Least.f (a0 : Int) (a1 : Int) : Option (Int) := if a0 < a1 then (some a0) else (some a1)
set_option maxHeartbeats 8000000 in
set_option maxRecDepth 100000 in
theorem spec_l1Least.calls (a0 : Int) (a1 : Int) (r : Int) (w : World) (h : spec_l1Least.f a0 a1 = some r) :
    Calls Try.prog 132 #[.int .i64 a0, .int .i64 a1] w fun e w' => e = .returned (.int .i64 r) ∧ Drawn0 w w' := by
  have H : (if a0 < a1 then (some a0) else (some a1)) = some r := h
  clear h
  by_cases c3 : a0 < a1
  · rw [if_pos c3] at H
    have c3b0 : decide (a0 < a1) = true := decide_eq_true c3
    clear c3
    obtain rfl := Option.some.inj H
    go_enter Try.func132, Try.ntmps132
    go_wp2
    go_ret
    exact ⟨by first | rfl | (simp; done) | (simp [*]; done), by repeat (first | exact Drawn0.refl _ | apply Drawn0.step)⟩
  · rw [if_neg c3] at H
    have c3b0 : decide (a0 < a1) = false := decide_eq_false c3
    clear c3
    obtain rfl := Option.some.inj H
    go_enter Try.func132, Try.ntmps132
    go_wp2
    go_ret
    exact ⟨by first | rfl | (simp; done) | (simp [*]; done), by repeat (first | exact Drawn0.refl _ | apply Drawn0.step)⟩

/-! ### spec_l1Most: function 133 -/
def spec_l1Most.f (a0 : Int) (a1 : Int) : Option (Int) := if a0 > a1 then (some a0) else (some a1)
set_option maxHeartbeats 8000000 in
set_option maxRecDepth 100000 in
theorem spec_l1Most.calls (a0 : Int) (a1 : Int) (r : Int) (w : World) (h : spec_l1Most.f a0 a1 = some r) :
    Calls Try.prog 133 #[.int .i64 a0, .int .i64 a1] w fun e w' => e = .returned (.int .i64 r) ∧ Drawn0 w w' := by
  have H : (if a0 > a1 then (some a0) else (some a1)) = some r := h
  clear h
  by_cases c3 : a0 > a1
  · rw [if_pos c3] at H
    have c3b0 : decide (a1 < a0) = true := decide_eq_true c3
    clear c3
    obtain rfl := Option.some.inj H
    go_enter Try.func133, Try.ntmps133
    go_wp2
    go_ret
    exact ⟨by first | rfl | (simp; done) | (simp [*]; done), by repeat (first | exact Drawn0.refl _ | apply Drawn0.step)⟩
  · rw [if_neg c3] at H
    have c3b0 : decide (a1 < a0) = false := decide_eq_false c3
    clear c3
    obtain rfl := Option.some.inj H
    go_enter Try.func133, Try.ntmps133
    go_wp2
    go_ret
    exact ⟨by first | rfl | (simp; done) | (simp [*]; done), by repeat (first | exact Drawn0.refl _ | apply Drawn0.step)⟩

/-! ### spec_l1Own: function 126 -/
def spec_l1Own.f (l0 : List Int) : Option (List Int) := (some (([] : List Int) : List Int)).bind fun y132 => (if y132.length + l0.length < 17592186044416 then (some (y132 ++ l0)) else (none))
set_option maxHeartbeats 8000000 in
set_option maxRecDepth 100000 in
theorem spec_l1Own.calls (A0 : Option Addr) (c0 : Nat) (l0 : List Int) (r : List Int) (w : World) (hr0 : Kd.C (Kd.int .i64) w A0 l0.length l0) (hc0 : l0.length ≤ c0) (h : spec_l1Own.f l0 = some r) :
    Calls Try.prog 126 #[.slice A0 l0.length c0] w fun e w' => ∃ v0_ : Value, e = .returned (v0_) ∧ Kd.R (Kd.int .i64) 3 w' w.heap.size (fun _ => True) v0_ r ∧ Below w.heap.size w w' := by
  have HR0 := Aside0.mk hr0
  have HC0 := Aside0.mk hc0
  clear hr0 hc0
  have HB := Aside0.mk (Below.refl w.heap.size w)
  have H : ((some (([] : List Int) : List Int)).bind fun y132 => (if y132.length + l0.length < 17592186044416 then (some (y132 ++ l0)) else (none))) = some r := h
  clear h
  obtain ⟨y132, hy132⟩ : ∃ y_ : List Int, y_ = (([] : List Int)) := ⟨_, rfl⟩
  replace H : (if y132.length + l0.length < 17592186044416 then (some (y132 ++ l0)) else (none)) = some r := by first | (rw [hy132]; with_reducible exact H) | (have H2_ := (Option.bind_some _ _).symm.trans H; rw [hy132]; with_reducible exact H2_) | (have H2_ := (Option.bind_some _ _).symm.trans H; with_reducible exact H2_) | with_reducible exact H | (rw [hy132]; exact H) | exact H
  have Ny132 := Aside0.mk hy132
  clear hy132
  by_cases c2 : y132.length + l0.length < 17592186044416
  · rw [if_pos c2] at H
    have LMc2 := Aside0.mk c2
    clear c2
    obtain ⟨y135, hy135⟩ : ∃ y_ : List Int, y_ = (y132 ++ l0) := ⟨_, rfl⟩
    replace H : (some y135) = some r := by first | (rw [hy135]; with_reducible exact H) | (have H2_ := (Option.bind_some _ _).symm.trans H; rw [hy135]; with_reducible exact H2_) | (have H2_ := (Option.bind_some _ _).symm.trans H; with_reducible exact H2_) | with_reducible exact H | (rw [hy135]; exact H) | exact H
    have Ny135 := Aside0.mk hy135
    clear hy135
    obtain rfl := Option.some.inj H
    go_enter Try.func126, Try.ntmps126
    go_wp2_with (first | ((with_reducible refine gate_dst (N := 3) rfl ?_); refine Kd.R_lit (Kd.int .i64) _ 3 ?hg (N := 3) ?hd (xs := ([] : List Int)) (inner := []) (ok := fun _ => True) (okp := fun _ => True) ?hr ?hp (fun _ hk => hk) trivial (Below.refl _ _) (Nat.le_refl _) (by simp) ?_; (case hd => rfl); (case hg => rfl); (case hr => first | (go_simp; done) | (go_simp; rfl)); (case hp => exact (Reps.none _ _)); intro v133 w3 ho4 hb hg_ hnew_; clear hg_ hnew_; (first | rw [← Ny132.out] at ho4 | (simp only [Int.reduceToNat] at ho4; rw [← Ny132.out] at ho4)); have n0_ := Aside0.mk (Kd.R_lower ho4 (below_size (by repeat (first | (with_reducible first | exact HB.out | apply below_alloc | apply pw_below_drewN | apply below_drew1) | exact HB.out)))); have n1_ := Aside0.mk (below_step (by repeat (first | (with_reducible first | exact HB.out | apply below_alloc | apply pw_below_drewN | apply below_drew1) | exact HB.out)) hb); clear HB; have HO134 := n0_; have HB := n1_; clear n0_ n1_; clear hb ho4) | ((with_reducible refine gate_builtin (b := .append) (xs := #[.tmp 3, .tmp 4]) rfl ?_); at_builtin; refine Kd.R_append_rows (Kd.int .i64) (w0 := w) w.heap.size rfl (.tmp 3) (.tmp 4) 46 3 (.int .i64 0) 8 rfl Try.underlying46 info3 rfl (by decide) (by omega) v133 y132 l0 _ _ _ (fun _ => True) (fun _ => False) rfl rfl ?aO ?aR (fun _ _ h => h) (fun _ h => h.elim) ?aF ?aB ?aS ?aL ?_; (case aR => repeat (first | exact (Kd.C_below HR0.out HB.out) | (with_reducible refine Kd.C_alloc ?_ _) | (with_reducible refine Kd.C_drewN ?_ _) | (with_reducible refine Kd.C_drew ?_))); (case aB => exact (by repeat (first | (with_reducible first | exact HB.out | apply below_alloc | apply pw_below_drewN | apply below_drew1) | exact HB.out))); (case aF => exact (fun _ _ => trivial)); (case aO => exact (by (with_reducible repeat (first | apply Kd.R_alloc | apply Kd.R_drewN | apply Kd.R_drew)); exact HO134.out)); (case aS => exact (below_size (by repeat (first | (with_reducible first | exact HB.out | apply below_alloc | apply pw_below_drewN | apply below_drew1) | exact HB.out)))); (case aL => have := LMc2.out; omega); intro v136 w5 ho hb hg hat; rw [← Ny135.out] at ho; have n0_ := Aside0.mk (hb); have n1_ := Aside0.mk (ho); clear HB; clear HO134; have HB := n0_; have HO137 := n1_; clear n0_ n1_; clear ho hb hg hat))
    go_ret
    exact ⟨_, by first | rfl | (simp [errW_none, errW_some] <;> rfl) | (simp [*, errW_none, errW_some] <;> rfl), by (with_reducible repeat (first | apply Kd.R_alloc | apply Kd.R_drewN | apply Kd.R_drew)); exact HO137.out, by repeat (first | (with_reducible first | exact HB.out | apply below_alloc | apply pw_below_drewN | apply below_drew1) | exact HB.out)⟩
  · rw [if_neg c2] at H
    exact absurd H (by simp)

/-! ### spec_hoWith: function 148 -/
def spec_hoWith.f (l0 : List Int) (a1 : Int) (a2 : Int) : Option (List Int) := (spec_l1Own.f l0).bind fun t138 => (if 0 ≤ a1 then (if a1 < (t138.length : Int) then (some (t138.set (a1 : Int).toNat a2)) else (none)) else (none))
set_option maxHeartbeats 8000000 in
set_option maxRecDepth 100000 in
theorem spec_hoWith.calls (A0 : Option Addr) (c0 : Nat) (l0 : List Int) (a1 : Int) (a2 : Int) (r : List Int) (w : World) (hr0 : Kd.C (Kd.int .i64) w A0 l0.length l0) (hc0 : l0.length ≤ c0) (h : spec_hoWith.f l0 a1 a2 = some r) :
    Calls Try.prog 148 #[.slice A0 l0.length c0, .int .i64 a1, .int .i64 a2] w fun e w' => ∃ v0_ : Value, e = .returned (v0_) ∧ Kd.R (Kd.int .i64) 3 w' w.heap.size (fun _ => True) v0_ r ∧ Below w.heap.size w w' := by
  have HR0 := Aside0.mk hr0
  have HC0 := Aside0.mk hc0
  clear hr0 hc0
  have HB := Aside0.mk (Below.refl w.heap.size w)
  have H : ((spec_l1Own.f l0).bind fun t138 => (if 0 ≤ a1 then (if a1 < (t138.length : Int) then (some (t138.set (a1 : Int).toNat a2)) else (none)) else (none))) = some r := h
  clear h
  replace H := Option.bind_eq_some_iff.mp H
  obtain ⟨t138, A40, H⟩ := H
  replace H : (if 0 ≤ a1 then (if a1 < (t138.length : Int) then (some (t138.set (a1 : Int).toNat a2)) else (none)) else (none)) = some r := H
  have A4 := Aside0.mk A40
  clear A40
  by_cases c5 : 0 ≤ a1
  · rw [if_pos c5] at H
    have c5b0 : decide (0 ≤ a1) = true := decide_eq_true c5
    clear c5
    by_cases c6 : a1 < (t138.length : Int)
    · rw [if_pos c6] at H
      have c6b0 : decide (a1 < (t138.length : Int)) = true := decide_eq_true c6
      clear c6
      obtain ⟨y141, hy141⟩ : ∃ y_ : List Int, y_ = (t138.set (a1 : Int).toNat a2) := ⟨_, rfl⟩
      replace H : (some y141) = some r := by first | (rw [hy141]; with_reducible exact H) | (have H2_ := (Option.bind_some _ _).symm.trans H; rw [hy141]; with_reducible exact H2_) | (have H2_ := (Option.bind_some _ _).symm.trans H; with_reducible exact H2_) | with_reducible exact H | (rw [hy141]; exact H) | exact H
      have Ny141 := Aside0.mk hy141
      clear hy141
      obtain rfl := Option.some.inj H
      go_enter Try.func148, Try.ntmps148
      go_wp2_with (first | ((with_reducible refine gate_callee (f := 126) rfl ?_); refine goesL_ (some 9) rfl rfl Try.func126 (by kernel_rfl) rfl #[.slice A0 l0.length c0] rfl (by (try simp only [List.map_toArray, List.map_cons, List.map_nil]); first | done | rfl | (simp only [List.length_drop, List.length_take]; rfl)) ?_; (with_reducible refine (spec_l1Own.calls _ _ l0 t138 _ ?side1 ?side2 A4.out).mono ?_); (case side1 => repeat (first | exact HR0.out | (with_reducible refine Kd.C_alloc ?_ _) | (with_reducible refine Kd.C_drewN ?_ _) | (with_reducible refine Kd.C_drew ?_))); (case side2 => exact HC0.out); rintro e w8 ⟨v139, rfl, ho0, hb⟩; refine ⟨_, rfl, ?_⟩; have n0_ := Aside0.mk (Kd.R_lower ho0 (below_size (by repeat (first | (with_reducible first | exact HB.out | apply below_alloc | apply pw_below_drewN | apply below_drew1) | exact HB.out)))); have n1_ := Aside0.mk (below_step (by repeat (first | (with_reducible first | exact HB.out | apply below_alloc | apply pw_below_drewN | apply below_drew1) | exact HB.out)) hb); clear HB; have HO140 := n0_; have HB := n1_; clear n0_ n1_; (try clear hb); (try clear hb2); (try clear hk); (try clear hi); (try clear ho0); have p7 : 0 ≤ (a1 : Int) := of_decide_eq_true (by first | (with_reducible assumption) | assumption); have q7 : (a1 : Int) < ((t138.length : Int) : Int) := of_decide_eq_true (by first | (with_reducible assumption) | assumption); obtain ⟨go7, co7, eo7, gb7, gl7, cl7, HG7⟩ := Kd.R_form HO140.out (by omega); (first | cases eo7 | (injection eo7 with ea_ en_ ec_; (first | subst ea_ | (injection ea_ with ea_; subst ea_)); subst ec_; clear en_)); have GB7 := Aside0.mk gb7; have GG7 := Aside0.mk HG7; clear gb7 gl7 HG7; obtain ⟨hx7_0, hf7_0⟩ := Kd.R_celln 0 HO140.out (a1 : Int) p7 q7; replace p7 := eq_true p7; replace q7 := eq_true q7; obtain ⟨hy9_, hz9_⟩ := Kd.R_celln 0 HO140.out (a1 : Int) (of_decide_eq_true (by first | (with_reducible assumption) | assumption)) (of_decide_eq_true (by first | (with_reducible assumption) | assumption)); have HP9 := Kd.R_putg HO140.out (a1 : Int) a2) | ((with_reducible refine gate_store (t := 3) (p := 13) rfl ?_); refine store_event (t := 3) (p := 13) (v := ?vo_w10) (w1 := (w8.setCell ⟨go7, (a1 : Int).toNat, none⟩ (.int .i64 a2))) ?hg ?ho ?hn ?hr ?_; (case ho => rfl); (case hg => rfl); (case hn => rfl); (case hr => first | (go_simp; done) | (go_simp; rfl)); intro w10 hw; have hg : w8.grownBy w10 (some go7) := (by rw [hw]; exact HP9.2); have hp_ : Kd.R (Kd.int .i64) 3 w10 w.heap.size (fun _ => True) (.slice (some ⟨go7, 0, none⟩) t138.length co7) y141 := (by rw [hw, Ny141.out]; exact HP9.1); clear HP9; have n0_ := Aside0.mk (hp_); have n1_ := Aside0.mk ((by rw [hw]; exact below_set (HB.out) GB7.out : Below w.heap.size w w10)); clear HO140; clear HB; have HO140 := n0_; have HB := n1_; clear n0_ n1_; clear hg hw hp_))
      go_ret
      exact ⟨_, by first | rfl | (simp [errW_none, errW_some] <;> rfl) | (simp [*, errW_none, errW_some] <;> rfl), by (with_reducible repeat (first | apply Kd.R_alloc | apply Kd.R_drewN | apply Kd.R_drew)); exact HO140.out, by repeat (first | (with_reducible first | exact HB.out | apply below_alloc | apply pw_below_drewN | apply below_drew1) | exact HB.out)⟩
    · rw [if_neg c6] at H
      exact absurd H (by simp)
  · rw [if_neg c5] at H
    exact absurd H (by simp)

-- NOT PRINTED: function 121 (spec_hoDrop)

/-! ### spec_hoPlace: function 147 -/
def spec_hoPlace.l0 : Nat → List Int → Int → Int → Option (Int)
  | 0, _, _, _ => none
  | k + 1, x1, x5, x6 => if x6 < 3 then (if x6 < (x1.length : Int) then (if 0 ≤ x6 then (spec_hoPlace.l0 k x1 (wrap64 ((wrap64 (x5 * 9)) + (rd x1 x6))) (wrap64 (x6 + 1))) else (none)) else (spec_hoPlace.l0 k x1 (wrap64 ((wrap64 (x5 * 9)) + 0)) (wrap64 (x6 + 1)))) else (some x5)
def spec_hoPlace.f (k : Nat) (a0 : Int) (l1 : List Int) : Option (Int) := spec_hoPlace.l0 k l1 a0 0
theorem spec_hoPlace.mono_l : ∀ k, (∀ y0 y1 y2, LeO (spec_hoPlace.l0 k y0 y1 y2) (spec_hoPlace.l0 (k + 1) y0 y1 y2))
  | 0 => fun _ _ _ r h => by simp [spec_hoPlace.l0] at h
  | k + 1 => by
    have ih0 := spec_hoPlace.mono_l k
    · intro y0 y1 y2
      unfold spec_hoPlace.l0
      repeat' first
      | (with_reducible exact ih0 _ _ _)
      | (with_reducible exact LeO.refl _)
      | (with_reducible exact LeO.none _)
      | (with_reducible refine LeO.ite ?_ ?_)
      | (with_reducible refine LeO.bind ?_ (fun _ => ?_))
      | exact ih0 _ _ _
      | exact LeO.none _
      | refine LeO.ite ?_ ?_
      | refine LeO.bind ?_ (fun _ => ?_)
theorem spec_hoPlace.mono : ∀ a0 a1 k, LeO (spec_hoPlace.f k a0 a1) (spec_hoPlace.f (k + 1) a0 a1) := by
  intro a0 a1 k
  have ih0 := spec_hoPlace.mono_l k
  unfold spec_hoPlace.f
  repeat' first
      | (with_reducible exact ih0 _ _ _)
      | (with_reducible exact LeO.refl _)
      | (with_reducible exact LeO.none _)
      | (with_reducible refine LeO.ite ?_ ?_)
      | (with_reducible refine LeO.bind ?_ (fun _ => ?_))
      | exact ih0 _ _ _
      | exact LeO.none _
      | refine LeO.ite ?_ ?_
      | refine LeO.bind ?_ (fun _ => ?_)
set_option maxHeartbeats 8000000 in
set_option maxRecDepth 100000 in
theorem spec_hoPlace.calls (k : Nat) (a0 : Int) (A1 : Option Addr) (c1 : Nat) (l1 : List Int) (r : Int) (w : World) (hr1 : Kd.C (Kd.int .i64) w A1 l1.length l1) (hc1 : l1.length ≤ c1) (h : spec_hoPlace.f k a0 l1 = some r) :
    Calls Try.prog 147 #[.int .i64 a0, .slice A1 l1.length c1] w fun e w' => e = .returned (.int .i64 r) ∧ Drawn0 w w' := by
  have HR1 := Aside0.mk hr1
  have HC1 := Aside0.mk hc1
  clear hr1 hc1
  have H : (spec_hoPlace.l0 k l1 a0 0) = some r := h
  clear h
  have H' := Aside0.mk H
  clear H
  go_enter Try.func147, Try.ntmps147
  go_wp2
  go_loopg [5, 6] k (fun kq v5 v6 w' => ∃ (x5_1 : Int) (x6_1 : Int), v5 = .int .i64 x5_1 ∧ v6 = .int .i64 x6_1 ∧ Aside0 (spec_hoPlace.l0 kq l1 x5_1 x6_1 = some r) ∧ Aside0 (kq ≤ k) ∧ Drawn0 w w')
  case atStart => exact ⟨(a0), (0), (by first | rfl | (simp; done) | (simp [*]; done)), (by first | rfl | (simp; done) | (simp [*]; done)), H', ⟨Nat.le_refl _⟩, by repeat (first | exact Drawn0.refl _ | apply Drawn0.step)⟩
  case round =>
    clear H'
    try clear c1
    try clear p2
    obtain ⟨x5_1, x6_1, rfl, rfl, HA, HK1, ⟨m1, rfl⟩⟩ := hrel
    cases gk with
    | zero => exact absurd HA.out (by simp [spec_hoPlace.l0])
    | succ k1 =>
      have H := HA.out
      clear HA
      simp only [spec_hoPlace.l0] at H
      by_cases c3 : x6_1 < 3
      · rw [if_pos c3] at H
        have c3b0 : decide (x6_1 < 3) = true := decide_eq_true c3
        clear c3
        by_cases c4 : x6_1 < (l1.length : Int)
        · rw [if_pos c4] at H
          have c4b0 : decide (x6_1 < (l1.length : Int)) = true := decide_eq_true c4
          clear c4
          by_cases c5 : 0 ≤ x6_1
          · rw [if_pos c5] at H
            have c5b0 : decide (0 ≤ x6_1) = true := decide_eq_true c5
            clear c5
            have H' := Aside0.mk H
            clear H
            have p145 : 0 ≤ (x6_1 : Int) := of_decide_eq_true (by first | (with_reducible assumption) | assumption)
            have q145 : x6_1 < (l1.length : Int) := of_decide_eq_true (by first | (with_reducible assumption) | assumption)
            obtain ⟨ad145, e145, hx145_0⟩ := Kd.at_int HR1.out x6_1 p145 q145
            cases e145
            replace p145 := eq_true p145
            replace q145 := eq_true q145
            go_wp2
            go_roundg k1
            case measure => have := HK1.out; omega
            case rel => exact ⟨(wrap64 ((wrap64 (x5_1 * 9)) + (rd l1 x6_1))), (wrap64 (x6_1 + 1)), (by first | rfl | (simp; done) | (simp [*]; done)), (by first | rfl | (simp; done) | (simp [*]; done)), H', ⟨by have := HK1.out; omega⟩, by repeat (first | exact Drawn0.refl _ | apply Drawn0.step)⟩
          · rw [if_neg c5] at H
            exact absurd H (by simp)
        · rw [if_neg c4] at H
          have c4b0 : decide (x6_1 < (l1.length : Int)) = false := decide_eq_false c4
          clear c4
          have H' := Aside0.mk H
          clear H
          go_wp2
          go_roundg k1
          case measure => have := HK1.out; omega
          case rel => exact ⟨(wrap64 ((wrap64 (x5_1 * 9)) + 0)), (wrap64 (x6_1 + 1)), (by first | rfl | (simp; done) | (simp [*]; done)), (by first | rfl | (simp; done) | (simp [*]; done)), H', ⟨by have := HK1.out; omega⟩, by repeat (first | exact Drawn0.refl _ | apply Drawn0.step)⟩
      · rw [if_neg c3] at H
        have c3b0 : decide (x6_1 < 3) = false := decide_eq_false c3
        clear c3
        obtain rfl := Option.some.inj H
        go_wp2
        go_ret
        exact ⟨by first | rfl | (simp; done) | (simp [*]; done), by repeat (first | exact Drawn0.refl _ | apply Drawn0.step)⟩

-- NOT PRINTED: function 120 (spec_hoFew)

end Go.Proofs.Ytoomacelbhojhaa.U
