/- Plain Lean functions with the answers of Go functions, and proofs of it: printed by a program of this session (pr.py) over the kit's print, with hand-written parts. -/
import Derived.Test.YtoomacelbhojhaaUx0
import Derived.Test.YtoomacelbhojhaaUx3
import Derived.Test.YtoomacelbhojhaaUx4
import Derived.Test.YtoomacelbhojhaaUx5
import Derived.Test.YtoomacelbhojhaaUx7
namespace Go.Proofs.Ytoomacelbhojhaa.U
open Go.RowKit Go.Proofs.YtoomacelbhojhaaW.PrintWords Go.Proofs.YtoomacelbhojhaaW.PrintLast Go.Proofs.YtoomacelbhojhaaW.PrintMore
attribute [local go_sem] max2_int min2_int max_two min_two max_three min_three max_four min_four   -- for this text's walks alone
set_option linter.unusedVariables false
set_option linter.unusedSimpArgs false

-- FOR (impl.houser).play
-- CALLS (impl.houser).good ; (impl.village).parts ; impl.eggsNeeded ; spec.hoDrops
-- USES kd impl.HouseDrop
-- USES info impl.HouseDrop

theorem Lst.far {w : World} {tb g i : Nat} {u : Value} {ad : Addr} {l : List Int} (h : Lst w tb (some ad) l) (hne : ad.block ≠ g) : Lst (w.setCell ⟨g, i, none⟩ u) tb (some ad) l :=
  ⟨Kd.C_keep (0 : Int) h.1 (g := g) ⟨by simp [World.setCell], fun k hk hk2 _ => Below.heap_setCell w _ u k (by simpa using hk2)⟩ (fun ad' ha _ => by injection ha with ha; subst ha; exact hne), h.2⟩
set_option maxHeartbeats 80000000 in
set_option maxRecDepth 100000 in
theorem hplay_of (mb : Nat) (v : VS) (bs : List Int) (hv : PGood bs.length v (fun _ => 0)) (hbs : 0 < bs.length) (A : Option Addr) (c : Nat) (hc : bs.length ≤ c) (r : List S104) (hr : r = hPlay bs v.ms v (fun _ => 0)) (w : World) (hL : Lst w mb A bs) (hS : Hou w mb) :
    Calls Try.prog 91 #[.map (some mb), vCells v, .slice A bs.length c] w fun e_ w' => ∃ v_ : Value, e_ = .returned v_ ∧ Kd.R k104 104 w' w.heap.size (fun _ => True) v_ r ∧ Hou w' mb ∧ w.grownBy w' (some mb) := by
  have HS := Aside0.mk hS
  have HG := Aside0.mk (Hx.g_refl w (some mb))
  obtain ⟨ad, rfl, hx00⟩ := Lst.look hL hbs
  have HAL := Aside0.mk (Kd.C_lt hL.1 hbs (by decide))
  have LS := Aside0.mk hL
  have HCC := Aside0.mk hc
  have ORD : Aside0 (mb < w.heap.size ∧ ad.block < w.heap.size) := ⟨⟨hS.lt, HAL.out⟩⟩
  have HP := Aside0.mk hv
  have HMS : Aside0 (v.ms ≤ 24) := ⟨by have := hv.1; unfold VGood at this; unfold VS.ms; omega⟩
  have HR_ := Aside0.mk hr
  clear hS hL hx00 hv hc hr hbs
  go_enter Try.func91, Try.ntmps91
  go_upto_region 1 with (first | ((with_reducible refine gate_dst (N := 4) rfl ?_); refine box_event ?hg (N := 4) ?hd (cs := #[.int .i64 v.x0, .int .i64 v.x1, .int .i64 v.x2, .int .i64 v.e]) (t := 101) ?hr ?_; (case hd => rfl); (case hg => rfl); (case hr => first | (go_simp; done) | (go_simp; rfl)); intro gB4 hg_ w_gB4 BK_ hb_; have ORD_ : Aside0 ((mb < w.heap.size ∧ ad.block < w.heap.size) ∧ (mb < gB4 ∧ w.heap.size ≤ gB4)) := ⟨by refine ⟨ORD.out, ?_⟩; (have := HS.out.lt); (have := HG.out.size); omega⟩; clear ORD; have ORD := ORD_; clear ORD_; have n0_ : Aside0 (Hou w_gB4 mb) := ⟨Hm.Mem.below (w := _) (by exact HS.out) hb_⟩; have n1_ : Aside0 (w.grownBy w_gB4 (some mb)) := ⟨Hx.g_below (by first | exact HG.out | exact Hx.g_drew HG.out | exact Hx.g_drewN HG.out _) hb_⟩; have n2_ : Aside0 (Lst w_gB4 mb (some ad) bs) := ⟨Lst.below (w := _) (by exact LS.out) hb_⟩; have m0_ : Aside0 (w_gB4.heap[gB4]? = some (.cells #[.int .i64 v.x0, .int .i64 v.x1, .int .i64 v.x2, .int .i64 v.e] 101 (0, 0))) := ⟨BK_⟩; (try clear HS); (try clear HG); (try clear LS); have HS := n0_; have HG := n1_; have LS := n2_; have B4 := m0_; clear n0_ n1_ n2_ m0_; have cB4_0 : w_gB4.cell? ⟨gB4, 0, none⟩ = some (.int .i64 v.x0) := (blk_cell B4.out 0).trans rfl; have dB4_0 := blk_frozen B4.out 0; have cB4_1 : w_gB4.cell? ⟨gB4, 1, none⟩ = some (.int .i64 v.x1) := (blk_cell B4.out 1).trans rfl; have dB4_1 := blk_frozen B4.out 1; have cB4_2 : w_gB4.cell? ⟨gB4, 2, none⟩ = some (.int .i64 v.x2) := (blk_cell B4.out 2).trans rfl; have dB4_2 := blk_frozen B4.out 2; have cB4_3 : w_gB4.cell? ⟨gB4, 3, none⟩ = some (.int .i64 v.e) := (blk_cell B4.out 3).trans rfl; have dB4_3 := blk_frozen B4.out 3; clear hg_ BK_ hb_))
  go_wp2_with (first | ((with_reducible refine gate_dst (N := 15) rfl ?_); refine Kd.R_lit k104 _ 104 ?hg (N := 15) ?hd (xs := ([] : List S104)) (inner := []) (ok := fun k_ => gB4 < k_) (okp := fun k_ => gB4 < k_) ?hr ?hp (fun _ hk => hk) ?hf (Below.refl _ _) (Nat.le_refl _) (by simp) ?_; (case hd => rfl); (case hg => rfl); (case hr => first | (go_simp; done) | (go_simp; rfl)); (case hp => exact (Reps.none _ _)); (case hf => (show gB4 < w_gB4.heap.size); have := blk_lt B4.out; omega); intro vl_ w_l ho_ hb_ hg_ hn_; clear hg_ hn_; have n0_ : Aside0 (Hou w_l mb) := ⟨Hm.Mem.below (w := _) (by exact HS.out) hb_⟩; have n1_ : Aside0 (w.grownBy w_l (some mb)) := ⟨Hx.g_below (by first | exact HG.out | exact Hx.g_drew HG.out | exact Hx.g_drewN HG.out _) hb_⟩; have n2_ : Aside0 (Lst w_l mb (some ad) bs) := ⟨Lst.below (w := _) (by exact LS.out) hb_⟩; have n3_ : Aside0 (w_l.heap[gB4]? = some (.cells #[.int .i64 v.x0, .int .i64 v.x1, .int .i64 v.x2, .int .i64 v.e] 101 (0, 0))) := ⟨Hx.b_below hb_ B4.out⟩; have m0_ : Aside0 (Kd.R k104 104 w_l w.heap.size (fun k_ => gB4 < k_ ∧ k_ < w_l.heap.size) vl_ []) := ⟨Kd.R_mono (Kd.R_lower (Kd.R_bound ho_) (by have := HS.out.lt; have := HG.out.size; have := blk_lt B4.out; omega)) (fun k_ hk_ => ⟨hk_.1, hk_.2.2.1⟩)⟩; have m1_ : Aside0 (w_l.heap.size ≤ w_l.heap.size) := ⟨Nat.le_refl _⟩; (try clear cB4_0 dB4_0 cB4_1 dB4_1 cB4_2 dB4_2 cB4_3 dB4_3); (try clear HS); (try clear HG); (try clear LS); (try clear B4); have HS := n0_; have HG := n1_; have LS := n2_; have B4 := n3_; have HR0 := m0_; have SZL := m1_; clear n0_ n1_ n2_ n3_ m0_ m1_; have cB4_0 : w_l.cell? ⟨gB4, 0, none⟩ = some (.int .i64 v.x0) := (blk_cell B4.out 0).trans rfl; have dB4_0 := blk_frozen B4.out 0; have cB4_1 : w_l.cell? ⟨gB4, 1, none⟩ = some (.int .i64 v.x1) := (blk_cell B4.out 1).trans rfl; have dB4_1 := blk_frozen B4.out 1; have cB4_2 : w_l.cell? ⟨gB4, 2, none⟩ = some (.int .i64 v.x2) := (blk_cell B4.out 2).trans rfl; have dB4_2 := blk_frozen B4.out 2; have cB4_3 : w_l.cell? ⟨gB4, 3, none⟩ = some (.int .i64 v.e) := (blk_cell B4.out 3).trans rfl; have dB4_3 := blk_frozen B4.out 3; clear ho_ hb_) | ((with_reducible refine gate_dst (N := 8) rfl ?_); refine box_event ?hg (N := 8) ?hd (cs := #[.int .i64 0, .int .i64 0, .int .i64 0]) (t := 99) ?hr ?_; (case hd => rfl); (case hg => rfl); (case hr => first | (go_simp; done) | (go_simp; rfl)); intro gB8 hg_ w_gB8 BK_ hb_; have ORD_ : Aside0 (((mb < w.heap.size ∧ ad.block < w.heap.size) ∧ (mb < gB4 ∧ w.heap.size ≤ gB4)) ∧ (gB4 < gB8 ∧ mb < gB8 ∧ w.heap.size ≤ gB8 ∧ w_l.heap.size ≤ gB8)) := ⟨by refine ⟨ORD.out, ?_⟩; (have := HS.out.lt); (have := HG.out.size); (have := blk_lt B4.out); (have := SZL.out); omega⟩; clear ORD; have ORD := ORD_; clear ORD_; have n0_ : Aside0 (Hou w_gB8 mb) := ⟨Hm.Mem.below (w := _) (by exact HS.out) hb_⟩; have n1_ : Aside0 (w.grownBy w_gB8 (some mb)) := ⟨Hx.g_below (by first | exact HG.out | exact Hx.g_drew HG.out | exact Hx.g_drewN HG.out _) hb_⟩; have n2_ : Aside0 (Lst w_gB8 mb (some ad) bs) := ⟨Lst.below (w := _) (by exact LS.out) hb_⟩; have n3_ : Aside0 (w_gB8.heap[gB4]? = some (.cells #[.int .i64 v.x0, .int .i64 v.x1, .int .i64 v.x2, .int .i64 v.e] 101 (0, 0))) := ⟨Hx.b_below hb_ B4.out⟩; have n4_ : Aside0 (Kd.R k104 104 w_gB8 w.heap.size (fun k_ => gB4 < k_ ∧ k_ < w_l.heap.size) vl_ []) := ⟨Kd.R_below HR0.out hb_⟩; have n5_ : Aside0 (w_l.heap.size ≤ w_gB8.heap.size) := ⟨Nat.le_trans SZL.out hb_.size⟩; have m0_ : Aside0 (w_gB8.heap[gB8]? = some (.cells #[.int .i64 0, .int .i64 0, .int .i64 0] 99 (0, 0))) := ⟨BK_⟩; (try clear cB4_0 dB4_0 cB4_1 dB4_1 cB4_2 dB4_2 cB4_3 dB4_3); (try clear HS); (try clear HG); (try clear LS); (try clear B4); (try clear HR0); (try clear SZL); have HS := n0_; have HG := n1_; have LS := n2_; have B4 := n3_; have HR0 := n4_; have SZL := n5_; have B8 := m0_; clear n0_ n1_ n2_ n3_ n4_ n5_ m0_; have cB4_0 : w_gB8.cell? ⟨gB4, 0, none⟩ = some (.int .i64 v.x0) := (blk_cell B4.out 0).trans rfl; have dB4_0 := blk_frozen B4.out 0; have cB4_1 : w_gB8.cell? ⟨gB4, 1, none⟩ = some (.int .i64 v.x1) := (blk_cell B4.out 1).trans rfl; have dB4_1 := blk_frozen B4.out 1; have cB4_2 : w_gB8.cell? ⟨gB4, 2, none⟩ = some (.int .i64 v.x2) := (blk_cell B4.out 2).trans rfl; have dB4_2 := blk_frozen B4.out 2; have cB4_3 : w_gB8.cell? ⟨gB4, 3, none⟩ = some (.int .i64 v.e) := (blk_cell B4.out 3).trans rfl; have dB4_3 := blk_frozen B4.out 3; have cB8_0 : w_gB8.cell? ⟨gB8, 0, none⟩ = some (.int .i64 0) := (blk_cell B8.out 0).trans rfl; have dB8_0 := blk_frozen B8.out 0; have cB8_1 : w_gB8.cell? ⟨gB8, 1, none⟩ = some (.int .i64 0) := (blk_cell B8.out 1).trans rfl; have dB8_1 := blk_frozen B8.out 1; have cB8_2 : w_gB8.cell? ⟨gB8, 2, none⟩ = some (.int .i64 0) := (blk_cell B8.out 2).trans rfl; have dB8_2 := blk_frozen B8.out 2; clear hg_ BK_ hb_) | ((with_reducible refine gate_store (t := 99) (p := 8) rfl ?_); refine store_event (t := 99) (p := 8) (v := ?vo_w1) (w1 := ((((w_gB8).setCell ⟨gB8, 0, none⟩ (.int .i64 0)).setCell ⟨gB8, 1, none⟩ (.int .i64 0)).setCell ⟨gB8, 2, none⟩ (.int .i64 0))) ?hg ?ho ?hn ?hr ?_; (case ho => rfl); (case hg => rfl); (case hn => rfl); (case hr => first | (go_simp; done) | (go_simp; rfl)); intro w_1 hw_; have e0_ : mb ≠ gB8 := (by have := ORD.out; omega); have e1_ : gB4 ≠ gB8 := (by have := ORD.out; omega); have n0_ : Aside0 (Hou w_1 mb) := ⟨by rw [hw_]; exact Hm.Mem.same (Hm.Mem.same (Hm.Mem.same HS.out (Below.heap_setCell _ _ _ _ e0_)) (Below.heap_setCell _ _ _ _ e0_)) (Below.heap_setCell _ _ _ _ e0_)⟩; have n1_ : Aside0 (w.grownBy w_1 (some mb)) := ⟨by rw [hw_]; exact Hx.g_set (Hx.g_set (Hx.g_set HG.out (by have := ORD.out; omega)) (by have := ORD.out; omega)) (by have := ORD.out; omega)⟩; have n2_ : Aside0 (Lst w_1 mb (some ad) bs) := ⟨by rw [hw_]; exact Lst.far (Lst.far (Lst.far LS.out (show ad.block ≠ gB8 by have := ORD.out; have := HAL.out; omega)) (show ad.block ≠ gB8 by have := ORD.out; have := HAL.out; omega)) (show ad.block ≠ gB8 by have := ORD.out; have := HAL.out; omega)⟩; have n3_ : Aside0 (w_1.heap[gB4]? = some (.cells #[.int .i64 v.x0, .int .i64 v.x1, .int .i64 v.x2, .int .i64 v.e] 101 (0, 0))) := ⟨by rw [hw_]; exact blk_far (blk_far (blk_far B4.out e1_ _) e1_ _) e1_ _⟩; have n4_ : Aside0 (Kd.R k104 104 w_1 w.heap.size (fun k_ => gB4 < k_ ∧ k_ < w_l.heap.size) vl_ []) := ⟨by rw [hw_]; exact Kd.R_far (Kd.R_far (Kd.R_far HR0.out (fun k_ hk_ => show k_ ≠ gB8 by have h2_ := hk_.2; have := ORD.out; omega) _) (fun k_ hk_ => show k_ ≠ gB8 by have h2_ := hk_.2; have := ORD.out; omega) _) (fun k_ hk_ => show k_ ≠ gB8 by have h2_ := hk_.2; have := ORD.out; omega) _⟩; have n5_ : Aside0 (w_l.heap.size ≤ w_1.heap.size) := ⟨by rw [hw_]; exact Hx.size_set (Hx.size_set (Hx.size_set SZL.out))⟩; have n6_ : Aside0 (w_1.heap[gB8]? = some (.cells #[.int .i64 0, .int .i64 0, .int .i64 0] 99 (0, 0))) := ⟨by rw [hw_]; exact blk_put (blk_put (blk_put B8.out 0 _ rfl) 1 _ rfl) 2 _ rfl⟩; (try clear cB4_0 dB4_0 cB4_1 dB4_1 cB4_2 dB4_2 cB4_3 dB4_3 cB8_0 dB8_0 cB8_1 dB8_1 cB8_2 dB8_2); (try clear HS); (try clear HG); (try clear LS); (try clear B4); (try clear HR0); (try clear SZL); (try clear B8); have HS := n0_; have HG := n1_; have LS := n2_; have B4 := n3_; have HR0 := n4_; have SZL := n5_; have B8 := n6_; clear n0_ n1_ n2_ n3_ n4_ n5_ n6_; have cB4_0 : w_1.cell? ⟨gB4, 0, none⟩ = some (.int .i64 v.x0) := (blk_cell B4.out 0).trans rfl; have dB4_0 := blk_frozen B4.out 0; have cB4_1 : w_1.cell? ⟨gB4, 1, none⟩ = some (.int .i64 v.x1) := (blk_cell B4.out 1).trans rfl; have dB4_1 := blk_frozen B4.out 1; have cB4_2 : w_1.cell? ⟨gB4, 2, none⟩ = some (.int .i64 v.x2) := (blk_cell B4.out 2).trans rfl; have dB4_2 := blk_frozen B4.out 2; have cB4_3 : w_1.cell? ⟨gB4, 3, none⟩ = some (.int .i64 v.e) := (blk_cell B4.out 3).trans rfl; have dB4_3 := blk_frozen B4.out 3; have cB8_0 : w_1.cell? ⟨gB8, 0, none⟩ = some (.int .i64 0) := (blk_cell B8.out 0).trans rfl; have dB8_0 := blk_frozen B8.out 0; have cB8_1 : w_1.cell? ⟨gB8, 1, none⟩ = some (.int .i64 0) := (blk_cell B8.out 1).trans rfl; have dB8_1 := blk_frozen B8.out 1; have cB8_2 : w_1.cell? ⟨gB8, 2, none⟩ = some (.int .i64 0) := (blk_cell B8.out 2).trans rfl; have dB8_2 := blk_frozen B8.out 2; clear hw_ e0_ e1_))
  go_loopg [7] v.ms (fun n v7 w' => ∃ (q : VS) (lw : Nat → Int) (xs : List S104), Aside0 (PGood bs.length q lw ∧ q.ms ≤ n ∧ xs.length + n ≤ 24) ∧ Aside0 (xs ++ hPlay bs n q lw = r) ∧ Aside0 (Kd.R k104 104 w' w.heap.size (fun k_ => gB4 < k_ ∧ k_ ≠ gB8) v7 xs) ∧ Aside0 (w'.heap[gB4]? = some (.cells #[.int .i64 q.x0, .int .i64 q.x1, .int .i64 q.x2, .int .i64 q.e] 101 (0, 0))) ∧ Aside0 (w'.heap[gB8]? = some (.cells (lowA lw) 99 (0, 0))) ∧ Aside0 (Hou w' mb) ∧ Aside0 (w.grownBy w' (some mb)) ∧ Aside0 (Lst w' mb (some ad) bs))
  case atStart => exact ⟨v, fun _ => 0, [], ⟨⟨HP.out, Nat.le_refl _, by simpa using HMS.out⟩⟩, ⟨HR_.out.symm⟩, ⟨Kd.R_mono HR0.out (fun k_ hk_ => ⟨hk_.1, by have h_ := hk_.2; have := ORD.out; omega⟩)⟩, B4, B8, HS, HG, LS⟩
  case round =>
    have ORD_ : Aside0 ((mb < w.heap.size ∧ ad.block < w.heap.size) ∧ w.heap.size ≤ gB4 ∧ gB4 < gB8) := ⟨by have := ORD.out; omega⟩
    clear ORD HS HG B4 B8 HR0 SZL LS cB4_0 dB4_0 cB4_1 dB4_1 cB4_2 dB4_2 cB4_3 dB4_3 cB8_0 dB8_0 cB8_1 dB8_1 cB8_2 dB8_2
    have ORD := ORD_
    clear ORD_
    obtain ⟨q, lw, xs, HI, HL, HR0', B4, B8, HS, HG, LS⟩ := hrel
    have HR : Aside0 (Kd.R k104 104 wr w.heap.size (fun k_ => gB4 < k_ ∧ k_ ≠ gB8 ∧ k_ < wr.heap.size) u7 xs) := ⟨Kd.R_mono (Kd.R_bound HR0'.out) (fun k_ hk_ => ⟨hk_.1.1, hk_.1.2, hk_.2.2.1⟩)⟩
    clear HR0'
    have ORD_ : Aside0 (((mb < w.heap.size ∧ ad.block < w.heap.size) ∧ w.heap.size ≤ gB4 ∧ gB4 < gB8) ∧ gB8 < wr.heap.size) := ⟨⟨ORD.out, blk_lt B8.out⟩⟩
    clear ORD
    have ORD := ORD_
    clear ORD_
    have SZ := Aside0.mk (Nat.le_refl wr.heap.size)
    have HQ := Aside0.mk HI.out.1
    have cB4_0 : wr.cell? ⟨gB4, 0, none⟩ = some (.int .i64 q.x0) := (blk_cell B4.out 0).trans rfl
    have dB4_0 := blk_frozen B4.out 0
    have cB4_1 : wr.cell? ⟨gB4, 1, none⟩ = some (.int .i64 q.x1) := (blk_cell B4.out 1).trans rfl
    have dB4_1 := blk_frozen B4.out 1
    have cB4_2 : wr.cell? ⟨gB4, 2, none⟩ = some (.int .i64 q.x2) := (blk_cell B4.out 2).trans rfl
    have dB4_2 := blk_frozen B4.out 2
    have cB4_3 : wr.cell? ⟨gB4, 3, none⟩ = some (.int .i64 q.e) := (blk_cell B4.out 3).trans rfl
    have dB4_3 := blk_frozen B4.out 3
    have hn := eggs_is q.x0 q.x1 q.x2
    obtain ⟨nd, hnd⟩ : ∃ nd, nd = q.need := ⟨_, rfl⟩
    rw [show nz q.x0 + nz q.x1 + nz q.x2 = nd from hnd.symm] at hn
    have HN := Aside0.mk hn
    have hnl := need_lo q
    rw [← hnd] at hnl
    have HND := Aside0.mk hnd
    clear hn hnd
    by_cases hd : nd = 0
    · have e1 : decide (nd > 0) = false := decide_eq_false (by omega)
      have e2 : decide (0 < nd) = false := decide_eq_false (by omega)
      have hxs : xs = r := by
        have h_ := HL.out
        have hz : hPlay bs gk q lw = [] := by cases gk <;> simp [hPlay, ← HND.out, hd]
        rw [hz] at h_
        simpa using h_
      subst hxs
      clear hd hnl
      go_wp2_with (first | ((with_reducible refine gate_callee (f := 123) rfl ?_); refine goesL_ (some 19) rfl rfl Try.func123 (by kernel_rfl) rfl #[.slice (some ⟨gB4, 0, none⟩) 3 3] rfl (by (try simp only [List.map_toArray, List.map_cons, List.map_nil]); first | done | rfl) ?_; refine (impl_eggsNeeded.calls 9 (some ⟨gB4, 0, none⟩) 3 [q.x0, q.x1, q.x2] nd _ (village_C B4.out) (Nat.le_refl 3) HN.out).mono ?_; rintro e_ w_1 ⟨rfl, hd_⟩; refine ⟨_, rfl, ?_⟩; have hb_ := hd_.below; clear hd_; have n0_ : Aside0 (Hou w_1 mb) := ⟨Hm.Mem.below (w := _) (by exact HS.out) hb_⟩; have n1_ : Aside0 (w.grownBy w_1 (some mb)) := ⟨Hx.g_below (by first | exact HG.out | exact Hx.g_drew HG.out | exact Hx.g_drewN HG.out _) hb_⟩; have n2_ : Aside0 (w_1.heap[gB4]? = some (.cells #[.int .i64 q.x0, .int .i64 q.x1, .int .i64 q.x2, .int .i64 q.e] 101 (0, 0))) := ⟨Hx.b_below hb_ B4.out⟩; have n3_ : Aside0 (w_1.heap[gB8]? = some (.cells (lowA lw) 99 (0, 0))) := ⟨Hx.b_below hb_ B8.out⟩; have n4_ : Aside0 (Lst w_1 mb (some ad) bs) := ⟨Lst.below (w := _) (by exact LS.out) hb_⟩; have n5_ : Aside0 (Kd.R k104 104 w_1 w.heap.size (fun k_ => gB4 < k_ ∧ k_ ≠ gB8 ∧ k_ < wr.heap.size) u7 xs) := ⟨Kd.R_below HR.out hb_⟩; have n6_ : Aside0 (wr.heap.size ≤ w_1.heap.size) := ⟨Nat.le_trans SZ.out hb_.size⟩; (try clear cB4_0 dB4_0 cB4_1 dB4_1 cB4_2 dB4_2 cB4_3 dB4_3); (try clear HS); (try clear HG); (try clear B4); (try clear B8); (try clear LS); (try clear HR); (try clear SZ); have HS := n0_; have HG := n1_; have B4 := n2_; have B8 := n3_; have LS := n4_; have HR := n5_; have SZ := n6_; clear n0_ n1_ n2_ n3_ n4_ n5_ n6_; have cB4_0 : w_1.cell? ⟨gB4, 0, none⟩ = some (.int .i64 q.x0) := (blk_cell B4.out 0).trans rfl; have dB4_0 := blk_frozen B4.out 0; have cB4_1 : w_1.cell? ⟨gB4, 1, none⟩ = some (.int .i64 q.x1) := (blk_cell B4.out 1).trans rfl; have dB4_1 := blk_frozen B4.out 1; have cB4_2 : w_1.cell? ⟨gB4, 2, none⟩ = some (.int .i64 q.x2) := (blk_cell B4.out 2).trans rfl; have dB4_2 := blk_frozen B4.out 2; have cB4_3 : w_1.cell? ⟨gB4, 3, none⟩ = some (.int .i64 q.e) := (blk_cell B4.out 3).trans rfl; have dB4_3 := blk_frozen B4.out 3; clear hb_))
      go_ret
      exact ⟨_, rfl, Kd.R_mono HR.out (fun _ _ => trivial), HS.out, HG.out⟩
    · have e1 : decide (nd > 0) = true := decide_eq_true (by omega)
      have e2 : decide (0 < nd) = true := decide_eq_true (by omega)
      have hn0 : q.need ≠ 0 := by rw [← HND.out]; exact hd
      have hlt := HQ.out.lt hn0
      have hnx := fun br => HQ.out.nxt hn0 br
      have hpf := vFirst_ok (HQ.out.ok hn0)
      obtain ⟨ys, hys⟩ := vLits_first (HQ.out.ok hn0)
      obtain ⟨br, hbr⟩ : ∃ br, br = hBrk bs q lw := ⟨_, rfl⟩
      obtain ⟨k1, rfl⟩ : ∃ k1, gk = k1 + 1 := ⟨gk - 1, by have h1_ := HI.out.2.1; have h2_ := (hnx br).2; omega⟩
      have HL2 : Aside0 ((xs ++ [(⟨((vFirst q).1 : Int), lw (vFirst q).1 + (vFirst q).2, br⟩ : S104)]) ++ hPlay bs k1 (q.nxt br) (hLow q lw br) = r) := ⟨by
        have h_ := HL.out
        rw [hPlay, if_neg hn0, ← hbr] at h_
        rw [← h_]
        simp⟩
      have hcb : decide (bs.getD (vFirst q).1 0 < lw (vFirst q).1 + (vFirst q).2) = br := hbr.symm
      have hpa := fun W => parts_all q (vFirst q) HQ.out.1 hpf.1 W
      obtain ⟨qb, hqb⟩ : ∃ qb, qb = q.brk (vFirst q).1 (vFirst q).2 := ⟨_, rfl⟩
      obtain ⟨qw, hqw⟩ : ∃ qw, qw = q.whl (vFirst q).1 (vFirst q).2 := ⟨_, rfl⟩
      rw [← hqb, ← hqw] at hpa
      have HQB : Aside0 (q.nxt br = if br then qb else qw) := ⟨by rw [hqb, hqw]; rfl⟩
      have HNX := Aside0.mk (hnx br)
      have HLO : Aside0 (hLow q lw br = if br then lw else upd lw (vFirst q).1 (lw (vFirst q).1 + (vFirst q).2)) := ⟨rfl⟩
      obtain ⟨h, hh⟩ : ∃ h, h = (vFirst q).1 := ⟨_, rfl⟩
      obtain ⟨f, hf⟩ : ∃ f, f = (vFirst q).2 := ⟨_, rfl⟩
      rw [← hh, ← hf] at hlt hys hcb HLO HL2
      rw [← hh, ← hf] at hpa
      obtain ⟨x, hx⟩ : ∃ x, x = lw h := ⟨_, rfl⟩
      rw [← hx] at hlt hcb HLO HL2
      have HXL := Aside0.mk hx
      obtain ⟨b, hb⟩ : ∃ b, b = bs.getD h 0 := ⟨_, rfl⟩
      rw [← hb] at hcb
      have HBB := Aside0.mk hb
      have HLF := Aside0.mk hys
      have HLT := Aside0.mk hlt
      have HPA := Aside0.mk hpa
      simp only [vCells] at HPA
      obtain ⟨fl, hfl⟩ : ∃ fl, fl = x + f := ⟨_, rfl⟩
      have wx : IntKind.i64.wrap (x + f) = fl := by rw [hfl]; exact Hw.wrap_w (by omega) (by omega)
      have wx64 : wrap64 (x + f) = fl := by rw [hfl]; exact Hw.wrap_id (by omega) (by omega)
      rw [← hfl] at hcb HLO HL2
      obtain ⟨zs, hzs⟩ : ∃ zs : List S104, zs = xs ++ [(⟨(h : Int), fl, br⟩ : S104)] := ⟨_, rfl⟩
      have Nzs := Aside0.mk hzs
      rw [← hzs] at HL2
      have HXN : Aside0 (xs.length + 1 ≤ 24) := ⟨by have := HI.out.2.2; omega⟩
      have HZL : Aside0 (zs.length + k1 ≤ 24) := ⟨by have := HI.out.2.2; rw [hzs]; simp; omega⟩
      have HMS2 : Aside0 ((q.nxt br).ms ≤ k1) := ⟨by have h1_ := HI.out.2.1; have h2_ := HNX.out.2; omega⟩
      have p0 : (0 : Int) ≤ (h : Int) := by omega
      have q0 : (h : Int) < 3 := by omega
      have q1 : (h : Int) < (bs.length : Int) := by omega
      have hadd := Hw.add_off gB8 h
      replace p0 := eq_true p0
      replace q0 := eq_true q0
      replace q1 := eq_true q1
      clear hd hnl hn0 hnx hpf hys hbr hqb hqw hh hf hx hb hlt hpa hfl hzs HL
      go_upto_region 5 with (first | ((with_reducible refine gate_callee (f := 123) rfl ?_); refine goesL_ (some 19) rfl rfl Try.func123 (by kernel_rfl) rfl #[.slice (some ⟨gB4, 0, none⟩) 3 3] rfl (by (try simp only [List.map_toArray, List.map_cons, List.map_nil]); first | done | rfl) ?_; refine (impl_eggsNeeded.calls 9 (some ⟨gB4, 0, none⟩) 3 [q.x0, q.x1, q.x2] nd _ (village_C B4.out) (Nat.le_refl 3) HN.out).mono ?_; rintro e_ w_1 ⟨rfl, hd_⟩; refine ⟨_, rfl, ?_⟩; have hb_ := hd_.below; clear hd_; have n0_ : Aside0 (Hou w_1 mb) := ⟨Hm.Mem.below (w := _) (by exact HS.out) hb_⟩; have n1_ : Aside0 (w.grownBy w_1 (some mb)) := ⟨Hx.g_below (by first | exact HG.out | exact Hx.g_drew HG.out | exact Hx.g_drewN HG.out _) hb_⟩; have n2_ : Aside0 (w_1.heap[gB4]? = some (.cells #[.int .i64 q.x0, .int .i64 q.x1, .int .i64 q.x2, .int .i64 q.e] 101 (0, 0))) := ⟨Hx.b_below hb_ B4.out⟩; have n3_ : Aside0 (w_1.heap[gB8]? = some (.cells (lowA lw) 99 (0, 0))) := ⟨Hx.b_below hb_ B8.out⟩; have n4_ : Aside0 (Lst w_1 mb (some ad) bs) := ⟨Lst.below (w := _) (by exact LS.out) hb_⟩; have n5_ : Aside0 (Kd.R k104 104 w_1 w.heap.size (fun k_ => gB4 < k_ ∧ k_ ≠ gB8 ∧ k_ < wr.heap.size) u7 xs) := ⟨Kd.R_below HR.out hb_⟩; have n6_ : Aside0 (wr.heap.size ≤ w_1.heap.size) := ⟨Nat.le_trans SZ.out hb_.size⟩; (try clear cB4_0 dB4_0 cB4_1 dB4_1 cB4_2 dB4_2 cB4_3 dB4_3); (try clear HS); (try clear HG); (try clear B4); (try clear B8); (try clear LS); (try clear HR); (try clear SZ); have HS := n0_; have HG := n1_; have B4 := n2_; have B8 := n3_; have LS := n4_; have HR := n5_; have SZ := n6_; clear n0_ n1_ n2_ n3_ n4_ n5_ n6_; have cB4_0 : w_1.cell? ⟨gB4, 0, none⟩ = some (.int .i64 q.x0) := (blk_cell B4.out 0).trans rfl; have dB4_0 := blk_frozen B4.out 0; have cB4_1 : w_1.cell? ⟨gB4, 1, none⟩ = some (.int .i64 q.x1) := (blk_cell B4.out 1).trans rfl; have dB4_1 := blk_frozen B4.out 1; have cB4_2 : w_1.cell? ⟨gB4, 2, none⟩ = some (.int .i64 q.x2) := (blk_cell B4.out 2).trans rfl; have dB4_2 := blk_frozen B4.out 2; have cB4_3 : w_1.cell? ⟨gB4, 3, none⟩ = some (.int .i64 q.e) := (blk_cell B4.out 3).trans rfl; have dB4_3 := blk_frozen B4.out 3; clear hb_) | ((with_reducible refine gate_callee (f := 86) rfl ?_); refine goesL_ (some 23) rfl rfl Try.func86 (by kernel_rfl) rfl #[.map (some mb), .agg #[.int .i64 q.x0, .int .i64 q.x1, .int .i64 q.x2, .int .i64 q.e]] rfl (by (try simp only [List.map_toArray, List.map_cons, List.map_nil]); first | done | rfl) ?_; refine (good_of mb q HQ.out.1 HQ.out.2.1 _ HLF.out w_1 HS.out).mono ?_; rintro e_ w_2 ⟨v_, rfl, hr_, hs_, hg_⟩; refine ⟨_, rfl, ?_⟩; obtain ⟨g_, cc_, A2_, c2_, rfl, x0_, hr2_⟩ := row_first hr_; obtain ⟨g2, C2, rfl, gb_, R2_, y0_, y1_⟩ := row_two hr2_; have ORD_ : Aside0 ((((mb < w.heap.size ∧ ad.block < w.heap.size) ∧ w.heap.size ≤ gB4 ∧ gB4 < gB8) ∧ gB8 < wr.heap.size) ∧ wr.heap.size ≤ g2) := ⟨⟨ORD.out, by have := SZ.out; omega⟩⟩; clear ORD; have ORD := ORD_; clear ORD_; have Y0 := Aside0.mk y0_; have Y1 := Aside0.mk y1_; clear hr_ hr2_ gb_ y0_ y1_; have n0_ : Aside0 (Hou w_2 mb) := ⟨hs_⟩; have n1_ : Aside0 (w.grownBy w_2 (some mb)) := ⟨World.grownBy.trans (by first | exact HG.out | exact Hx.g_drew HG.out | exact Hx.g_drewN HG.out _) hg_⟩; have n2_ : Aside0 (w_2.heap[gB4]? = some (.cells #[.int .i64 q.x0, .int .i64 q.x1, .int .i64 q.x2, .int .i64 q.e] 101 (0, 0))) := ⟨Hx.b_grown hg_ B4.out (by simp only [ne_eq, Option.some.injEq]; have := ORD.out; omega)⟩; have n3_ : Aside0 (w_2.heap[gB8]? = some (.cells (lowA lw) 99 (0, 0))) := ⟨Hx.b_grown hg_ B8.out (by simp only [ne_eq, Option.some.injEq]; have := ORD.out; omega)⟩; have n4_ : Aside0 (Lst w_2 mb (some ad) bs) := ⟨Lst.grown LS.out hg_⟩; have n5_ : Aside0 (Kd.R k104 104 w_2 w.heap.size (fun k_ => gB4 < k_ ∧ k_ ≠ gB8 ∧ k_ < wr.heap.size) u7 xs) := ⟨Kd.R_grown (row := some mb) HR.out hg_ (fun k_ hk_ h_ => by have := Option.some.inj h_; have := ORD.out; have := hk_.1; omega)⟩; have n6_ : Aside0 (wr.heap.size ≤ w_2.heap.size) := ⟨Nat.le_trans SZ.out hg_.size⟩; have m0_ : Aside0 (w_2.heap[g2]? = some (.cells C2 3 (0, 0))) := ⟨R2_⟩; (try clear cB4_0 dB4_0 cB4_1 dB4_1 cB4_2 dB4_2 cB4_3 dB4_3); (try clear HS); (try clear HG); (try clear B4); (try clear B8); (try clear LS); (try clear HR); (try clear SZ); have HS := n0_; have HG := n1_; have B4 := n2_; have B8 := n3_; have LS := n4_; have HR := n5_; have SZ := n6_; have R2 := m0_; clear n0_ n1_ n2_ n3_ n4_ n5_ n6_ m0_; have cB4_0 : w_2.cell? ⟨gB4, 0, none⟩ = some (.int .i64 q.x0) := (blk_cell B4.out 0).trans rfl; have dB4_0 := blk_frozen B4.out 0; have cB4_1 : w_2.cell? ⟨gB4, 1, none⟩ = some (.int .i64 q.x1) := (blk_cell B4.out 1).trans rfl; have dB4_1 := blk_frozen B4.out 1; have cB4_2 : w_2.cell? ⟨gB4, 2, none⟩ = some (.int .i64 q.x2) := (blk_cell B4.out 2).trans rfl; have dB4_2 := blk_frozen B4.out 2; have cB4_3 : w_2.cell? ⟨gB4, 3, none⟩ = some (.int .i64 q.e) := (blk_cell B4.out 3).trans rfl; have dB4_3 := blk_frozen B4.out 3; clear hs_ hg_ R2_; have y0_ : w_2.cell? ⟨g2, 0, none⟩ = some (.int .i64 (h : Int)) := (blk_cell R2.out 0).trans Y0.out; have y1_ : w_2.cell? ⟨g2, 1, none⟩ = some (.int .i64 f) := (blk_cell R2.out 1).trans Y1.out))
      have c8_ : w_2.cell? ⟨gB8, h, none⟩ = some (.int .i64 x) := (blk_cell B8.out h).trans (by rw [HXL.out]; exact lowA_get lw HLT.out.2.1)
      go_quiet (fail)
      (try rw [wx64])
      (try simp only [wx64])
      clear y0_ y1_ c8_
      obtain ⟨w_3, hwq⟩ : ∃ W, W = w_2.drewN nq := ⟨_, rfl⟩
      rw [← hwq]
      have hb_ : Below w_2.heap.size w_2 w_3 := by rw [hwq]; exact pw_below_drewN (Below.refl _ _) _
      have n0_ : Aside0 (Hou w_3 mb) := ⟨Hm.Mem.below (w := _) (by exact HS.out) hb_⟩
      have n1_ : Aside0 (w.grownBy w_3 (some mb)) := ⟨Hx.g_below (by first | exact HG.out | exact Hx.g_drew HG.out | exact Hx.g_drewN HG.out _) hb_⟩
      have n2_ : Aside0 (w_3.heap[gB4]? = some (.cells #[.int .i64 q.x0, .int .i64 q.x1, .int .i64 q.x2, .int .i64 q.e] 101 (0, 0))) := ⟨Hx.b_below hb_ B4.out⟩
      have n3_ : Aside0 (w_3.heap[gB8]? = some (.cells (lowA lw) 99 (0, 0))) := ⟨Hx.b_below hb_ B8.out⟩
      have n4_ : Aside0 (Lst w_3 mb (some ad) bs) := ⟨Lst.below (w := _) (by exact LS.out) hb_⟩
      have n5_ : Aside0 (Kd.R k104 104 w_3 w.heap.size (fun k_ => gB4 < k_ ∧ k_ ≠ gB8 ∧ k_ < wr.heap.size) u7 xs) := ⟨Kd.R_below HR.out hb_⟩
      have n6_ : Aside0 (wr.heap.size ≤ w_3.heap.size) := ⟨Nat.le_trans SZ.out hb_.size⟩
      have n7_ : Aside0 (w_3.heap[g2]? = some (.cells C2 3 (0, 0))) := ⟨Hx.b_below hb_ R2.out⟩
      (try clear cB4_0 dB4_0 cB4_1 dB4_1 cB4_2 dB4_2 cB4_3 dB4_3)
      (try clear HS)
      (try clear HG)
      (try clear B4)
      (try clear B8)
      (try clear LS)
      (try clear HR)
      (try clear SZ)
      (try clear R2)
      have HS := n0_
      have HG := n1_
      have B4 := n2_
      have B8 := n3_
      have LS := n4_
      have HR := n5_
      have SZ := n6_
      have R2 := n7_
      clear n0_ n1_ n2_ n3_ n4_ n5_ n6_ n7_
      have cB4_0 : w_3.cell? ⟨gB4, 0, none⟩ = some (.int .i64 q.x0) := (blk_cell B4.out 0).trans rfl
      have dB4_0 := blk_frozen B4.out 0
      have cB4_1 : w_3.cell? ⟨gB4, 1, none⟩ = some (.int .i64 q.x1) := (blk_cell B4.out 1).trans rfl
      have dB4_1 := blk_frozen B4.out 1
      have cB4_2 : w_3.cell? ⟨gB4, 2, none⟩ = some (.int .i64 q.x2) := (blk_cell B4.out 2).trans rfl
      have dB4_2 := blk_frozen B4.out 2
      have cB4_3 : w_3.cell? ⟨gB4, 3, none⟩ = some (.int .i64 q.e) := (blk_cell B4.out 3).trans rfl
      have dB4_3 := blk_frozen B4.out 3
      clear hb_ hwq
      obtain ⟨ad2, ead, ib_⟩ := Lst.look LS.out HLT.out.1
      cases ead
      rw [← HBB.out] at ib_
      have hcb2 : decide (fl > b) = br := hcb
      go_upto_region 8 with (first | ((with_reducible refine gate_dst (N := 12) rfl ?_); refine box_event ?hg (N := 12) ?hd (cs := #[.int .i64 0, .int .i64 0, .bool false]) (t := 104) ?hr ?_; (case hd => rfl); (case hg => rfl); (case hr => first | (go_simp; done) | (go_simp; rfl)); intro gB12 hg_ w_gB12 BK_ hb_; have ORD_ : Aside0 (((((mb < w.heap.size ∧ ad.block < w.heap.size) ∧ w.heap.size ≤ gB4 ∧ gB4 < gB8) ∧ gB8 < wr.heap.size) ∧ wr.heap.size ≤ g2) ∧ (g2 < gB12 ∧ gB4 < gB12 ∧ gB8 < gB12 ∧ mb < gB12 ∧ w.heap.size ≤ gB12 ∧ wr.heap.size ≤ gB12)) := ⟨by refine ⟨ORD.out, ?_⟩; (have := HS.out.lt); (have := HG.out.size); (have := blk_lt B4.out); (have := blk_lt B8.out); (have := SZ.out); (have := blk_lt R2.out); omega⟩; clear ORD; have ORD := ORD_; clear ORD_; have n0_ : Aside0 (Hou w_gB12 mb) := ⟨Hm.Mem.below (w := _) (by exact HS.out) hb_⟩; have n1_ : Aside0 (w.grownBy w_gB12 (some mb)) := ⟨Hx.g_below (by first | exact HG.out | exact Hx.g_drew HG.out | exact Hx.g_drewN HG.out _) hb_⟩; have n2_ : Aside0 (w_gB12.heap[gB4]? = some (.cells #[.int .i64 q.x0, .int .i64 q.x1, .int .i64 q.x2, .int .i64 q.e] 101 (0, 0))) := ⟨Hx.b_below hb_ B4.out⟩; have n3_ : Aside0 (w_gB12.heap[gB8]? = some (.cells (lowA lw) 99 (0, 0))) := ⟨Hx.b_below hb_ B8.out⟩; have n4_ : Aside0 (Lst w_gB12 mb (some ad) bs) := ⟨Lst.below (w := _) (by exact LS.out) hb_⟩; have n5_ : Aside0 (Kd.R k104 104 w_gB12 w.heap.size (fun k_ => gB4 < k_ ∧ k_ ≠ gB8 ∧ k_ < wr.heap.size) u7 xs) := ⟨Kd.R_below HR.out hb_⟩; have n6_ : Aside0 (wr.heap.size ≤ w_gB12.heap.size) := ⟨Nat.le_trans SZ.out hb_.size⟩; have n7_ : Aside0 (w_gB12.heap[g2]? = some (.cells C2 3 (0, 0))) := ⟨Hx.b_below hb_ R2.out⟩; have m0_ : Aside0 (w_gB12.heap[gB12]? = some (.cells #[.int .i64 0, .int .i64 0, .bool false] 104 (0, 0))) := ⟨BK_⟩; (try clear cB4_0 dB4_0 cB4_1 dB4_1 cB4_2 dB4_2 cB4_3 dB4_3); (try clear HS); (try clear HG); (try clear B4); (try clear B8); (try clear LS); (try clear HR); (try clear SZ); (try clear R2); have HS := n0_; have HG := n1_; have B4 := n2_; have B8 := n3_; have LS := n4_; have HR := n5_; have SZ := n6_; have R2 := n7_; have B12 := m0_; clear n0_ n1_ n2_ n3_ n4_ n5_ n6_ n7_ m0_; have cB4_0 : w_gB12.cell? ⟨gB4, 0, none⟩ = some (.int .i64 q.x0) := (blk_cell B4.out 0).trans rfl; have dB4_0 := blk_frozen B4.out 0; have cB4_1 : w_gB12.cell? ⟨gB4, 1, none⟩ = some (.int .i64 q.x1) := (blk_cell B4.out 1).trans rfl; have dB4_1 := blk_frozen B4.out 1; have cB4_2 : w_gB12.cell? ⟨gB4, 2, none⟩ = some (.int .i64 q.x2) := (blk_cell B4.out 2).trans rfl; have dB4_2 := blk_frozen B4.out 2; have cB4_3 : w_gB12.cell? ⟨gB4, 3, none⟩ = some (.int .i64 q.e) := (blk_cell B4.out 3).trans rfl; have dB4_3 := blk_frozen B4.out 3; have cB12_0 : w_gB12.cell? ⟨gB12, 0, none⟩ = some (.int .i64 0) := (blk_cell B12.out 0).trans rfl; have dB12_0 := blk_frozen B12.out 0; have cB12_1 : w_gB12.cell? ⟨gB12, 1, none⟩ = some (.int .i64 0) := (blk_cell B12.out 1).trans rfl; have dB12_1 := blk_frozen B12.out 1; have cB12_2 : w_gB12.cell? ⟨gB12, 2, none⟩ = some (.bool false) := (blk_cell B12.out 2).trans rfl; have dB12_2 := blk_frozen B12.out 2; clear hg_ BK_ hb_) | ((with_reducible refine gate_store (t := 104) (p := 12) rfl ?_); refine store_event (t := 104) (p := 12) (v := ?vo_w4) (w1 := ((((w_gB12).setCell ⟨gB12, 0, none⟩ (.int .i64 (h : Int))).setCell ⟨gB12, 1, none⟩ (.int .i64 fl)).setCell ⟨gB12, 2, none⟩ (.bool br))) ?hg ?ho ?hn ?hr ?_; (case ho => rfl); (case hg => rfl); (case hn => rfl); (case hr => first | (go_simp; done) | (go_simp; rfl)); intro w_4 hw_; have e0_ : mb ≠ gB12 := (by have := ORD.out; omega); have e1_ : gB4 ≠ gB12 := (by have := ORD.out; omega); have e2_ : gB8 ≠ gB12 := (by have := ORD.out; omega); have e3_ : g2 ≠ gB12 := (by have := ORD.out; omega); have n0_ : Aside0 (Hou w_4 mb) := ⟨by rw [hw_]; exact Hm.Mem.same (Hm.Mem.same (Hm.Mem.same HS.out (Below.heap_setCell _ _ _ _ e0_)) (Below.heap_setCell _ _ _ _ e0_)) (Below.heap_setCell _ _ _ _ e0_)⟩; have n1_ : Aside0 (w.grownBy w_4 (some mb)) := ⟨by rw [hw_]; exact Hx.g_set (Hx.g_set (Hx.g_set HG.out (by have := ORD.out; omega)) (by have := ORD.out; omega)) (by have := ORD.out; omega)⟩; have n2_ : Aside0 (w_4.heap[gB4]? = some (.cells #[.int .i64 q.x0, .int .i64 q.x1, .int .i64 q.x2, .int .i64 q.e] 101 (0, 0))) := ⟨by rw [hw_]; exact blk_far (blk_far (blk_far B4.out e1_ _) e1_ _) e1_ _⟩; have n3_ : Aside0 (w_4.heap[gB8]? = some (.cells (lowA lw) 99 (0, 0))) := ⟨by rw [hw_]; exact blk_far (blk_far (blk_far B8.out e2_ _) e2_ _) e2_ _⟩; have n4_ : Aside0 (Lst w_4 mb (some ad) bs) := ⟨by rw [hw_]; exact Lst.far (Lst.far (Lst.far LS.out (show ad.block ≠ gB12 by have := ORD.out; have := HAL.out; omega)) (show ad.block ≠ gB12 by have := ORD.out; have := HAL.out; omega)) (show ad.block ≠ gB12 by have := ORD.out; have := HAL.out; omega)⟩; have n5_ : Aside0 (Kd.R k104 104 w_4 w.heap.size (fun k_ => gB4 < k_ ∧ k_ ≠ gB8 ∧ k_ < wr.heap.size) u7 xs) := ⟨by rw [hw_]; exact Kd.R_far (Kd.R_far (Kd.R_far HR.out (fun k_ hk_ => show k_ ≠ gB12 by have h1_ := hk_.1; have h2_ := hk_.2.1; have h3_ := hk_.2.2; have := ORD.out; omega) _) (fun k_ hk_ => show k_ ≠ gB12 by have h1_ := hk_.1; have h2_ := hk_.2.1; have h3_ := hk_.2.2; have := ORD.out; omega) _) (fun k_ hk_ => show k_ ≠ gB12 by have h1_ := hk_.1; have h2_ := hk_.2.1; have h3_ := hk_.2.2; have := ORD.out; omega) _⟩; have n6_ : Aside0 (wr.heap.size ≤ w_4.heap.size) := ⟨by rw [hw_]; exact Hx.size_set (Hx.size_set (Hx.size_set SZ.out))⟩; have n7_ : Aside0 (w_4.heap[g2]? = some (.cells C2 3 (0, 0))) := ⟨by rw [hw_]; exact blk_far (blk_far (blk_far R2.out e3_ _) e3_ _) e3_ _⟩; have n8_ : Aside0 (w_4.heap[gB12]? = some (.cells #[.int .i64 (h : Int), .int .i64 fl, .bool br] 104 (0, 0))) := ⟨by rw [hw_]; exact blk_put (blk_put (blk_put B12.out 0 _ rfl) 1 _ rfl) 2 _ rfl⟩; (try clear cB4_0 dB4_0 cB4_1 dB4_1 cB4_2 dB4_2 cB4_3 dB4_3 cB12_0 dB12_0 cB12_1 dB12_1 cB12_2 dB12_2); (try clear HS); (try clear HG); (try clear B4); (try clear B8); (try clear LS); (try clear HR); (try clear SZ); (try clear R2); (try clear B12); have HS := n0_; have HG := n1_; have B4 := n2_; have B8 := n3_; have LS := n4_; have HR := n5_; have SZ := n6_; have R2 := n7_; have B12 := n8_; clear n0_ n1_ n2_ n3_ n4_ n5_ n6_ n7_ n8_; have cB4_0 : w_4.cell? ⟨gB4, 0, none⟩ = some (.int .i64 q.x0) := (blk_cell B4.out 0).trans rfl; have dB4_0 := blk_frozen B4.out 0; have cB4_1 : w_4.cell? ⟨gB4, 1, none⟩ = some (.int .i64 q.x1) := (blk_cell B4.out 1).trans rfl; have dB4_1 := blk_frozen B4.out 1; have cB4_2 : w_4.cell? ⟨gB4, 2, none⟩ = some (.int .i64 q.x2) := (blk_cell B4.out 2).trans rfl; have dB4_2 := blk_frozen B4.out 2; have cB4_3 : w_4.cell? ⟨gB4, 3, none⟩ = some (.int .i64 q.e) := (blk_cell B4.out 3).trans rfl; have dB4_3 := blk_frozen B4.out 3; have cB12_0 : w_4.cell? ⟨gB12, 0, none⟩ = some (.int .i64 (h : Int)) := (blk_cell B12.out 0).trans rfl; have dB12_0 := blk_frozen B12.out 0; have cB12_1 : w_4.cell? ⟨gB12, 1, none⟩ = some (.int .i64 fl) := (blk_cell B12.out 1).trans rfl; have dB12_1 := blk_frozen B12.out 1; have cB12_2 : w_4.cell? ⟨gB12, 2, none⟩ = some (.bool br) := (blk_cell B12.out 2).trans rfl; have dB12_2 := blk_frozen B12.out 2; clear hw_ e0_ e1_ e2_ e3_) | ((with_reducible refine gate_builtin (b := .append) (xs := #[.tmp 45, .tmp 47]) rfl ?_); at_builtin; refine Kd.R_append k104 (w0 := w_4) (w.heap.size) rfl (.tmp 45) (.tmp 47) 59 104 (.agg #[(.int .i64 0), (.int .i64 0), (.bool false)]) 24 rfl Try.underlying59 info104 rfl (by decide) (by omega) u7 xs ((⟨(h : Int), fl, br⟩ : S104)) [.int .i64 (h : Int), .int .i64 fl, .bool br] (fun k_ => gB4 < k_ ∧ k_ ≠ gB8) (fun _ => False) rfl rfl ?aP (fun _ hk_ => hk_.elim) ?aF ?aO ?aB ?aS ?aL ?_; (case aP => exact k104_mkM _ _ _ ((⟨(h : Int), fl, br⟩ : S104))); (case aB => exact Below.refl _ _); (case aF => exact (fun k_ hk_ => by have := ORD.out; have := HS.out.lt; have := HG.out.size; have := blk_lt B4.out; have := blk_lt B8.out; have := SZ.out; have := blk_lt R2.out; have := blk_lt B12.out; show gB4 < k_ ∧ k_ ≠ gB8; omega)); (case aO => exact Kd.R_mono HR.out (fun k_ hk_ => ⟨hk_.1, hk_.2.1⟩)); (case aS => exact (by have := HS.out.lt; have := HG.out.size; have := blk_lt B4.out; have := blk_lt B8.out; have := SZ.out; have := blk_lt R2.out; have := blk_lt B12.out; have := ORD.out; omega)); (case aL => have := HXN.out; omega); intro v_ w_5 ho_ hb_ hg_ hat_; rw [← Nzs.out] at ho_; have n0_ : Aside0 (Hou w_5 mb) := ⟨Hm.Mem.same HS.out (World.grownBy.block hg_ mb (Hm.Mem.lt HS.out) (fun h_ => by have h2_ : gB4 < mb ∧ mb ≠ gB8 ∧ mb < wr.heap.size := HR.out.1 _ h_.symm; have := ORD.out; omega))⟩; have n1_ : Aside0 (w.grownBy w_5 (some mb)) := ⟨Hx.g_append (by first | exact HG.out | exact Hx.g_drew HG.out | exact Hx.g_drewN HG.out _) hg_ (fun k_ h_ => by have h2_ : gB4 < k_ ∧ k_ ≠ gB8 ∧ k_ < wr.heap.size := HR.out.1 _ h_; have := ORD.out; omega)⟩; have n2_ : Aside0 (w_5.heap[gB4]? = some (.cells #[.int .i64 q.x0, .int .i64 q.x1, .int .i64 q.x2, .int .i64 q.e] 101 (0, 0))) := ⟨Hx.b_grown hg_ B4.out (fun h_ => by have h2_ : gB4 < gB4 ∧ gB4 ≠ gB8 ∧ gB4 < wr.heap.size := HR.out.1 _ h_.symm; have := ORD.out; omega)⟩; have n3_ : Aside0 (w_5.heap[gB8]? = some (.cells (lowA lw) 99 (0, 0))) := ⟨Hx.b_grown hg_ B8.out (fun h_ => by have h2_ : gB4 < gB8 ∧ gB8 ≠ gB8 ∧ gB8 < wr.heap.size := HR.out.1 _ h_.symm; have := ORD.out; omega)⟩; have n4_ : Aside0 (Lst w_5 mb (some ad) bs) := ⟨Lst.app LS.out (n := w.heap.size) (fun ad_ h_ => by injection h_ with h2_; rw [← h2_]; exact HAL.out) hg_ (fun k_ h_ => by have h2_ : gB4 < k_ := (HR.out.1 _ h_).1; have := ORD.out; omega)⟩; have n5_ : Aside0 (wr.heap.size ≤ w_5.heap.size) := ⟨Nat.le_trans SZ.out hg_.size⟩; have n6_ : Aside0 (w_5.heap[g2]? = some (.cells C2 3 (0, 0))) := ⟨Hx.b_grown hg_ R2.out (fun h_ => by have h2_ : gB4 < g2 ∧ g2 ≠ gB8 ∧ g2 < wr.heap.size := HR.out.1 _ h_.symm; have := ORD.out; omega)⟩; have n7_ : Aside0 (w_5.heap[gB12]? = some (.cells #[.int .i64 (h : Int), .int .i64 fl, .bool br] 104 (0, 0))) := ⟨Hx.b_grown hg_ B12.out (fun h_ => by have h2_ : gB4 < gB12 ∧ gB12 ≠ gB8 ∧ gB12 < wr.heap.size := HR.out.1 _ h_.symm; have := ORD.out; omega)⟩; have m0_ : Aside0 (Kd.R k104 104 w_5 w.heap.size (fun k_ => gB4 < k_ ∧ k_ ≠ gB8) v_ zs) := ⟨ho_⟩; (try clear cB4_0 dB4_0 cB4_1 dB4_1 cB4_2 dB4_2 cB4_3 dB4_3 cB12_0 dB12_0 cB12_1 dB12_1 cB12_2 dB12_2); (try clear HS); (try clear HG); (try clear B4); (try clear B8); (try clear LS); (try clear SZ); (try clear R2); (try clear B12); (try clear HR); have HS := n0_; have HG := n1_; have B4 := n2_; have B8 := n3_; have LS := n4_; have SZ := n5_; have R2 := n6_; have B12 := n7_; have HR := m0_; clear n0_ n1_ n2_ n3_ n4_ n5_ n6_ n7_ m0_; have cB4_0 : w_5.cell? ⟨gB4, 0, none⟩ = some (.int .i64 q.x0) := (blk_cell B4.out 0).trans rfl; have dB4_0 := blk_frozen B4.out 0; have cB4_1 : w_5.cell? ⟨gB4, 1, none⟩ = some (.int .i64 q.x1) := (blk_cell B4.out 1).trans rfl; have dB4_1 := blk_frozen B4.out 1; have cB4_2 : w_5.cell? ⟨gB4, 2, none⟩ = some (.int .i64 q.x2) := (blk_cell B4.out 2).trans rfl; have dB4_2 := blk_frozen B4.out 2; have cB4_3 : w_5.cell? ⟨gB4, 3, none⟩ = some (.int .i64 q.e) := (blk_cell B4.out 3).trans rfl; have dB4_3 := blk_frozen B4.out 3; have cB12_0 : w_5.cell? ⟨gB12, 0, none⟩ = some (.int .i64 (h : Int)) := (blk_cell B12.out 0).trans rfl; have dB12_0 := blk_frozen B12.out 0; have cB12_1 : w_5.cell? ⟨gB12, 1, none⟩ = some (.int .i64 fl) := (blk_cell B12.out 1).trans rfl; have dB12_1 := blk_frozen B12.out 1; have cB12_2 : w_5.cell? ⟨gB12, 2, none⟩ = some (.bool br) := (blk_cell B12.out 2).trans rfl; have dB12_2 := blk_frozen B12.out 2; clear ho_ hb_ hg_ hat_))
      refine start_ (n := 13) (S := fun w' => w'.cell? ⟨gB4, 0, none⟩ = some (.int .i64 q.x0) ∧ w'.cell? ⟨gB4, 1, none⟩ = some (.int .i64 q.x1) ∧ w'.cell? ⟨gB4, 2, none⟩ = some (.int .i64 q.x2) ∧ w'.cell? ⟨gB4, 3, none⟩ = some (.int .i64 q.e) ∧ w'.cell? ⟨g2, 1, none⟩ = some (.int .i64 f)) (ds := [11, 12]) #[false, false, false, false, false, false, false, false, false, false, false, false, false] (by kernel_rfl) rfl rfl ⟨(blk_cell (B4.out) 0).trans rfl, (blk_cell (B4.out) 1).trans rfl, (blk_cell (B4.out) 2).trans rfl, (blk_cell (B4.out) 3).trans rfl, (blk_cell (R2.out) 1).trans Y1.out⟩ (fun hHeld => ?_)
      refine pure_ (i := 1) (N := some 51) (v := ?_) (a' := ?_) #[false, true, false, false, false, false, false, false, false, false, false, false, false] rfl rfl (by kernel_rfl) (fun _ _ _ h => h) (Or.inl ⟨by rfl, ?_⟩) ?_ ?_
      rotate_left
      · intro w'
        go_simp
        with_reducible rfl
      rotate_left
      · simp only [Act.put, List.setIfInBounds_toArray, List.set_cons_zero, List.set_cons_succ, i64_w, i32_w]
        rfl
      refine pure_ (i := 2) (N := some 52) (v := ?_) (a' := ?_) #[false, true, true, false, false, false, false, false, false, false, false, false, false] rfl rfl (by kernel_rfl) (fun _ _ _ h => h) (Or.inl ⟨by rfl, ?_⟩) ?_ ?_
      rotate_left
      · intro w'
        go_simp
        with_reducible rfl
      rotate_left
      · simp only [Act.put, List.setIfInBounds_toArray, List.set_cons_zero, List.set_cons_succ, i64_w, i32_w]
        rfl
      refine pure_ (i := 3) (N := some 53) (v := ?_) (a' := ?_) #[false, true, true, true, false, false, false, false, false, false, false, false, false] rfl rfl (by kernel_rfl) (fun _ _ _ h => h) (Or.inl ⟨by rfl, ?_⟩) ?_ ?_
      rotate_left
      · intro w'
        go_simp
        with_reducible rfl
      rotate_left
      · simp only [Act.put, List.setIfInBounds_toArray, List.set_cons_zero, List.set_cons_succ, i64_w, i32_w]
        rfl
      refine take_ (i := 0) (N := some 50) (v := ?_) (a' := ?_) #[true, true, true, true, false, false, false, false, false, false, false, false, false] rfl rfl (by kernel_rfl) (fun _ _ _ h => h) (Or.inl ⟨by rfl, ?_⟩) hHeld ?_ ?_
      rotate_left
      · rintro w' ⟨s0, s1, s2, s3, s4⟩
        go_simp
        with_reducible rfl
      rotate_left
      · simp only [Act.put, List.setIfInBounds_toArray, List.set_cons_zero, List.set_cons_succ, i64_w, i32_w]
        rfl
      refine take_ (i := 4) (N := some 54) (v := ?_) (a' := ?_) #[true, true, true, true, true, false, false, false, false, false, false, false, false] rfl rfl (by kernel_rfl) (fun _ _ _ h => h) (Or.inl ⟨by rfl, ?_⟩) hHeld ?_ ?_
      rotate_left
      · rintro w' ⟨s0, s1, s2, s3, s4⟩
        go_simp
        with_reducible rfl
      rotate_left
      · simp only [Act.put, List.setIfInBounds_toArray, List.set_cons_zero, List.set_cons_succ, i64_w, i32_w]
        rfl
      refine join_ (σ := Nat × Nat) 2 #[true, true, true, true, true, true, true, true, true, true, true, false, false] (fun s => [(55, .tuple #[.agg #[.int .i64 qb.x0, .int .i64 qb.x1, .int .i64 qb.x2, .int .i64 qb.e], .agg #[.int .i64 qw.x0, .int .i64 qw.x1, .int .i64 qw.x2, .int .i64 qw.e]]), (49, .tuple #[.agg #[.int .i64 qb.x0, .int .i64 qb.x1, .int .i64 qb.x2, .int .i64 qb.e], .agg #[.int .i64 qw.x0, .int .i64 qw.x1, .int .i64 qw.x2, .int .i64 qw.e]]), (56, .agg #[.int .i64 qb.x0, .int .i64 qb.x1, .int .i64 qb.x2, .int .i64 qb.e]), (57, .agg #[.int .i64 qw.x0, .int .i64 qw.x1, .int .i64 qw.x2, .int .i64 qw.e]), (13, .pointer (some ⟨s.1, 0, none⟩)), (14, .pointer (some ⟨s.2, 0, none⟩))]) (fun s w' => Below w_5.heap.size w_5 w' ∧ w'.heap[s.1]? = some (.cells #[.int .i64 0, .int .i64 0, .int .i64 0, .int .i64 0] 101 (0, 0)) ∧ w'.heap[s.2]? = some (.cells #[.int .i64 0, .int .i64 0, .int .i64 0, .int .i64 0] 101 (0, 0)) ∧ w_5.heap.size ≤ s.1 ∧ w_5.heap.size ≤ s.2 ∧ s.1 ≠ s.2) ?_ ?_
      rotate_left
      · intro hCont
        refine three_ (i := 5) (j := 9) (k := 10) (Ni := some 55) (Nj := some 13) (Nk := some 14) #[true, true, true, true, true, true, false, false, false, false, false, false, false] #[true, true, true, true, true, false, false, false, false, true, false, false, false] #[true, true, true, true, true, false, false, false, false, false, true, false, false] rfl rfl rfl rfl rfl rfl (by kernel_rfl) (by decide) (by decide) (by decide) (fun K hK => ?_) (fun K hK => ?_) (fun K hK => ?_)
        · skip
          refine goes_ Try.func127 (by kernel_rfl) rfl #[.agg #[.int .i64 q.x0, .int .i64 q.x1, .int .i64 q.x2, .int .i64 q.e], .int .i64 (h : Int), .int .i64 f] (by rfl) rfl rfl (by simp only [List.map_toArray, List.map_cons, List.map_nil]; rfl) ?_
          with_reducible refine (HPA.out w_5.drew).mono ?_
          rintro e_ u_5 ⟨rfl, hb_5⟩
          refine ⟨_, rfl, ?_⟩
          refine hK.out _ _ ⟨(blk_cell (Hx.b_below hb_5 (B4.out)) 0).trans rfl, (blk_cell (Hx.b_below hb_5 (B4.out)) 1).trans rfl, (blk_cell (Hx.b_below hb_5 (B4.out)) 2).trans rfl, (blk_cell (Hx.b_below hb_5 (B4.out)) 3).trans rfl, (blk_cell (Hx.b_below hb_5 (R2.out)) 1).trans Y1.out⟩ (fun hHeld => ?_)
          clear hK K
          refine norm_ (a' := ?_) ?_ ?_
          rotate_left
          · show Act.put _ (some 55) _ = _
            simp only [Act.put, List.setIfInBounds_toArray, List.set_cons_zero, List.set_cons_succ, i64_w, i32_w]
            rfl
          refine pure_ (i := 6) (N := some 49) (v := ?_) (a' := ?_) #[true, true, true, true, true, true, true, false, false, false, false, false, false] rfl rfl (by kernel_rfl) (fun _ _ _ h => h) (Or.inl ⟨by rfl, ?_⟩) ?_ ?_
          rotate_left
          · intro w'
            go_simp
            with_reducible rfl
          rotate_left
          · simp only [Act.put, List.setIfInBounds_toArray, List.set_cons_zero, List.set_cons_succ, i64_w, i32_w]
            rfl
          refine pure_ (i := 7) (N := some 56) (v := ?_) (a' := ?_) #[true, true, true, true, true, true, true, true, false, false, false, false, false] rfl rfl (by kernel_rfl) (fun _ _ _ h => h) (Or.inl ⟨by rfl, ?_⟩) ?_ ?_
          rotate_left
          · intro w'
            go_simp
            with_reducible rfl
          rotate_left
          · simp only [Act.put, List.setIfInBounds_toArray, List.set_cons_zero, List.set_cons_succ, i64_w, i32_w]
            rfl
          refine pure_ (i := 8) (N := some 57) (v := ?_) (a' := ?_) #[true, true, true, true, true, true, true, true, true, false, false, false, false] rfl rfl (by kernel_rfl) (fun _ _ _ h => h) (Or.inl ⟨by rfl, ?_⟩) ?_ ?_
          rotate_left
          · intro w'
            go_simp
            with_reducible rfl
          rotate_left
          · simp only [Act.put, List.setIfInBounds_toArray, List.set_cons_zero, List.set_cons_succ, i64_w, i32_w]
            rfl
          refine two_ (i := 9) (j := 10) (Ni := some 13) (Nj := some 14) #[true, true, true, true, true, true, true, true, true, true, false, false, false] #[true, true, true, true, true, true, true, true, true, false, true, false, false] rfl rfl rfl rfl (by kernel_rfl) (by decide) (by decide) (fun K hK => ?_) (fun K hK => ?_)
          · skip
            refine value_ (w1 := ?_) (v := ?_) (by rfl) rfl ?_ ?_
            rotate_left 2
            · go_simp
              constructor
              · rfl
              · rfl
            have hb_5_9 := below_alloc (Below.refl u_5.heap.size u_5) (Obj.cells #[.int .i64 0, .int .i64 0, .int .i64 0, .int .i64 0] 101 (0, 0))
            have bk_5_9 := blk_new u_5 (Obj.cells #[.int .i64 0, .int .i64 0, .int .i64 0, .int .i64 0] 101 (0, 0))
            generalize u_5.alloc (Obj.cells #[.int .i64 0, .int .i64 0, .int .i64 0, .int .i64 0] 101 (0, 0)) = u_5_9 at hb_5_9 bk_5_9 ⊢
            refine hK.out _ _ ⟨(blk_cell (Hx.b_below hb_5_9 (Hx.b_below hb_5 (B4.out))) 0).trans rfl, (blk_cell (Hx.b_below hb_5_9 (Hx.b_below hb_5 (B4.out))) 1).trans rfl, (blk_cell (Hx.b_below hb_5_9 (Hx.b_below hb_5 (B4.out))) 2).trans rfl, (blk_cell (Hx.b_below hb_5_9 (Hx.b_below hb_5 (B4.out))) 3).trans rfl, (blk_cell (Hx.b_below hb_5_9 (Hx.b_below hb_5 (R2.out))) 1).trans Y1.out⟩ (fun hHeld => ?_)
            clear hK K
            refine norm_ (a' := ?_) ?_ ?_
            rotate_left
            · show Act.put _ (some 13) _ = _
              simp only [Act.put, List.setIfInBounds_toArray, List.set_cons_zero, List.set_cons_succ, i64_w, i32_w]
              rfl
            refine one_ (i := 10) (N := some 14) #[true, true, true, true, true, true, true, true, true, true, true, false, false] rfl rfl (by kernel_rfl) (by decide) (fun K hK => ?_)
            refine value_ (w1 := ?_) (v := ?_) (by rfl) rfl ?_ ?_
            rotate_left 2
            · go_simp
              constructor
              · rfl
              · rfl
            have hb_5_9_10 := below_alloc (Below.refl u_5_9.heap.size u_5_9) (Obj.cells #[.int .i64 0, .int .i64 0, .int .i64 0, .int .i64 0] 101 (0, 0))
            have bk_5_9_10 := blk_new u_5_9 (Obj.cells #[.int .i64 0, .int .i64 0, .int .i64 0, .int .i64 0] 101 (0, 0))
            generalize u_5_9.alloc (Obj.cells #[.int .i64 0, .int .i64 0, .int .i64 0, .int .i64 0] 101 (0, 0)) = u_5_9_10 at hb_5_9_10 bk_5_9_10 ⊢
            refine hK.out _ _ ⟨(blk_cell (Hx.b_below hb_5_9_10 (Hx.b_below hb_5_9 (Hx.b_below hb_5 (B4.out)))) 0).trans rfl, (blk_cell (Hx.b_below hb_5_9_10 (Hx.b_below hb_5_9 (Hx.b_below hb_5 (B4.out)))) 1).trans rfl, (blk_cell (Hx.b_below hb_5_9_10 (Hx.b_below hb_5_9 (Hx.b_below hb_5 (B4.out)))) 2).trans rfl, (blk_cell (Hx.b_below hb_5_9_10 (Hx.b_below hb_5_9 (Hx.b_below hb_5 (B4.out)))) 3).trans rfl, (blk_cell (Hx.b_below hb_5_9_10 (Hx.b_below hb_5_9 (Hx.b_below hb_5 (R2.out)))) 1).trans Y1.out⟩ (fun hHeld => ?_)
            clear hK K
            refine norm_ (a' := ?_) ?_ ?_
            rotate_left
            · show Act.put _ (some 14) _ = _
              simp only [Act.put, List.setIfInBounds_toArray, List.set_cons_zero, List.set_cons_succ, i64_w, i32_w]
              rfl
            exact norm_ (by simp only [putAll, Act.put, List.setIfInBounds_toArray, List.set_cons_zero, List.set_cons_succ]) (hCont (u_5.heap.size, u_5_9.heap.size) _ ⟨Hx.bb_below hb_5_9_10 (Hx.bb_below hb_5_9 (Hx.bb_below hb_5 (below_drew1 (Below.refl _ _)))), Hx.b_below hb_5_9_10 (bk_5_9), bk_5_9_10, by have e_ : w_5.drew.heap.size = w_5.heap.size := rfl; have := hb_5.size; have := hb_5_9.size; have := hb_5_9_10.size; have := blk_lt bk_5_9; have := blk_lt bk_5_9_10; simp only; omega⟩)
          · skip
            refine value_ (w1 := ?_) (v := ?_) (by rfl) rfl ?_ ?_
            rotate_left 2
            · go_simp
              constructor
              · rfl
              · rfl
            have hb_5_10 := below_alloc (Below.refl u_5.heap.size u_5) (Obj.cells #[.int .i64 0, .int .i64 0, .int .i64 0, .int .i64 0] 101 (0, 0))
            have bk_5_10 := blk_new u_5 (Obj.cells #[.int .i64 0, .int .i64 0, .int .i64 0, .int .i64 0] 101 (0, 0))
            generalize u_5.alloc (Obj.cells #[.int .i64 0, .int .i64 0, .int .i64 0, .int .i64 0] 101 (0, 0)) = u_5_10 at hb_5_10 bk_5_10 ⊢
            refine hK.out _ _ ⟨(blk_cell (Hx.b_below hb_5_10 (Hx.b_below hb_5 (B4.out))) 0).trans rfl, (blk_cell (Hx.b_below hb_5_10 (Hx.b_below hb_5 (B4.out))) 1).trans rfl, (blk_cell (Hx.b_below hb_5_10 (Hx.b_below hb_5 (B4.out))) 2).trans rfl, (blk_cell (Hx.b_below hb_5_10 (Hx.b_below hb_5 (B4.out))) 3).trans rfl, (blk_cell (Hx.b_below hb_5_10 (Hx.b_below hb_5 (R2.out))) 1).trans Y1.out⟩ (fun hHeld => ?_)
            clear hK K
            refine norm_ (a' := ?_) ?_ ?_
            rotate_left
            · show Act.put _ (some 14) _ = _
              simp only [Act.put, List.setIfInBounds_toArray, List.set_cons_zero, List.set_cons_succ, i64_w, i32_w]
              rfl
            refine one_ (i := 9) (N := some 13) #[true, true, true, true, true, true, true, true, true, true, true, false, false] rfl rfl (by kernel_rfl) (by decide) (fun K hK => ?_)
            refine value_ (w1 := ?_) (v := ?_) (by rfl) rfl ?_ ?_
            rotate_left 2
            · go_simp
              constructor
              · rfl
              · rfl
            have hb_5_10_9 := below_alloc (Below.refl u_5_10.heap.size u_5_10) (Obj.cells #[.int .i64 0, .int .i64 0, .int .i64 0, .int .i64 0] 101 (0, 0))
            have bk_5_10_9 := blk_new u_5_10 (Obj.cells #[.int .i64 0, .int .i64 0, .int .i64 0, .int .i64 0] 101 (0, 0))
            generalize u_5_10.alloc (Obj.cells #[.int .i64 0, .int .i64 0, .int .i64 0, .int .i64 0] 101 (0, 0)) = u_5_10_9 at hb_5_10_9 bk_5_10_9 ⊢
            refine hK.out _ _ ⟨(blk_cell (Hx.b_below hb_5_10_9 (Hx.b_below hb_5_10 (Hx.b_below hb_5 (B4.out)))) 0).trans rfl, (blk_cell (Hx.b_below hb_5_10_9 (Hx.b_below hb_5_10 (Hx.b_below hb_5 (B4.out)))) 1).trans rfl, (blk_cell (Hx.b_below hb_5_10_9 (Hx.b_below hb_5_10 (Hx.b_below hb_5 (B4.out)))) 2).trans rfl, (blk_cell (Hx.b_below hb_5_10_9 (Hx.b_below hb_5_10 (Hx.b_below hb_5 (B4.out)))) 3).trans rfl, (blk_cell (Hx.b_below hb_5_10_9 (Hx.b_below hb_5_10 (Hx.b_below hb_5 (R2.out)))) 1).trans Y1.out⟩ (fun hHeld => ?_)
            clear hK K
            refine norm_ (a' := ?_) ?_ ?_
            rotate_left
            · show Act.put _ (some 13) _ = _
              simp only [Act.put, List.setIfInBounds_toArray, List.set_cons_zero, List.set_cons_succ, i64_w, i32_w]
              rfl
            exact norm_ (by simp only [putAll, Act.put, List.setIfInBounds_toArray, List.set_cons_zero, List.set_cons_succ]) (hCont (u_5_10.heap.size, u_5.heap.size) _ ⟨Hx.bb_below hb_5_10_9 (Hx.bb_below hb_5_10 (Hx.bb_below hb_5 (below_drew1 (Below.refl _ _)))), bk_5_10_9, Hx.b_below hb_5_10_9 (bk_5_10), by have e_ : w_5.drew.heap.size = w_5.heap.size := rfl; have := hb_5.size; have := hb_5_10.size; have := hb_5_10_9.size; have := blk_lt bk_5_10_9; have := blk_lt bk_5_10; simp only; omega⟩)
        · skip
          refine value_ (w1 := ?_) (v := ?_) (by rfl) rfl ?_ ?_
          rotate_left 2
          · go_simp
            constructor
            · rfl
            · rfl
          have hb_9 := below_drew1 (below_alloc (Below.refl w_5.heap.size w_5) (Obj.cells #[.int .i64 0, .int .i64 0, .int .i64 0, .int .i64 0] 101 (0, 0)))
          have bk_9 := blk_drew (blk_new w_5 (Obj.cells #[.int .i64 0, .int .i64 0, .int .i64 0, .int .i64 0] 101 (0, 0)))
          generalize (w_5.alloc (Obj.cells #[.int .i64 0, .int .i64 0, .int .i64 0, .int .i64 0] 101 (0, 0))).drew = u_9 at hb_9 bk_9 ⊢
          refine hK.out _ _ ⟨(blk_cell (Hx.b_below hb_9 (B4.out)) 0).trans rfl, (blk_cell (Hx.b_below hb_9 (B4.out)) 1).trans rfl, (blk_cell (Hx.b_below hb_9 (B4.out)) 2).trans rfl, (blk_cell (Hx.b_below hb_9 (B4.out)) 3).trans rfl, (blk_cell (Hx.b_below hb_9 (R2.out)) 1).trans Y1.out⟩ (fun hHeld => ?_)
          clear hK K
          refine norm_ (a' := ?_) ?_ ?_
          rotate_left
          · show Act.put _ (some 13) _ = _
            simp only [Act.put, List.setIfInBounds_toArray, List.set_cons_zero, List.set_cons_succ, i64_w, i32_w]
            rfl
          refine two_ (i := 5) (j := 10) (Ni := some 55) (Nj := some 14) #[true, true, true, true, true, true, false, false, false, true, false, false, false] #[true, true, true, true, true, false, false, false, false, true, true, false, false] rfl rfl rfl rfl (by kernel_rfl) (by decide) (by decide) (fun K hK => ?_) (fun K hK => ?_)
          · skip
            refine goes_ Try.func127 (by kernel_rfl) rfl #[.agg #[.int .i64 q.x0, .int .i64 q.x1, .int .i64 q.x2, .int .i64 q.e], .int .i64 (h : Int), .int .i64 f] (by rfl) rfl rfl (by simp only [List.map_toArray, List.map_cons, List.map_nil]; rfl) ?_
            with_reducible refine (HPA.out u_9).mono ?_
            rintro e_ u_9_5 ⟨rfl, hb_9_5⟩
            refine ⟨_, rfl, ?_⟩
            refine hK.out _ _ ⟨(blk_cell (Hx.b_below hb_9_5 (Hx.b_below hb_9 (B4.out))) 0).trans rfl, (blk_cell (Hx.b_below hb_9_5 (Hx.b_below hb_9 (B4.out))) 1).trans rfl, (blk_cell (Hx.b_below hb_9_5 (Hx.b_below hb_9 (B4.out))) 2).trans rfl, (blk_cell (Hx.b_below hb_9_5 (Hx.b_below hb_9 (B4.out))) 3).trans rfl, (blk_cell (Hx.b_below hb_9_5 (Hx.b_below hb_9 (R2.out))) 1).trans Y1.out⟩ (fun hHeld => ?_)
            clear hK K
            refine norm_ (a' := ?_) ?_ ?_
            rotate_left
            · show Act.put _ (some 55) _ = _
              simp only [Act.put, List.setIfInBounds_toArray, List.set_cons_zero, List.set_cons_succ, i64_w, i32_w]
              rfl
            refine pure_ (i := 6) (N := some 49) (v := ?_) (a' := ?_) #[true, true, true, true, true, true, true, false, false, true, false, false, false] rfl rfl (by kernel_rfl) (fun _ _ _ h => h) (Or.inl ⟨by rfl, ?_⟩) ?_ ?_
            rotate_left
            · intro w'
              go_simp
              with_reducible rfl
            rotate_left
            · simp only [Act.put, List.setIfInBounds_toArray, List.set_cons_zero, List.set_cons_succ, i64_w, i32_w]
              rfl
            refine pure_ (i := 7) (N := some 56) (v := ?_) (a' := ?_) #[true, true, true, true, true, true, true, true, false, true, false, false, false] rfl rfl (by kernel_rfl) (fun _ _ _ h => h) (Or.inl ⟨by rfl, ?_⟩) ?_ ?_
            rotate_left
            · intro w'
              go_simp
              with_reducible rfl
            rotate_left
            · simp only [Act.put, List.setIfInBounds_toArray, List.set_cons_zero, List.set_cons_succ, i64_w, i32_w]
              rfl
            refine pure_ (i := 8) (N := some 57) (v := ?_) (a' := ?_) #[true, true, true, true, true, true, true, true, true, true, false, false, false] rfl rfl (by kernel_rfl) (fun _ _ _ h => h) (Or.inl ⟨by rfl, ?_⟩) ?_ ?_
            rotate_left
            · intro w'
              go_simp
              with_reducible rfl
            rotate_left
            · simp only [Act.put, List.setIfInBounds_toArray, List.set_cons_zero, List.set_cons_succ, i64_w, i32_w]
              rfl
            refine one_ (i := 10) (N := some 14) #[true, true, true, true, true, true, true, true, true, true, true, false, false] rfl rfl (by kernel_rfl) (by decide) (fun K hK => ?_)
            refine value_ (w1 := ?_) (v := ?_) (by rfl) rfl ?_ ?_
            rotate_left 2
            · go_simp
              constructor
              · rfl
              · rfl
            have hb_9_5_10 := below_alloc (Below.refl u_9_5.heap.size u_9_5) (Obj.cells #[.int .i64 0, .int .i64 0, .int .i64 0, .int .i64 0] 101 (0, 0))
            have bk_9_5_10 := blk_new u_9_5 (Obj.cells #[.int .i64 0, .int .i64 0, .int .i64 0, .int .i64 0] 101 (0, 0))
            generalize u_9_5.alloc (Obj.cells #[.int .i64 0, .int .i64 0, .int .i64 0, .int .i64 0] 101 (0, 0)) = u_9_5_10 at hb_9_5_10 bk_9_5_10 ⊢
            refine hK.out _ _ ⟨(blk_cell (Hx.b_below hb_9_5_10 (Hx.b_below hb_9_5 (Hx.b_below hb_9 (B4.out)))) 0).trans rfl, (blk_cell (Hx.b_below hb_9_5_10 (Hx.b_below hb_9_5 (Hx.b_below hb_9 (B4.out)))) 1).trans rfl, (blk_cell (Hx.b_below hb_9_5_10 (Hx.b_below hb_9_5 (Hx.b_below hb_9 (B4.out)))) 2).trans rfl, (blk_cell (Hx.b_below hb_9_5_10 (Hx.b_below hb_9_5 (Hx.b_below hb_9 (B4.out)))) 3).trans rfl, (blk_cell (Hx.b_below hb_9_5_10 (Hx.b_below hb_9_5 (Hx.b_below hb_9 (R2.out)))) 1).trans Y1.out⟩ (fun hHeld => ?_)
            clear hK K
            refine norm_ (a' := ?_) ?_ ?_
            rotate_left
            · show Act.put _ (some 14) _ = _
              simp only [Act.put, List.setIfInBounds_toArray, List.set_cons_zero, List.set_cons_succ, i64_w, i32_w]
              rfl
            exact norm_ (by simp only [putAll, Act.put, List.setIfInBounds_toArray, List.set_cons_zero, List.set_cons_succ]) (hCont (w_5.heap.size, u_9_5.heap.size) _ ⟨Hx.bb_below hb_9_5_10 (Hx.bb_below hb_9_5 (hb_9)), Hx.b_below hb_9_5_10 (Hx.b_below hb_9_5 (bk_9)), bk_9_5_10, by have e_ : w_5.drew.heap.size = w_5.heap.size := rfl; have := hb_9.size; have := hb_9_5.size; have := hb_9_5_10.size; have := blk_lt bk_9; have := blk_lt bk_9_5_10; simp only; omega⟩)
          · skip
            refine value_ (w1 := ?_) (v := ?_) (by rfl) rfl ?_ ?_
            rotate_left 2
            · go_simp
              constructor
              · rfl
              · rfl
            have hb_9_10 := below_alloc (Below.refl u_9.heap.size u_9) (Obj.cells #[.int .i64 0, .int .i64 0, .int .i64 0, .int .i64 0] 101 (0, 0))
            have bk_9_10 := blk_new u_9 (Obj.cells #[.int .i64 0, .int .i64 0, .int .i64 0, .int .i64 0] 101 (0, 0))
            generalize u_9.alloc (Obj.cells #[.int .i64 0, .int .i64 0, .int .i64 0, .int .i64 0] 101 (0, 0)) = u_9_10 at hb_9_10 bk_9_10 ⊢
            refine hK.out _ _ ⟨(blk_cell (Hx.b_below hb_9_10 (Hx.b_below hb_9 (B4.out))) 0).trans rfl, (blk_cell (Hx.b_below hb_9_10 (Hx.b_below hb_9 (B4.out))) 1).trans rfl, (blk_cell (Hx.b_below hb_9_10 (Hx.b_below hb_9 (B4.out))) 2).trans rfl, (blk_cell (Hx.b_below hb_9_10 (Hx.b_below hb_9 (B4.out))) 3).trans rfl, (blk_cell (Hx.b_below hb_9_10 (Hx.b_below hb_9 (R2.out))) 1).trans Y1.out⟩ (fun hHeld => ?_)
            clear hK K
            refine norm_ (a' := ?_) ?_ ?_
            rotate_left
            · show Act.put _ (some 14) _ = _
              simp only [Act.put, List.setIfInBounds_toArray, List.set_cons_zero, List.set_cons_succ, i64_w, i32_w]
              rfl
            refine one_ (i := 5) (N := some 55) #[true, true, true, true, true, true, false, false, false, true, true, false, false] rfl rfl (by kernel_rfl) (by decide) (fun K hK => ?_)
            refine goes_ Try.func127 (by kernel_rfl) rfl #[.agg #[.int .i64 q.x0, .int .i64 q.x1, .int .i64 q.x2, .int .i64 q.e], .int .i64 (h : Int), .int .i64 f] (by rfl) rfl rfl (by simp only [List.map_toArray, List.map_cons, List.map_nil]; rfl) ?_
            with_reducible refine (HPA.out u_9_10).mono ?_
            rintro e_ u_9_10_5 ⟨rfl, hb_9_10_5⟩
            refine ⟨_, rfl, ?_⟩
            refine hK.out _ _ ⟨(blk_cell (Hx.b_below hb_9_10_5 (Hx.b_below hb_9_10 (Hx.b_below hb_9 (B4.out)))) 0).trans rfl, (blk_cell (Hx.b_below hb_9_10_5 (Hx.b_below hb_9_10 (Hx.b_below hb_9 (B4.out)))) 1).trans rfl, (blk_cell (Hx.b_below hb_9_10_5 (Hx.b_below hb_9_10 (Hx.b_below hb_9 (B4.out)))) 2).trans rfl, (blk_cell (Hx.b_below hb_9_10_5 (Hx.b_below hb_9_10 (Hx.b_below hb_9 (B4.out)))) 3).trans rfl, (blk_cell (Hx.b_below hb_9_10_5 (Hx.b_below hb_9_10 (Hx.b_below hb_9 (R2.out)))) 1).trans Y1.out⟩ (fun hHeld => ?_)
            clear hK K
            refine norm_ (a' := ?_) ?_ ?_
            rotate_left
            · show Act.put _ (some 55) _ = _
              simp only [Act.put, List.setIfInBounds_toArray, List.set_cons_zero, List.set_cons_succ, i64_w, i32_w]
              rfl
            refine pure_ (i := 6) (N := some 49) (v := ?_) (a' := ?_) #[true, true, true, true, true, true, true, false, false, true, true, false, false] rfl rfl (by kernel_rfl) (fun _ _ _ h => h) (Or.inl ⟨by rfl, ?_⟩) ?_ ?_
            rotate_left
            · intro w'
              go_simp
              with_reducible rfl
            rotate_left
            · simp only [Act.put, List.setIfInBounds_toArray, List.set_cons_zero, List.set_cons_succ, i64_w, i32_w]
              rfl
            refine pure_ (i := 7) (N := some 56) (v := ?_) (a' := ?_) #[true, true, true, true, true, true, true, true, false, true, true, false, false] rfl rfl (by kernel_rfl) (fun _ _ _ h => h) (Or.inl ⟨by rfl, ?_⟩) ?_ ?_
            rotate_left
            · intro w'
              go_simp
              with_reducible rfl
            rotate_left
            · simp only [Act.put, List.setIfInBounds_toArray, List.set_cons_zero, List.set_cons_succ, i64_w, i32_w]
              rfl
            refine pure_ (i := 8) (N := some 57) (v := ?_) (a' := ?_) #[true, true, true, true, true, true, true, true, true, true, true, false, false] rfl rfl (by kernel_rfl) (fun _ _ _ h => h) (Or.inl ⟨by rfl, ?_⟩) ?_ ?_
            rotate_left
            · intro w'
              go_simp
              with_reducible rfl
            rotate_left
            · simp only [Act.put, List.setIfInBounds_toArray, List.set_cons_zero, List.set_cons_succ, i64_w, i32_w]
              rfl
            exact norm_ (by simp only [putAll, Act.put, List.setIfInBounds_toArray, List.set_cons_zero, List.set_cons_succ]) (hCont (w_5.heap.size, u_9.heap.size) _ ⟨Hx.bb_below hb_9_10_5 (Hx.bb_below hb_9_10 (hb_9)), Hx.b_below hb_9_10_5 (Hx.b_below hb_9_10 (bk_9)), Hx.b_below hb_9_10_5 (bk_9_10), by have e_ : w_5.drew.heap.size = w_5.heap.size := rfl; have := hb_9.size; have := hb_9_10.size; have := hb_9_10_5.size; have := blk_lt bk_9; have := blk_lt bk_9_10; simp only; omega⟩)
        · skip
          refine value_ (w1 := ?_) (v := ?_) (by rfl) rfl ?_ ?_
          rotate_left 2
          · go_simp
            constructor
            · rfl
            · rfl
          have hb_10 := below_drew1 (below_alloc (Below.refl w_5.heap.size w_5) (Obj.cells #[.int .i64 0, .int .i64 0, .int .i64 0, .int .i64 0] 101 (0, 0)))
          have bk_10 := blk_drew (blk_new w_5 (Obj.cells #[.int .i64 0, .int .i64 0, .int .i64 0, .int .i64 0] 101 (0, 0)))
          generalize (w_5.alloc (Obj.cells #[.int .i64 0, .int .i64 0, .int .i64 0, .int .i64 0] 101 (0, 0))).drew = u_10 at hb_10 bk_10 ⊢
          refine hK.out _ _ ⟨(blk_cell (Hx.b_below hb_10 (B4.out)) 0).trans rfl, (blk_cell (Hx.b_below hb_10 (B4.out)) 1).trans rfl, (blk_cell (Hx.b_below hb_10 (B4.out)) 2).trans rfl, (blk_cell (Hx.b_below hb_10 (B4.out)) 3).trans rfl, (blk_cell (Hx.b_below hb_10 (R2.out)) 1).trans Y1.out⟩ (fun hHeld => ?_)
          clear hK K
          refine norm_ (a' := ?_) ?_ ?_
          rotate_left
          · show Act.put _ (some 14) _ = _
            simp only [Act.put, List.setIfInBounds_toArray, List.set_cons_zero, List.set_cons_succ, i64_w, i32_w]
            rfl
          refine two_ (i := 5) (j := 9) (Ni := some 55) (Nj := some 13) #[true, true, true, true, true, true, false, false, false, false, true, false, false] #[true, true, true, true, true, false, false, false, false, true, true, false, false] rfl rfl rfl rfl (by kernel_rfl) (by decide) (by decide) (fun K hK => ?_) (fun K hK => ?_)
          · skip
            refine goes_ Try.func127 (by kernel_rfl) rfl #[.agg #[.int .i64 q.x0, .int .i64 q.x1, .int .i64 q.x2, .int .i64 q.e], .int .i64 (h : Int), .int .i64 f] (by rfl) rfl rfl (by simp only [List.map_toArray, List.map_cons, List.map_nil]; rfl) ?_
            with_reducible refine (HPA.out u_10).mono ?_
            rintro e_ u_10_5 ⟨rfl, hb_10_5⟩
            refine ⟨_, rfl, ?_⟩
            refine hK.out _ _ ⟨(blk_cell (Hx.b_below hb_10_5 (Hx.b_below hb_10 (B4.out))) 0).trans rfl, (blk_cell (Hx.b_below hb_10_5 (Hx.b_below hb_10 (B4.out))) 1).trans rfl, (blk_cell (Hx.b_below hb_10_5 (Hx.b_below hb_10 (B4.out))) 2).trans rfl, (blk_cell (Hx.b_below hb_10_5 (Hx.b_below hb_10 (B4.out))) 3).trans rfl, (blk_cell (Hx.b_below hb_10_5 (Hx.b_below hb_10 (R2.out))) 1).trans Y1.out⟩ (fun hHeld => ?_)
            clear hK K
            refine norm_ (a' := ?_) ?_ ?_
            rotate_left
            · show Act.put _ (some 55) _ = _
              simp only [Act.put, List.setIfInBounds_toArray, List.set_cons_zero, List.set_cons_succ, i64_w, i32_w]
              rfl
            refine pure_ (i := 6) (N := some 49) (v := ?_) (a' := ?_) #[true, true, true, true, true, true, true, false, false, false, true, false, false] rfl rfl (by kernel_rfl) (fun _ _ _ h => h) (Or.inl ⟨by rfl, ?_⟩) ?_ ?_
            rotate_left
            · intro w'
              go_simp
              with_reducible rfl
            rotate_left
            · simp only [Act.put, List.setIfInBounds_toArray, List.set_cons_zero, List.set_cons_succ, i64_w, i32_w]
              rfl
            refine pure_ (i := 7) (N := some 56) (v := ?_) (a' := ?_) #[true, true, true, true, true, true, true, true, false, false, true, false, false] rfl rfl (by kernel_rfl) (fun _ _ _ h => h) (Or.inl ⟨by rfl, ?_⟩) ?_ ?_
            rotate_left
            · intro w'
              go_simp
              with_reducible rfl
            rotate_left
            · simp only [Act.put, List.setIfInBounds_toArray, List.set_cons_zero, List.set_cons_succ, i64_w, i32_w]
              rfl
            refine pure_ (i := 8) (N := some 57) (v := ?_) (a' := ?_) #[true, true, true, true, true, true, true, true, true, false, true, false, false] rfl rfl (by kernel_rfl) (fun _ _ _ h => h) (Or.inl ⟨by rfl, ?_⟩) ?_ ?_
            rotate_left
            · intro w'
              go_simp
              with_reducible rfl
            rotate_left
            · simp only [Act.put, List.setIfInBounds_toArray, List.set_cons_zero, List.set_cons_succ, i64_w, i32_w]
              rfl
            refine one_ (i := 9) (N := some 13) #[true, true, true, true, true, true, true, true, true, true, true, false, false] rfl rfl (by kernel_rfl) (by decide) (fun K hK => ?_)
            refine value_ (w1 := ?_) (v := ?_) (by rfl) rfl ?_ ?_
            rotate_left 2
            · go_simp
              constructor
              · rfl
              · rfl
            have hb_10_5_9 := below_alloc (Below.refl u_10_5.heap.size u_10_5) (Obj.cells #[.int .i64 0, .int .i64 0, .int .i64 0, .int .i64 0] 101 (0, 0))
            have bk_10_5_9 := blk_new u_10_5 (Obj.cells #[.int .i64 0, .int .i64 0, .int .i64 0, .int .i64 0] 101 (0, 0))
            generalize u_10_5.alloc (Obj.cells #[.int .i64 0, .int .i64 0, .int .i64 0, .int .i64 0] 101 (0, 0)) = u_10_5_9 at hb_10_5_9 bk_10_5_9 ⊢
            refine hK.out _ _ ⟨(blk_cell (Hx.b_below hb_10_5_9 (Hx.b_below hb_10_5 (Hx.b_below hb_10 (B4.out)))) 0).trans rfl, (blk_cell (Hx.b_below hb_10_5_9 (Hx.b_below hb_10_5 (Hx.b_below hb_10 (B4.out)))) 1).trans rfl, (blk_cell (Hx.b_below hb_10_5_9 (Hx.b_below hb_10_5 (Hx.b_below hb_10 (B4.out)))) 2).trans rfl, (blk_cell (Hx.b_below hb_10_5_9 (Hx.b_below hb_10_5 (Hx.b_below hb_10 (B4.out)))) 3).trans rfl, (blk_cell (Hx.b_below hb_10_5_9 (Hx.b_below hb_10_5 (Hx.b_below hb_10 (R2.out)))) 1).trans Y1.out⟩ (fun hHeld => ?_)
            clear hK K
            refine norm_ (a' := ?_) ?_ ?_
            rotate_left
            · show Act.put _ (some 13) _ = _
              simp only [Act.put, List.setIfInBounds_toArray, List.set_cons_zero, List.set_cons_succ, i64_w, i32_w]
              rfl
            exact norm_ (by simp only [putAll, Act.put, List.setIfInBounds_toArray, List.set_cons_zero, List.set_cons_succ]) (hCont (u_10_5.heap.size, w_5.heap.size) _ ⟨Hx.bb_below hb_10_5_9 (Hx.bb_below hb_10_5 (hb_10)), bk_10_5_9, Hx.b_below hb_10_5_9 (Hx.b_below hb_10_5 (bk_10)), by have e_ : w_5.drew.heap.size = w_5.heap.size := rfl; have := hb_10.size; have := hb_10_5.size; have := hb_10_5_9.size; have := blk_lt bk_10_5_9; have := blk_lt bk_10; simp only; omega⟩)
          · skip
            refine value_ (w1 := ?_) (v := ?_) (by rfl) rfl ?_ ?_
            rotate_left 2
            · go_simp
              constructor
              · rfl
              · rfl
            have hb_10_9 := below_alloc (Below.refl u_10.heap.size u_10) (Obj.cells #[.int .i64 0, .int .i64 0, .int .i64 0, .int .i64 0] 101 (0, 0))
            have bk_10_9 := blk_new u_10 (Obj.cells #[.int .i64 0, .int .i64 0, .int .i64 0, .int .i64 0] 101 (0, 0))
            generalize u_10.alloc (Obj.cells #[.int .i64 0, .int .i64 0, .int .i64 0, .int .i64 0] 101 (0, 0)) = u_10_9 at hb_10_9 bk_10_9 ⊢
            refine hK.out _ _ ⟨(blk_cell (Hx.b_below hb_10_9 (Hx.b_below hb_10 (B4.out))) 0).trans rfl, (blk_cell (Hx.b_below hb_10_9 (Hx.b_below hb_10 (B4.out))) 1).trans rfl, (blk_cell (Hx.b_below hb_10_9 (Hx.b_below hb_10 (B4.out))) 2).trans rfl, (blk_cell (Hx.b_below hb_10_9 (Hx.b_below hb_10 (B4.out))) 3).trans rfl, (blk_cell (Hx.b_below hb_10_9 (Hx.b_below hb_10 (R2.out))) 1).trans Y1.out⟩ (fun hHeld => ?_)
            clear hK K
            refine norm_ (a' := ?_) ?_ ?_
            rotate_left
            · show Act.put _ (some 13) _ = _
              simp only [Act.put, List.setIfInBounds_toArray, List.set_cons_zero, List.set_cons_succ, i64_w, i32_w]
              rfl
            refine one_ (i := 5) (N := some 55) #[true, true, true, true, true, true, false, false, false, true, true, false, false] rfl rfl (by kernel_rfl) (by decide) (fun K hK => ?_)
            refine goes_ Try.func127 (by kernel_rfl) rfl #[.agg #[.int .i64 q.x0, .int .i64 q.x1, .int .i64 q.x2, .int .i64 q.e], .int .i64 (h : Int), .int .i64 f] (by rfl) rfl rfl (by simp only [List.map_toArray, List.map_cons, List.map_nil]; rfl) ?_
            with_reducible refine (HPA.out u_10_9).mono ?_
            rintro e_ u_10_9_5 ⟨rfl, hb_10_9_5⟩
            refine ⟨_, rfl, ?_⟩
            refine hK.out _ _ ⟨(blk_cell (Hx.b_below hb_10_9_5 (Hx.b_below hb_10_9 (Hx.b_below hb_10 (B4.out)))) 0).trans rfl, (blk_cell (Hx.b_below hb_10_9_5 (Hx.b_below hb_10_9 (Hx.b_below hb_10 (B4.out)))) 1).trans rfl, (blk_cell (Hx.b_below hb_10_9_5 (Hx.b_below hb_10_9 (Hx.b_below hb_10 (B4.out)))) 2).trans rfl, (blk_cell (Hx.b_below hb_10_9_5 (Hx.b_below hb_10_9 (Hx.b_below hb_10 (B4.out)))) 3).trans rfl, (blk_cell (Hx.b_below hb_10_9_5 (Hx.b_below hb_10_9 (Hx.b_below hb_10 (R2.out)))) 1).trans Y1.out⟩ (fun hHeld => ?_)
            clear hK K
            refine norm_ (a' := ?_) ?_ ?_
            rotate_left
            · show Act.put _ (some 55) _ = _
              simp only [Act.put, List.setIfInBounds_toArray, List.set_cons_zero, List.set_cons_succ, i64_w, i32_w]
              rfl
            refine pure_ (i := 6) (N := some 49) (v := ?_) (a' := ?_) #[true, true, true, true, true, true, true, false, false, true, true, false, false] rfl rfl (by kernel_rfl) (fun _ _ _ h => h) (Or.inl ⟨by rfl, ?_⟩) ?_ ?_
            rotate_left
            · intro w'
              go_simp
              with_reducible rfl
            rotate_left
            · simp only [Act.put, List.setIfInBounds_toArray, List.set_cons_zero, List.set_cons_succ, i64_w, i32_w]
              rfl
            refine pure_ (i := 7) (N := some 56) (v := ?_) (a' := ?_) #[true, true, true, true, true, true, true, true, false, true, true, false, false] rfl rfl (by kernel_rfl) (fun _ _ _ h => h) (Or.inl ⟨by rfl, ?_⟩) ?_ ?_
            rotate_left
            · intro w'
              go_simp
              with_reducible rfl
            rotate_left
            · simp only [Act.put, List.setIfInBounds_toArray, List.set_cons_zero, List.set_cons_succ, i64_w, i32_w]
              rfl
            refine pure_ (i := 8) (N := some 57) (v := ?_) (a' := ?_) #[true, true, true, true, true, true, true, true, true, true, true, false, false] rfl rfl (by kernel_rfl) (fun _ _ _ h => h) (Or.inl ⟨by rfl, ?_⟩) ?_ ?_
            rotate_left
            · intro w'
              go_simp
              with_reducible rfl
            rotate_left
            · simp only [Act.put, List.setIfInBounds_toArray, List.set_cons_zero, List.set_cons_succ, i64_w, i32_w]
              rfl
            exact norm_ (by simp only [putAll, Act.put, List.setIfInBounds_toArray, List.set_cons_zero, List.set_cons_succ]) (hCont (u_10.heap.size, w_5.heap.size) _ ⟨Hx.bb_below hb_10_9_5 (Hx.bb_below hb_10_9 (hb_10)), Hx.b_below hb_10_9_5 (bk_10_9), Hx.b_below hb_10_9_5 (Hx.b_below hb_10_9 (bk_10)), by have e_ : w_5.drew.heap.size = w_5.heap.size := rfl; have := hb_10.size; have := hb_10_9.size; have := hb_10_9_5.size; have := blk_lt bk_10_9; have := blk_lt bk_10; simp only; omega⟩)
      rintro ⟨g13, g14⟩ w_6 ⟨hb_, b13_, b14_, o1_, o2_, o3_⟩
      simp only at b13_ b14_ o1_ o2_ o3_
      have hHeld : w_6.cell? ⟨gB4, 0, none⟩ = some (.int .i64 q.x0) ∧ w_6.cell? ⟨gB4, 1, none⟩ = some (.int .i64 q.x1) ∧ w_6.cell? ⟨gB4, 2, none⟩ = some (.int .i64 q.x2) ∧ w_6.cell? ⟨gB4, 3, none⟩ = some (.int .i64 q.e) ∧ w_6.cell? ⟨g2, 1, none⟩ = some (.int .i64 f) := ⟨(blk_cell (Hx.b_below hb_ (B4.out)) 0).trans rfl, (blk_cell (Hx.b_below hb_ (B4.out)) 1).trans rfl, (blk_cell (Hx.b_below hb_ (B4.out)) 2).trans rfl, (blk_cell (Hx.b_below hb_ (B4.out)) 3).trans rfl, (blk_cell (Hx.b_below hb_ (R2.out)) 1).trans Y1.out⟩
      have c13_0 : w_6.cell? ⟨g13, 0, none⟩ = some (.int .i64 0) := (blk_cell b13_ 0).trans rfl
      have c13_1 : w_6.cell? ⟨g13, 1, none⟩ = some (.int .i64 0) := (blk_cell b13_ 1).trans rfl
      have c13_2 : w_6.cell? ⟨g13, 2, none⟩ = some (.int .i64 0) := (blk_cell b13_ 2).trans rfl
      have c13_3 : w_6.cell? ⟨g13, 3, none⟩ = some (.int .i64 0) := (blk_cell b13_ 3).trans rfl
      have d13_0 := blk_frozen b13_ 0
      have d13_1 := blk_frozen b13_ 1
      have d13_2 := blk_frozen b13_ 2
      have d13_3 := blk_frozen b13_ 3
      have c14_0 : w_6.cell? ⟨g14, 0, none⟩ = some (.int .i64 0) := (blk_cell b14_ 0).trans rfl
      have c14_1 : w_6.cell? ⟨g14, 1, none⟩ = some (.int .i64 0) := (blk_cell b14_ 1).trans rfl
      have c14_2 : w_6.cell? ⟨g14, 2, none⟩ = some (.int .i64 0) := (blk_cell b14_ 2).trans rfl
      have c14_3 : w_6.cell? ⟨g14, 3, none⟩ = some (.int .i64 0) := (blk_cell b14_ 3).trans rfl
      have d14_0 := blk_frozen b14_ 0
      have d14_1 := blk_frozen b14_ 1
      have d14_2 := blk_frozen b14_ 2
      have d14_3 := blk_frozen b14_ 3
      have ne_a : (g13 = g14) = False := eq_false o3_
      have ne_b : (g14 = g13) = False := eq_false (fun h_ => o3_ h_.symm)
      refine norm_ (a' := ?_) ?_ ?_
      rotate_left
      · simp only [putAll, Act.put, List.setIfInBounds_toArray, List.set_cons_zero, List.set_cons_succ]
        rfl
      refine last_ (i := 11) (N := none) #[true, true, true, true, true, true, true, true, true, true, true, true, false] rfl rfl (by kernel_rfl) (by decide) (fun K hK => ?_)
      refine skip_ (w1 := ?_) (by rfl) rfl ?_ ?_
      rotate_left
      · go_simp
        rfl
      refine hK.out _ _ ?_
      clear hK K
      refine last_ (i := 12) (N := none) #[true, true, true, true, true, true, true, true, true, true, true, true, true] rfl rfl (by kernel_rfl) (by decide) (fun K hK => ?_)
      refine skip_ (w1 := ?_) (by rfl) rfl ?_ ?_
      rotate_left
      · go_simp
        rfl
      refine hK.out _ _ ?_
      clear hK K
      refine done_ (by kernel_rfl) ?_
      have HR2_ : Aside0 (Kd.R k104 104 w_5 w.heap.size (fun k_ => gB4 < k_ ∧ k_ ≠ gB8 ∧ k_ < w_5.heap.size) v_ zs) := ⟨Kd.R_mono (Kd.R_bound HR.out) (fun k_ hk_ => ⟨hk_.1.1, hk_.1.2, hk_.2.2.1⟩)⟩
      clear HR
      have HR := HR2_
      clear HR2_
      have ORD_ : Aside0 ((((((mb < w.heap.size ∧ ad.block < w.heap.size) ∧ w.heap.size ≤ gB4 ∧ gB4 < gB8) ∧ gB8 < wr.heap.size) ∧ wr.heap.size ≤ g2) ∧ (g2 < gB12 ∧ gB4 < gB12 ∧ gB8 < gB12 ∧ mb < gB12 ∧ w.heap.size ≤ gB12 ∧ wr.heap.size ≤ gB12)) ∧ (g2 < g13 ∧ gB12 < g13 ∧ gB4 < g13 ∧ gB8 < g13 ∧ mb < g13 ∧ g2 < g14 ∧ gB12 < g14 ∧ gB4 < g14 ∧ gB8 < g14 ∧ mb < g14 ∧ w.heap.size ≤ g13 ∧ wr.heap.size ≤ g13 ∧ w_5.heap.size ≤ g13 ∧ w.heap.size ≤ g14 ∧ wr.heap.size ≤ g14 ∧ w_5.heap.size ≤ g14 ∧ g13 ≠ g14)) := ⟨by refine ⟨ORD.out, ?_⟩; have := HS.out.lt; have := HG.out.size; have := blk_lt B4.out; have := SZ.out; have := blk_lt R2.out; have := blk_lt B12.out; have := blk_lt B8.out; omega⟩
      clear ORD
      have ORD := ORD_
      clear ORD_
      have n0_ : Aside0 (Hou w_6 mb) := ⟨Hm.Mem.below (w := _) (by exact HS.out) hb_⟩
      have n1_ : Aside0 (w.grownBy w_6 (some mb)) := ⟨Hx.g_below (by first | exact HG.out | exact Hx.g_drew HG.out | exact Hx.g_drewN HG.out _) hb_⟩
      have n2_ : Aside0 (w_6.heap[gB4]? = some (.cells #[.int .i64 q.x0, .int .i64 q.x1, .int .i64 q.x2, .int .i64 q.e] 101 (0, 0))) := ⟨Hx.b_below hb_ B4.out⟩
      have n3_ : Aside0 (Lst w_6 mb (some ad) bs) := ⟨Lst.below (w := _) (by exact LS.out) hb_⟩
      have n4_ : Aside0 (wr.heap.size ≤ w_6.heap.size) := ⟨Nat.le_trans SZ.out hb_.size⟩
      have n5_ : Aside0 (w_6.heap[g2]? = some (.cells C2 3 (0, 0))) := ⟨Hx.b_below hb_ R2.out⟩
      have n6_ : Aside0 (w_6.heap[gB12]? = some (.cells #[.int .i64 (h : Int), .int .i64 fl, .bool br] 104 (0, 0))) := ⟨Hx.b_below hb_ B12.out⟩
      have n7_ : Aside0 (w_6.heap[gB8]? = some (.cells (lowA lw) 99 (0, 0))) := ⟨Hx.b_below hb_ B8.out⟩
      have n8_ : Aside0 (Kd.R k104 104 w_6 w.heap.size (fun k_ => gB4 < k_ ∧ k_ ≠ gB8 ∧ k_ < w_5.heap.size) v_ zs) := ⟨Kd.R_below HR.out hb_⟩
      have m0_ : Aside0 (w_6.heap[g13]? = some (.cells #[.int .i64 0, .int .i64 0, .int .i64 0, .int .i64 0] 101 (0, 0))) := ⟨b13_⟩
      have m1_ : Aside0 (w_6.heap[g14]? = some (.cells #[.int .i64 0, .int .i64 0, .int .i64 0, .int .i64 0] 101 (0, 0))) := ⟨b14_⟩
      (try clear cB4_0 dB4_0 cB4_1 dB4_1 cB4_2 dB4_2 cB4_3 dB4_3 cB12_0 dB12_0 cB12_1 dB12_1 cB12_2 dB12_2)
      (try clear HS)
      (try clear HG)
      (try clear B4)
      (try clear LS)
      (try clear SZ)
      (try clear R2)
      (try clear B12)
      (try clear B8)
      (try clear HR)
      have HS := n0_
      have HG := n1_
      have B4 := n2_
      have LS := n3_
      have SZ := n4_
      have R2 := n5_
      have B12 := n6_
      have B8 := n7_
      have HR := n8_
      have B13 := m0_
      have B14 := m1_
      clear n0_ n1_ n2_ n3_ n4_ n5_ n6_ n7_ n8_ m0_ m1_
      clear hb_ b13_ b14_ o1_ o2_ o3_ ne_a ne_b hHeld c13_0 d13_0 c13_1 d13_1 c13_2 d13_2 c13_3 d13_3 c14_0 d14_0 c14_1 d14_1 c14_2 d14_2 c14_3 d14_3
      obtain ⟨w_7, hw_⟩ : ∃ W_, W_ = ((((((((w_6).setCell ⟨g13, 0, none⟩ (.int .i64 qb.x0)).setCell ⟨g13, 1, none⟩ (.int .i64 qb.x1)).setCell ⟨g13, 2, none⟩ (.int .i64 qb.x2)).setCell ⟨g13, 3, none⟩ (.int .i64 qb.e)).setCell ⟨g14, 0, none⟩ (.int .i64 qw.x0)).setCell ⟨g14, 1, none⟩ (.int .i64 qw.x1)).setCell ⟨g14, 2, none⟩ (.int .i64 qw.x2)).setCell ⟨g14, 3, none⟩ (.int .i64 qw.e) := ⟨_, rfl⟩
      have e0_ : mb ≠ g13 := (by have := ORD.out; omega)
      have e1_ : mb ≠ g14 := (by have := ORD.out; omega)
      have e2_ : gB4 ≠ g13 := (by have := ORD.out; omega)
      have e3_ : gB4 ≠ g14 := (by have := ORD.out; omega)
      have e4_ : g2 ≠ g13 := (by have := ORD.out; omega)
      have e5_ : g2 ≠ g14 := (by have := ORD.out; omega)
      have e6_ : gB12 ≠ g13 := (by have := ORD.out; omega)
      have e7_ : gB12 ≠ g14 := (by have := ORD.out; omega)
      have e8_ : gB8 ≠ g13 := (by have := ORD.out; omega)
      have e9_ : gB8 ≠ g14 := (by have := ORD.out; omega)
      have e10_ : g13 ≠ g14 := (by have := ORD.out; omega)
      have e11_ : g14 ≠ g13 := (by have := ORD.out; omega)
      have n0_ : Aside0 (Hou w_7 mb) := ⟨by rw [hw_]; exact Hm.Mem.same (Hm.Mem.same (Hm.Mem.same (Hm.Mem.same (Hm.Mem.same (Hm.Mem.same (Hm.Mem.same (Hm.Mem.same HS.out (Below.heap_setCell _ _ _ _ e0_)) (Below.heap_setCell _ _ _ _ e0_)) (Below.heap_setCell _ _ _ _ e0_)) (Below.heap_setCell _ _ _ _ e0_)) (Below.heap_setCell _ _ _ _ e1_)) (Below.heap_setCell _ _ _ _ e1_)) (Below.heap_setCell _ _ _ _ e1_)) (Below.heap_setCell _ _ _ _ e1_)⟩
      have n1_ : Aside0 (w.grownBy w_7 (some mb)) := ⟨by rw [hw_]; exact Hx.g_set (Hx.g_set (Hx.g_set (Hx.g_set (Hx.g_set (Hx.g_set (Hx.g_set (Hx.g_set HG.out (by have := ORD.out; omega)) (by have := ORD.out; omega)) (by have := ORD.out; omega)) (by have := ORD.out; omega)) (by have := ORD.out; omega)) (by have := ORD.out; omega)) (by have := ORD.out; omega)) (by have := ORD.out; omega)⟩
      have n2_ : Aside0 (w_7.heap[gB4]? = some (.cells #[.int .i64 q.x0, .int .i64 q.x1, .int .i64 q.x2, .int .i64 q.e] 101 (0, 0))) := ⟨by rw [hw_]; exact blk_far (blk_far (blk_far (blk_far (blk_far (blk_far (blk_far (blk_far B4.out e2_ _) e2_ _) e2_ _) e2_ _) e3_ _) e3_ _) e3_ _) e3_ _⟩
      have n3_ : Aside0 (Lst w_7 mb (some ad) bs) := ⟨by rw [hw_]; exact Lst.far (Lst.far (Lst.far (Lst.far (Lst.far (Lst.far (Lst.far (Lst.far LS.out (show ad.block ≠ g13 by have := ORD.out; have := HAL.out; omega)) (show ad.block ≠ g13 by have := ORD.out; have := HAL.out; omega)) (show ad.block ≠ g13 by have := ORD.out; have := HAL.out; omega)) (show ad.block ≠ g13 by have := ORD.out; have := HAL.out; omega)) (show ad.block ≠ g14 by have := ORD.out; have := HAL.out; omega)) (show ad.block ≠ g14 by have := ORD.out; have := HAL.out; omega)) (show ad.block ≠ g14 by have := ORD.out; have := HAL.out; omega)) (show ad.block ≠ g14 by have := ORD.out; have := HAL.out; omega)⟩
      have n4_ : Aside0 (wr.heap.size ≤ w_7.heap.size) := ⟨by rw [hw_]; exact Hx.size_set (Hx.size_set (Hx.size_set (Hx.size_set (Hx.size_set (Hx.size_set (Hx.size_set (Hx.size_set SZ.out)))))))⟩
      have n5_ : Aside0 (w_7.heap[g2]? = some (.cells C2 3 (0, 0))) := ⟨by rw [hw_]; exact blk_far (blk_far (blk_far (blk_far (blk_far (blk_far (blk_far (blk_far R2.out e4_ _) e4_ _) e4_ _) e4_ _) e5_ _) e5_ _) e5_ _) e5_ _⟩
      have n6_ : Aside0 (w_7.heap[gB12]? = some (.cells #[.int .i64 (h : Int), .int .i64 fl, .bool br] 104 (0, 0))) := ⟨by rw [hw_]; exact blk_far (blk_far (blk_far (blk_far (blk_far (blk_far (blk_far (blk_far B12.out e6_ _) e6_ _) e6_ _) e6_ _) e7_ _) e7_ _) e7_ _) e7_ _⟩
      have n7_ : Aside0 (w_7.heap[gB8]? = some (.cells (lowA lw) 99 (0, 0))) := ⟨by rw [hw_]; exact blk_far (blk_far (blk_far (blk_far (blk_far (blk_far (blk_far (blk_far B8.out e8_ _) e8_ _) e8_ _) e8_ _) e9_ _) e9_ _) e9_ _) e9_ _⟩
      have n8_ : Aside0 (Kd.R k104 104 w_7 w.heap.size (fun k_ => gB4 < k_ ∧ k_ ≠ gB8 ∧ k_ < w_5.heap.size) v_ zs) := ⟨by rw [hw_]; exact Kd.R_far (Kd.R_far (Kd.R_far (Kd.R_far (Kd.R_far (Kd.R_far (Kd.R_far (Kd.R_far HR.out (fun k_ hk_ => show k_ ≠ g13 by have h1_ := hk_.1; have h2_ := hk_.2.1; have h3_ := hk_.2.2; have := ORD.out; omega) _) (fun k_ hk_ => show k_ ≠ g13 by have h1_ := hk_.1; have h2_ := hk_.2.1; have h3_ := hk_.2.2; have := ORD.out; omega) _) (fun k_ hk_ => show k_ ≠ g13 by have h1_ := hk_.1; have h2_ := hk_.2.1; have h3_ := hk_.2.2; have := ORD.out; omega) _) (fun k_ hk_ => show k_ ≠ g13 by have h1_ := hk_.1; have h2_ := hk_.2.1; have h3_ := hk_.2.2; have := ORD.out; omega) _) (fun k_ hk_ => show k_ ≠ g14 by have h1_ := hk_.1; have h2_ := hk_.2.1; have h3_ := hk_.2.2; have := ORD.out; omega) _) (fun k_ hk_ => show k_ ≠ g14 by have h1_ := hk_.1; have h2_ := hk_.2.1; have h3_ := hk_.2.2; have := ORD.out; omega) _) (fun k_ hk_ => show k_ ≠ g14 by have h1_ := hk_.1; have h2_ := hk_.2.1; have h3_ := hk_.2.2; have := ORD.out; omega) _) (fun k_ hk_ => show k_ ≠ g14 by have h1_ := hk_.1; have h2_ := hk_.2.1; have h3_ := hk_.2.2; have := ORD.out; omega) _⟩
      have n9_ : Aside0 (w_7.heap[g13]? = some (.cells #[.int .i64 qb.x0, .int .i64 qb.x1, .int .i64 qb.x2, .int .i64 qb.e] 101 (0, 0))) := ⟨by rw [hw_]; exact blk_far (blk_far (blk_far (blk_far (blk_put (blk_put (blk_put (blk_put B13.out 0 _ rfl) 1 _ rfl) 2 _ rfl) 3 _ rfl) e10_ _) e10_ _) e10_ _) e10_ _⟩
      have n10_ : Aside0 (w_7.heap[g14]? = some (.cells #[.int .i64 qw.x0, .int .i64 qw.x1, .int .i64 qw.x2, .int .i64 qw.e] 101 (0, 0))) := ⟨by rw [hw_]; exact blk_put (blk_put (blk_put (blk_put (blk_far (blk_far (blk_far (blk_far B14.out e11_ _) e11_ _) e11_ _) e11_ _) 0 _ rfl) 1 _ rfl) 2 _ rfl) 3 _ rfl⟩
      (try clear HS)
      (try clear HG)
      (try clear B4)
      (try clear LS)
      (try clear SZ)
      (try clear R2)
      (try clear B12)
      (try clear B8)
      (try clear HR)
      (try clear B13)
      (try clear B14)
      rw [← hw_]
      clear hw_ e0_ e1_ e2_ e3_ e4_ e5_ e6_ e7_ e8_ e9_ e10_ e11_
      have HS := n0_
      have HG := n1_
      have B4 := n2_
      have LS := n3_
      have SZ := n4_
      have R2 := n5_
      have B12 := n6_
      have B8 := n7_
      have HR := n8_
      have B13 := n9_
      have B14 := n10_
      clear n0_ n1_ n2_ n3_ n4_ n5_ n6_ n7_ n8_ n9_ n10_
      have cB4_0 : w_7.cell? ⟨gB4, 0, none⟩ = some (.int .i64 q.x0) := (blk_cell B4.out 0).trans rfl
      have dB4_0 := blk_frozen B4.out 0
      have cB4_1 : w_7.cell? ⟨gB4, 1, none⟩ = some (.int .i64 q.x1) := (blk_cell B4.out 1).trans rfl
      have dB4_1 := blk_frozen B4.out 1
      have cB4_2 : w_7.cell? ⟨gB4, 2, none⟩ = some (.int .i64 q.x2) := (blk_cell B4.out 2).trans rfl
      have dB4_2 := blk_frozen B4.out 2
      have cB4_3 : w_7.cell? ⟨gB4, 3, none⟩ = some (.int .i64 q.e) := (blk_cell B4.out 3).trans rfl
      have dB4_3 := blk_frozen B4.out 3
      have cB12_0 : w_7.cell? ⟨gB12, 0, none⟩ = some (.int .i64 (h : Int)) := (blk_cell B12.out 0).trans rfl
      have dB12_0 := blk_frozen B12.out 0
      have cB12_1 : w_7.cell? ⟨gB12, 1, none⟩ = some (.int .i64 fl) := (blk_cell B12.out 1).trans rfl
      have dB12_1 := blk_frozen B12.out 1
      have cB12_2 : w_7.cell? ⟨gB12, 2, none⟩ = some (.bool br) := (blk_cell B12.out 2).trans rfl
      have dB12_2 := blk_frozen B12.out 2
      have cB13_0 : w_7.cell? ⟨g13, 0, none⟩ = some (.int .i64 qb.x0) := (blk_cell B13.out 0).trans rfl
      have dB13_0 := blk_frozen B13.out 0
      have cB13_1 : w_7.cell? ⟨g13, 1, none⟩ = some (.int .i64 qb.x1) := (blk_cell B13.out 1).trans rfl
      have dB13_1 := blk_frozen B13.out 1
      have cB13_2 : w_7.cell? ⟨g13, 2, none⟩ = some (.int .i64 qb.x2) := (blk_cell B13.out 2).trans rfl
      have dB13_2 := blk_frozen B13.out 2
      have cB13_3 : w_7.cell? ⟨g13, 3, none⟩ = some (.int .i64 qb.e) := (blk_cell B13.out 3).trans rfl
      have dB13_3 := blk_frozen B13.out 3
      have cB14_0 : w_7.cell? ⟨g14, 0, none⟩ = some (.int .i64 qw.x0) := (blk_cell B14.out 0).trans rfl
      have dB14_0 := blk_frozen B14.out 0
      have cB14_1 : w_7.cell? ⟨g14, 1, none⟩ = some (.int .i64 qw.x1) := (blk_cell B14.out 1).trans rfl
      have dB14_1 := blk_frozen B14.out 1
      have cB14_2 : w_7.cell? ⟨g14, 2, none⟩ = some (.int .i64 qw.x2) := (blk_cell B14.out 2).trans rfl
      have dB14_2 := blk_frozen B14.out 2
      have cB14_3 : w_7.cell? ⟨g14, 3, none⟩ = some (.int .i64 qw.e) := (blk_cell B14.out 3).trans rfl
      have dB14_3 := blk_frozen B14.out 3
      cases br with
      | true =>
        have e1_ : q.nxt true = qb := HQB.out
        have e2_ : hLow q lw true = lw := HLO.out
        rw [e1_, e2_] at HNX HL2
        rw [e1_] at HMS2
        clear e1_ e2_
        go_wp2_with (first | ((with_reducible refine gate_store (t := 101) (p := 4) rfl ?_); refine store_event (t := 101) (p := 4) (v := ?vo_w8) (w1 := (((((w_7).setCell ⟨gB4, 0, none⟩ (.int .i64 qb.x0)).setCell ⟨gB4, 1, none⟩ (.int .i64 qb.x1)).setCell ⟨gB4, 2, none⟩ (.int .i64 qb.x2)).setCell ⟨gB4, 3, none⟩ (.int .i64 qb.e))) ?hg ?ho ?hn ?hr ?_; (case ho => rfl); (case hg => rfl); (case hn => rfl); (case hr => first | (go_simp; done) | (go_simp; rfl)); intro w_8 hw_; have e0_ : mb ≠ gB4 := (by have := ORD.out; omega); have e1_ : g2 ≠ gB4 := (by have := ORD.out; omega); have e2_ : gB8 ≠ gB4 := (by have := ORD.out; omega); have e3_ : g13 ≠ gB4 := (by have := ORD.out; omega); have e4_ : g14 ≠ gB4 := (by have := ORD.out; omega); have n0_ : Aside0 (Hou w_8 mb) := ⟨by rw [hw_]; exact Hm.Mem.same (Hm.Mem.same (Hm.Mem.same (Hm.Mem.same HS.out (Below.heap_setCell _ _ _ _ e0_)) (Below.heap_setCell _ _ _ _ e0_)) (Below.heap_setCell _ _ _ _ e0_)) (Below.heap_setCell _ _ _ _ e0_)⟩; have n1_ : Aside0 (w.grownBy w_8 (some mb)) := ⟨by rw [hw_]; exact Hx.g_set (Hx.g_set (Hx.g_set (Hx.g_set HG.out (by have := ORD.out; omega)) (by have := ORD.out; omega)) (by have := ORD.out; omega)) (by have := ORD.out; omega)⟩; have n2_ : Aside0 (w_8.heap[gB4]? = some (.cells #[.int .i64 qb.x0, .int .i64 qb.x1, .int .i64 qb.x2, .int .i64 qb.e] 101 (0, 0))) := ⟨by rw [hw_]; exact blk_put (blk_put (blk_put (blk_put B4.out 0 _ rfl) 1 _ rfl) 2 _ rfl) 3 _ rfl⟩; have n3_ : Aside0 (Lst w_8 mb (some ad) bs) := ⟨by rw [hw_]; exact Lst.far (Lst.far (Lst.far (Lst.far LS.out (show ad.block ≠ gB4 by have := ORD.out; have := HAL.out; omega)) (show ad.block ≠ gB4 by have := ORD.out; have := HAL.out; omega)) (show ad.block ≠ gB4 by have := ORD.out; have := HAL.out; omega)) (show ad.block ≠ gB4 by have := ORD.out; have := HAL.out; omega)⟩; have n4_ : Aside0 (wr.heap.size ≤ w_8.heap.size) := ⟨by rw [hw_]; exact Hx.size_set (Hx.size_set (Hx.size_set (Hx.size_set SZ.out)))⟩; have n5_ : Aside0 (w_8.heap[g2]? = some (.cells C2 3 (0, 0))) := ⟨by rw [hw_]; exact blk_far (blk_far (blk_far (blk_far R2.out e1_ _) e1_ _) e1_ _) e1_ _⟩; have n6_ : Aside0 (w_8.heap[gB8]? = some (.cells (lowA lw) 99 (0, 0))) := ⟨by rw [hw_]; exact blk_far (blk_far (blk_far (blk_far B8.out e2_ _) e2_ _) e2_ _) e2_ _⟩; have n7_ : Aside0 (Kd.R k104 104 w_8 w.heap.size (fun k_ => gB4 < k_ ∧ k_ ≠ gB8 ∧ k_ < w_5.heap.size) v_ zs) := ⟨by rw [hw_]; exact Kd.R_far (Kd.R_far (Kd.R_far (Kd.R_far HR.out (fun k_ hk_ => show k_ ≠ gB4 by have h1_ := hk_.1; have h2_ := hk_.2.1; have h3_ := hk_.2.2; have := ORD.out; omega) _) (fun k_ hk_ => show k_ ≠ gB4 by have h1_ := hk_.1; have h2_ := hk_.2.1; have h3_ := hk_.2.2; have := ORD.out; omega) _) (fun k_ hk_ => show k_ ≠ gB4 by have h1_ := hk_.1; have h2_ := hk_.2.1; have h3_ := hk_.2.2; have := ORD.out; omega) _) (fun k_ hk_ => show k_ ≠ gB4 by have h1_ := hk_.1; have h2_ := hk_.2.1; have h3_ := hk_.2.2; have := ORD.out; omega) _⟩; have n8_ : Aside0 (w_8.heap[g13]? = some (.cells #[.int .i64 qb.x0, .int .i64 qb.x1, .int .i64 qb.x2, .int .i64 qb.e] 101 (0, 0))) := ⟨by rw [hw_]; exact blk_far (blk_far (blk_far (blk_far B13.out e3_ _) e3_ _) e3_ _) e3_ _⟩; have n9_ : Aside0 (w_8.heap[g14]? = some (.cells #[.int .i64 qw.x0, .int .i64 qw.x1, .int .i64 qw.x2, .int .i64 qw.e] 101 (0, 0))) := ⟨by rw [hw_]; exact blk_far (blk_far (blk_far (blk_far B14.out e4_ _) e4_ _) e4_ _) e4_ _⟩; (try clear cB4_0 dB4_0 cB4_1 dB4_1 cB4_2 dB4_2 cB4_3 dB4_3 cB12_0 dB12_0 cB12_1 dB12_1 cB12_2 dB12_2 cB13_0 dB13_0 cB13_1 dB13_1 cB13_2 dB13_2 cB13_3 dB13_3 cB14_0 dB14_0 cB14_1 dB14_1 cB14_2 dB14_2 cB14_3 dB14_3); (try clear HS); (try clear HG); (try clear B4); (try clear LS); (try clear SZ); (try clear R2); (try clear B8); (try clear HR); (try clear B13); (try clear B14); have HS := n0_; have HG := n1_; have B4 := n2_; have LS := n3_; have SZ := n4_; have R2 := n5_; have B8 := n6_; have HR := n7_; have B13 := n8_; have B14 := n9_; clear n0_ n1_ n2_ n3_ n4_ n5_ n6_ n7_ n8_ n9_; have cB4_0 : w_8.cell? ⟨gB4, 0, none⟩ = some (.int .i64 qb.x0) := (blk_cell B4.out 0).trans rfl; have dB4_0 := blk_frozen B4.out 0; have cB4_1 : w_8.cell? ⟨gB4, 1, none⟩ = some (.int .i64 qb.x1) := (blk_cell B4.out 1).trans rfl; have dB4_1 := blk_frozen B4.out 1; have cB4_2 : w_8.cell? ⟨gB4, 2, none⟩ = some (.int .i64 qb.x2) := (blk_cell B4.out 2).trans rfl; have dB4_2 := blk_frozen B4.out 2; have cB4_3 : w_8.cell? ⟨gB4, 3, none⟩ = some (.int .i64 qb.e) := (blk_cell B4.out 3).trans rfl; have dB4_3 := blk_frozen B4.out 3; have cB13_0 : w_8.cell? ⟨g13, 0, none⟩ = some (.int .i64 qb.x0) := (blk_cell B13.out 0).trans rfl; have dB13_0 := blk_frozen B13.out 0; have cB13_1 : w_8.cell? ⟨g13, 1, none⟩ = some (.int .i64 qb.x1) := (blk_cell B13.out 1).trans rfl; have dB13_1 := blk_frozen B13.out 1; have cB13_2 : w_8.cell? ⟨g13, 2, none⟩ = some (.int .i64 qb.x2) := (blk_cell B13.out 2).trans rfl; have dB13_2 := blk_frozen B13.out 2; have cB13_3 : w_8.cell? ⟨g13, 3, none⟩ = some (.int .i64 qb.e) := (blk_cell B13.out 3).trans rfl; have dB13_3 := blk_frozen B13.out 3; have cB14_0 : w_8.cell? ⟨g14, 0, none⟩ = some (.int .i64 qw.x0) := (blk_cell B14.out 0).trans rfl; have dB14_0 := blk_frozen B14.out 0; have cB14_1 : w_8.cell? ⟨g14, 1, none⟩ = some (.int .i64 qw.x1) := (blk_cell B14.out 1).trans rfl; have dB14_1 := blk_frozen B14.out 1; have cB14_2 : w_8.cell? ⟨g14, 2, none⟩ = some (.int .i64 qw.x2) := (blk_cell B14.out 2).trans rfl; have dB14_2 := blk_frozen B14.out 2; have cB14_3 : w_8.cell? ⟨g14, 3, none⟩ = some (.int .i64 qw.e) := (blk_cell B14.out 3).trans rfl; have dB14_3 := blk_frozen B14.out 3; clear hw_ e0_ e1_ e2_ e3_ e4_))
        go_roundg k1
        case measure => omega
        case rel => exact ⟨qb, lw, zs, ⟨⟨HNX.out.1, HMS2.out, HZL.out⟩⟩, HL2, ⟨Kd.R_mono HR.out (fun k_ hk_ => ⟨hk_.1, hk_.2.1⟩)⟩, B4, B8, HS, HG, LS⟩
      | false =>
        have e1_ : q.nxt false = qw := HQB.out
        have e2_ : hLow q lw false = upd lw h fl := HLO.out
        rw [e1_, e2_] at HNX HL2
        rw [e1_] at HMS2
        clear e1_ e2_
        go_wp2_with (first | ((with_reducible refine gate_store (t := 101) (p := 4) rfl ?_); refine store_event (t := 101) (p := 4) (v := ?vo_w18) (w1 := (((((w_7).setCell ⟨gB4, 0, none⟩ (.int .i64 qw.x0)).setCell ⟨gB4, 1, none⟩ (.int .i64 qw.x1)).setCell ⟨gB4, 2, none⟩ (.int .i64 qw.x2)).setCell ⟨gB4, 3, none⟩ (.int .i64 qw.e))) ?hg ?ho ?hn ?hr ?_; (case ho => rfl); (case hg => rfl); (case hn => rfl); (case hr => first | (go_simp; done) | (go_simp; rfl)); intro w_18 hw_; have e0_ : mb ≠ gB4 := (by have := ORD.out; omega); have e1_ : g2 ≠ gB4 := (by have := ORD.out; omega); have e2_ : gB8 ≠ gB4 := (by have := ORD.out; omega); have e3_ : g13 ≠ gB4 := (by have := ORD.out; omega); have e4_ : g14 ≠ gB4 := (by have := ORD.out; omega); have n0_ : Aside0 (Hou w_18 mb) := ⟨by rw [hw_]; exact Hm.Mem.same (Hm.Mem.same (Hm.Mem.same (Hm.Mem.same HS.out (Below.heap_setCell _ _ _ _ e0_)) (Below.heap_setCell _ _ _ _ e0_)) (Below.heap_setCell _ _ _ _ e0_)) (Below.heap_setCell _ _ _ _ e0_)⟩; have n1_ : Aside0 (w.grownBy w_18 (some mb)) := ⟨by rw [hw_]; exact Hx.g_set (Hx.g_set (Hx.g_set (Hx.g_set HG.out (by have := ORD.out; omega)) (by have := ORD.out; omega)) (by have := ORD.out; omega)) (by have := ORD.out; omega)⟩; have n2_ : Aside0 (w_18.heap[gB4]? = some (.cells #[.int .i64 qw.x0, .int .i64 qw.x1, .int .i64 qw.x2, .int .i64 qw.e] 101 (0, 0))) := ⟨by rw [hw_]; exact blk_put (blk_put (blk_put (blk_put B4.out 0 _ rfl) 1 _ rfl) 2 _ rfl) 3 _ rfl⟩; have n3_ : Aside0 (Lst w_18 mb (some ad) bs) := ⟨by rw [hw_]; exact Lst.far (Lst.far (Lst.far (Lst.far LS.out (show ad.block ≠ gB4 by have := ORD.out; have := HAL.out; omega)) (show ad.block ≠ gB4 by have := ORD.out; have := HAL.out; omega)) (show ad.block ≠ gB4 by have := ORD.out; have := HAL.out; omega)) (show ad.block ≠ gB4 by have := ORD.out; have := HAL.out; omega)⟩; have n4_ : Aside0 (wr.heap.size ≤ w_18.heap.size) := ⟨by rw [hw_]; exact Hx.size_set (Hx.size_set (Hx.size_set (Hx.size_set SZ.out)))⟩; have n5_ : Aside0 (w_18.heap[g2]? = some (.cells C2 3 (0, 0))) := ⟨by rw [hw_]; exact blk_far (blk_far (blk_far (blk_far R2.out e1_ _) e1_ _) e1_ _) e1_ _⟩; have n6_ : Aside0 (w_18.heap[gB8]? = some (.cells (lowA lw) 99 (0, 0))) := ⟨by rw [hw_]; exact blk_far (blk_far (blk_far (blk_far B8.out e2_ _) e2_ _) e2_ _) e2_ _⟩; have n7_ : Aside0 (Kd.R k104 104 w_18 w.heap.size (fun k_ => gB4 < k_ ∧ k_ ≠ gB8 ∧ k_ < w_5.heap.size) v_ zs) := ⟨by rw [hw_]; exact Kd.R_far (Kd.R_far (Kd.R_far (Kd.R_far HR.out (fun k_ hk_ => show k_ ≠ gB4 by have h1_ := hk_.1; have h2_ := hk_.2.1; have h3_ := hk_.2.2; have := ORD.out; omega) _) (fun k_ hk_ => show k_ ≠ gB4 by have h1_ := hk_.1; have h2_ := hk_.2.1; have h3_ := hk_.2.2; have := ORD.out; omega) _) (fun k_ hk_ => show k_ ≠ gB4 by have h1_ := hk_.1; have h2_ := hk_.2.1; have h3_ := hk_.2.2; have := ORD.out; omega) _) (fun k_ hk_ => show k_ ≠ gB4 by have h1_ := hk_.1; have h2_ := hk_.2.1; have h3_ := hk_.2.2; have := ORD.out; omega) _⟩; have n8_ : Aside0 (w_18.heap[g13]? = some (.cells #[.int .i64 qb.x0, .int .i64 qb.x1, .int .i64 qb.x2, .int .i64 qb.e] 101 (0, 0))) := ⟨by rw [hw_]; exact blk_far (blk_far (blk_far (blk_far B13.out e3_ _) e3_ _) e3_ _) e3_ _⟩; have n9_ : Aside0 (w_18.heap[g14]? = some (.cells #[.int .i64 qw.x0, .int .i64 qw.x1, .int .i64 qw.x2, .int .i64 qw.e] 101 (0, 0))) := ⟨by rw [hw_]; exact blk_far (blk_far (blk_far (blk_far B14.out e4_ _) e4_ _) e4_ _) e4_ _⟩; (try clear cB4_0 dB4_0 cB4_1 dB4_1 cB4_2 dB4_2 cB4_3 dB4_3 cB12_0 dB12_0 cB12_1 dB12_1 cB12_2 dB12_2 cB13_0 dB13_0 cB13_1 dB13_1 cB13_2 dB13_2 cB13_3 dB13_3 cB14_0 dB14_0 cB14_1 dB14_1 cB14_2 dB14_2 cB14_3 dB14_3); (try clear HS); (try clear HG); (try clear B4); (try clear LS); (try clear SZ); (try clear R2); (try clear B8); (try clear HR); (try clear B13); (try clear B14); have HS := n0_; have HG := n1_; have B4 := n2_; have LS := n3_; have SZ := n4_; have R2 := n5_; have B8 := n6_; have HR := n7_; have B13 := n8_; have B14 := n9_; clear n0_ n1_ n2_ n3_ n4_ n5_ n6_ n7_ n8_ n9_; have cB4_0 : w_18.cell? ⟨gB4, 0, none⟩ = some (.int .i64 qw.x0) := (blk_cell B4.out 0).trans rfl; have dB4_0 := blk_frozen B4.out 0; have cB4_1 : w_18.cell? ⟨gB4, 1, none⟩ = some (.int .i64 qw.x1) := (blk_cell B4.out 1).trans rfl; have dB4_1 := blk_frozen B4.out 1; have cB4_2 : w_18.cell? ⟨gB4, 2, none⟩ = some (.int .i64 qw.x2) := (blk_cell B4.out 2).trans rfl; have dB4_2 := blk_frozen B4.out 2; have cB4_3 : w_18.cell? ⟨gB4, 3, none⟩ = some (.int .i64 qw.e) := (blk_cell B4.out 3).trans rfl; have dB4_3 := blk_frozen B4.out 3; have cB13_0 : w_18.cell? ⟨g13, 0, none⟩ = some (.int .i64 qb.x0) := (blk_cell B13.out 0).trans rfl; have dB13_0 := blk_frozen B13.out 0; have cB13_1 : w_18.cell? ⟨g13, 1, none⟩ = some (.int .i64 qb.x1) := (blk_cell B13.out 1).trans rfl; have dB13_1 := blk_frozen B13.out 1; have cB13_2 : w_18.cell? ⟨g13, 2, none⟩ = some (.int .i64 qb.x2) := (blk_cell B13.out 2).trans rfl; have dB13_2 := blk_frozen B13.out 2; have cB13_3 : w_18.cell? ⟨g13, 3, none⟩ = some (.int .i64 qb.e) := (blk_cell B13.out 3).trans rfl; have dB13_3 := blk_frozen B13.out 3; have cB14_0 : w_18.cell? ⟨g14, 0, none⟩ = some (.int .i64 qw.x0) := (blk_cell B14.out 0).trans rfl; have dB14_0 := blk_frozen B14.out 0; have cB14_1 : w_18.cell? ⟨g14, 1, none⟩ = some (.int .i64 qw.x1) := (blk_cell B14.out 1).trans rfl; have dB14_1 := blk_frozen B14.out 1; have cB14_2 : w_18.cell? ⟨g14, 2, none⟩ = some (.int .i64 qw.x2) := (blk_cell B14.out 2).trans rfl; have dB14_2 := blk_frozen B14.out 2; have cB14_3 : w_18.cell? ⟨g14, 3, none⟩ = some (.int .i64 qw.e) := (blk_cell B14.out 3).trans rfl; have dB14_3 := blk_frozen B14.out 3; clear hw_ e0_ e1_ e2_ e3_ e4_; have c8_ : w_18.cell? ⟨gB8, h, none⟩ = some (.int .i64 (lw h)) := (blk_cell B8.out h).trans (lowA_get lw HLT.out.2.1); have d8_ := blk_frozen B8.out h) | ((with_reducible refine gate_store (t := 3) (p := 64) rfl ?_); refine store_event (t := 3) (p := 64) (v := ?vo_w19) (w1 := ((w_18).setCell ⟨gB8, h, none⟩ (.int .i64 fl))) ?hg ?ho ?hn ?hr ?_; (case ho => rfl); (case hg => rfl); (case hn => rfl); (case hr => first | (go_simp; done) | (go_simp; rfl)); intro w_19 hw_; have n0_ : Aside0 (Hou w_19 mb) := ⟨by rw [hw_]; exact Hm.Mem.same HS.out (Below.heap_setCell _ _ _ _ (show mb ≠ gB8 by have := ORD.out; omega))⟩; have n1_ : Aside0 (w.grownBy w_19 (some mb)) := ⟨by rw [hw_]; exact Hx.g_set HG.out (by have := ORD.out; omega)⟩; have n2_ : Aside0 (w_19.heap[gB4]? = some (.cells #[.int .i64 qw.x0, .int .i64 qw.x1, .int .i64 qw.x2, .int .i64 qw.e] 101 (0, 0))) := ⟨by rw [hw_]; exact blk_far B4.out (show gB4 ≠ gB8 by have := ORD.out; omega) _⟩; have n3_ : Aside0 (Lst w_19 mb (some ad) bs) := ⟨by rw [hw_]; exact Lst.far LS.out (show ad.block ≠ gB8 by have := ORD.out; have := HAL.out; omega)⟩; have n4_ : Aside0 (wr.heap.size ≤ w_19.heap.size) := ⟨by rw [hw_]; exact Hx.size_set SZ.out⟩; have n5_ : Aside0 (w_19.heap[g2]? = some (.cells C2 3 (0, 0))) := ⟨by rw [hw_]; exact blk_far R2.out (show g2 ≠ gB8 by have := ORD.out; omega) _⟩; have n6_ : Aside0 (w_19.heap[gB8]? = some (.cells (lowA (upd lw h fl)) 99 (0, 0))) := ⟨by rw [hw_]; exact blk_put B8.out h _ (lowA_set lw HLT.out.2.1 fl)⟩; have n7_ : Aside0 (Kd.R k104 104 w_19 w.heap.size (fun k_ => gB4 < k_ ∧ k_ ≠ gB8 ∧ k_ < w_5.heap.size) v_ zs) := ⟨by rw [hw_]; exact Kd.R_far HR.out (fun k_ hk_ => show k_ ≠ gB8 by have h1_ := hk_.1; have h2_ := hk_.2.1; have h3_ := hk_.2.2; have := ORD.out; omega) _⟩; have n8_ : Aside0 (w_19.heap[g13]? = some (.cells #[.int .i64 qb.x0, .int .i64 qb.x1, .int .i64 qb.x2, .int .i64 qb.e] 101 (0, 0))) := ⟨by rw [hw_]; exact blk_far B13.out (show g13 ≠ gB8 by have := ORD.out; omega) _⟩; have n9_ : Aside0 (w_19.heap[g14]? = some (.cells #[.int .i64 qw.x0, .int .i64 qw.x1, .int .i64 qw.x2, .int .i64 qw.e] 101 (0, 0))) := ⟨by rw [hw_]; exact blk_far B14.out (show g14 ≠ gB8 by have := ORD.out; omega) _⟩; (try clear cB4_0 dB4_0 cB4_1 dB4_1 cB4_2 dB4_2 cB4_3 dB4_3 cB13_0 dB13_0 cB13_1 dB13_1 cB13_2 dB13_2 cB13_3 dB13_3 cB14_0 dB14_0 cB14_1 dB14_1 cB14_2 dB14_2 cB14_3 dB14_3); (try clear HS); (try clear HG); (try clear B4); (try clear LS); (try clear SZ); (try clear R2); (try clear B8); (try clear HR); (try clear B13); (try clear B14); have HS := n0_; have HG := n1_; have B4 := n2_; have LS := n3_; have SZ := n4_; have R2 := n5_; have B8 := n6_; have HR := n7_; have B13 := n8_; have B14 := n9_; clear n0_ n1_ n2_ n3_ n4_ n5_ n6_ n7_ n8_ n9_; have cB4_0 : w_19.cell? ⟨gB4, 0, none⟩ = some (.int .i64 qw.x0) := (blk_cell B4.out 0).trans rfl; have dB4_0 := blk_frozen B4.out 0; have cB4_1 : w_19.cell? ⟨gB4, 1, none⟩ = some (.int .i64 qw.x1) := (blk_cell B4.out 1).trans rfl; have dB4_1 := blk_frozen B4.out 1; have cB4_2 : w_19.cell? ⟨gB4, 2, none⟩ = some (.int .i64 qw.x2) := (blk_cell B4.out 2).trans rfl; have dB4_2 := blk_frozen B4.out 2; have cB4_3 : w_19.cell? ⟨gB4, 3, none⟩ = some (.int .i64 qw.e) := (blk_cell B4.out 3).trans rfl; have dB4_3 := blk_frozen B4.out 3; have cB13_0 : w_19.cell? ⟨g13, 0, none⟩ = some (.int .i64 qb.x0) := (blk_cell B13.out 0).trans rfl; have dB13_0 := blk_frozen B13.out 0; have cB13_1 : w_19.cell? ⟨g13, 1, none⟩ = some (.int .i64 qb.x1) := (blk_cell B13.out 1).trans rfl; have dB13_1 := blk_frozen B13.out 1; have cB13_2 : w_19.cell? ⟨g13, 2, none⟩ = some (.int .i64 qb.x2) := (blk_cell B13.out 2).trans rfl; have dB13_2 := blk_frozen B13.out 2; have cB13_3 : w_19.cell? ⟨g13, 3, none⟩ = some (.int .i64 qb.e) := (blk_cell B13.out 3).trans rfl; have dB13_3 := blk_frozen B13.out 3; have cB14_0 : w_19.cell? ⟨g14, 0, none⟩ = some (.int .i64 qw.x0) := (blk_cell B14.out 0).trans rfl; have dB14_0 := blk_frozen B14.out 0; have cB14_1 : w_19.cell? ⟨g14, 1, none⟩ = some (.int .i64 qw.x1) := (blk_cell B14.out 1).trans rfl; have dB14_1 := blk_frozen B14.out 1; have cB14_2 : w_19.cell? ⟨g14, 2, none⟩ = some (.int .i64 qw.x2) := (blk_cell B14.out 2).trans rfl; have dB14_2 := blk_frozen B14.out 2; have cB14_3 : w_19.cell? ⟨g14, 3, none⟩ = some (.int .i64 qw.e) := (blk_cell B14.out 3).trans rfl; have dB14_3 := blk_frozen B14.out 3; clear hw_ ))
        go_roundg k1
        case measure => omega
        case rel => exact ⟨qw, upd lw h fl, zs, ⟨⟨HNX.out.1, HMS2.out, HZL.out⟩⟩, HL2, ⟨Kd.R_mono HR.out (fun k_ hk_ => ⟨hk_.1, hk_.2.1⟩)⟩, B4, B8, HS, HG, LS⟩


-- FOR slices.Clone[[]int,int]
-- USES info int
-- USES kd int
-- KIND rounds=0 making=1
set_option maxHeartbeats 8000000 in
set_option maxRecDepth 1000000 in
theorem cloneInt.calls (w : World) (A : Option Addr) (c : Nat) (l : List Int) (hr : Kd.C (Kd.int .i64) w A l.length l) (hc : l.length ≤ c) (hl : l.length < 17592186044416) :
    Calls Try.prog 128 #[.slice A l.length c] w fun e w' => ∃ v0_ : Value, e = .returned v0_ ∧ Kd.R (Kd.int .i64) 3 w' w.heap.size (fun _ => True) v0_ l ∧ Below w.heap.size w w' := by
  have HR := Aside0.mk hr
  have HC := Aside0.mk hc
  have HL := Aside0.mk hl
  cases A with
  | none =>
    have hl0 : l = [] := by
      rcases Nat.eq_zero_or_pos l.length with h0 | h0
      · exact List.eq_nil_of_length_eq_zero h0
      · obtain ⟨ad, h, _⟩ := hr.2.2 h0
        cases h
    subst hl0
    have hnil := run_eql_slice_nil (P := Try.prog) w 46 3 none 0 c Try.underlying46
    clear hr hc hl
    go_enter Try.func128, Try.ntmps128
    go_wp2
    go_ret
    exact ⟨_, rfl, Kd.R_nil _ _ _ _ _, Below.refl _ _⟩
  | some ad =>
    have hnil := run_eql_slice_nil (P := Try.prog) w 46 3 (some ad) l.length c Try.underlying46
    clear hr hc hl
    go_enter Try.func128, Try.ntmps128
    have HB := Aside0.mk (Below.refl w.heap.size w)
    go_wp2_with (first | ((with_reducible refine gate_builtin (b := .append) (xs := #[.tmp 5, .tmp 6]) rfl ?_); at_builtin; refine Kd.R_append_rows (Kd.int .i64) (w0 := w) w.heap.size rfl (.tmp 5) (.tmp 6) 46 3 (.int .i64 0) 8 rfl Try.underlying46 info3 rfl (by decide) (by omega) (.slice (some ⟨w.heap.size, 0, none⟩) 0 0) [] l (some ad) l.length c (fun _ => True) (fun _ => False) rfl rfl (Hw.R_empty (Kd.int .i64) 3 w w.heap.size (fun _ => True) (Nat.le_refl _) trivial) (Kd.C_alloc HR.out _) (fun _ _ h => h) (fun _ h => h.elim) (fun _ _ => trivial) (below_alloc HB.out _) (by simp) (by have := HL.out; simp; omega) ?_; intro v1 w1 ho hb hg hat; clear hg hat))
    go_ret
    exact ⟨_, rfl, by simpa using ho, hb⟩
def slices_Clone_int_int.f (l0 : List Int) : Option (List Int) := if l0.length < 17592186044416 then some l0 else none
theorem slices_Clone_int_int.calls (A0 : Option Addr) (c0 : Nat) (l0 : List Int) (r : List Int) (w : World) (hr0 : Kd.C (Kd.int .i64) w A0 l0.length l0) (hc0 : l0.length ≤ c0) (h : slices_Clone_int_int.f l0 = some r) :
    Calls Try.prog 128 #[.slice A0 l0.length c0] w fun e w' => ∃ v0_ : Value, e = .returned (v0_) ∧ Kd.R (Kd.int .i64) 3 w' w.heap.size (fun _ => True) v0_ r ∧ Below w.heap.size w w' := by
  unfold slices_Clone_int_int.f at h
  split at h
  · rename_i hl
    obtain rfl := Option.some.inj h
    exact cloneInt.calls w A0 c0 l0 hr0 hc0 hl
  · cases h


end Go.Proofs.Ytoomacelbhojhaa.U
