/- Plain Lean functions with the answers of Go functions, and proofs of it: printed by a program of this session (pr.py) over the kit's print, with hand-written parts. -/
import Derived.Test.YtibapicnljedcabQx0
import Derived.Test.YtibapicnljedcabQx2
import Derived.Test.YtibapicnljedcabQx3
import Derived.Test.YtibapicnljedcabQx4
namespace Go.Proofs.Ytibapicnljedcab.Q
open Go.RowKit Go.Proofs.YtibapicnljedcabW.PrintWords Go.Proofs.YtibapicnljedcabW.PrintLast Go.Proofs.YtibapicnljedcabW.PrintMore
attribute [local go_sem] max2_int min2_int max_two min_two max_three min_three max_four min_four   -- for this text's walks alone
set_option linter.unusedVariables false
set_option linter.unusedSimpArgs false

-- FOR (*impl.solver).play
-- CALLS (impl.knowledge).behind ; (impl.knowledge).tests ; (impl.KindTest).fits ; spec.kiTable ; slices.IndexFunc[[]impl.KindTest,impl.KindTest]
-- USES info int
open Hm
instance (k : KS) : Decidable (KGood k) := by unfold KGood; infer_instance
def kCells (k : KS) : Value := .agg #[.int .i64 k.a, .int .i64 k.b, .int .i64 k.c, .int .i64 k.d, .int .i64 k.w, .int .i64 k.s]
def kI : Value → Option Int
  | .agg cs => match cs.toList with
    | [.int .i64 a, .int .i64 b, .int .i64 c, .int .i64 d, .int .i64 w, .int .i64 s] => if KGood ⟨a, b, c, d, w, s⟩ then some (gI ⟨a, b, c, d, w, s⟩) else none
    | _ => none
  | _ => none
def kPlace (k : KS) : Nat := (((((k.a * 7 + k.b) * 7 + k.c) * 7 + k.d) * 4 + k.w) * 4 + k.s).toNat
theorem kPlace_lt {k : KS} (h : KGood k) : kPlace k < 38416 := by unfold KGood at h; unfold kPlace; omega
theorem kPlace_inj {k l : KS} (hk : KGood k) (hl : KGood l) (h : kPlace k = kPlace l) : k = l := by
  obtain ⟨a, b, c, d, w, s⟩ := k
  obtain ⟨a', b', c', d', w', s'⟩ := l
  simp only [KGood] at hk hl
  simp only [kPlace] at h
  have h0 : ((((a * 7 + b) * 7 + c) * 7 + d) * 4 + w) * 4 + s = ((((a' * 7 + b') * 7 + c') * 7 + d') * 4 + w') * 4 + s' := by omega
  have e1 : s = s' ∧ (((a * 7 + b) * 7 + c) * 7 + d) * 4 + w = (((a' * 7 + b') * 7 + c') * 7 + d') * 4 + w' := by omega
  have e2 : w = w' ∧ ((a * 7 + b) * 7 + c) * 7 + d = ((a' * 7 + b') * 7 + c') * 7 + d' := by omega
  have e3 : d = d' ∧ (a * 7 + b) * 7 + c = (a' * 7 + b') * 7 + c' := by omega
  have e4 : c = c' ∧ a * 7 + b = a' * 7 + b' := by omega
  have e5 : b = b' ∧ a = a' := by omega
  rw [e1.1, e2.1, e3.1, e4.1, e5.1, e5.2]
def kPl : Value → Nat
  | .agg cs => match cs.toList with
    | [.int .i64 a, .int .i64 b, .int .i64 c, .int .i64 d, .int .i64 w, .int .i64 s] => kPlace ⟨a, b, c, d, w, s⟩
    | _ => 0
  | _ => 0
theorem kI_is (k : KS) (h : KGood k) : kI (kCells k) = some (gI k) := by simp [kI, kCells, h]
theorem kI_inv {v : Value} {n : Int} (h : kI v = some n) : ∃ k, KGood k ∧ v = kCells k ∧ kPl v = kPlace k := by
  unfold kI at h
  split at h
  · rename_i cs
    split at h
    · rename_i a b c d w s hc
      split at h
      · rename_i hg
        exact ⟨⟨a, b, c, d, w, s⟩, hg, by unfold kCells; congr 1; exact Array.toList_inj.1 (hc.trans rfl), by simp [kPl, hc]⟩
      · cases h
    · cases h
  · cases h
theorem kKeyed : Maps.Keyed Try.prog 60 := Maps.Keyed.of_law (deep_law_laid (by kernel_rfl) (m := 2) (by omega) (of_decide_eq_true (by kernel_rfl)) (by kernel_rfl) (by kernel_rfl))
theorem wf_i {n : Int} (h0 : -9223372036854775808 ≤ n) (h1 : n ≤ 9223372036854775807) : (Lit.int .i64 n).wf = true := by
  have e0 : IntKind.i64.min = -9223372036854775808 := by rfl
  have e1 : IntKind.i64.max = 9223372036854775807 := by rfl
  simp [Lit.wf, e0, e1]
  omega
theorem kKey_gen (P : Program) (m : Nat) (hu : P.underlying 60 = Try.prog.underlying 60) (h0 : P.underlying 3 = some (.int .i64)) (h1 : P.keyType 60 = true) (h2 : P.cellsOf 60 = 6) (h3 : P.cellsOf 3 = 1) (hm : P.types.size = m + 1) (k : KS) (h : KGood k) :
    ∃ kl, keyOf P 60 (kCells k) = some kl := by
  rw [Try.underlying60] at hu
  have wa := wf_i (n := k.a) (by unfold KGood at h; omega) (by unfold KGood at h; omega)
  have wb := wf_i (n := k.b) (by unfold KGood at h; omega) (by unfold KGood at h; omega)
  have wc := wf_i (n := k.c) (by unfold KGood at h; omega) (by unfold KGood at h; omega)
  have wd := wf_i (n := k.d) (by unfold KGood at h; omega) (by unfold KGood at h; omega)
  have ww := wf_i (n := k.w) (by unfold KGood at h; omega) (by unfold KGood at h; omega)
  have ws := wf_i (n := k.s) (by unfold KGood at h; omega) (by unfold KGood at h; omega)
  refine Option.isSome_iff_exists.1 ?_
  unfold keyOf
  simp only [hu, h1, kCells]
  simp [Value.formed, hu, h2, h3, Value.cells, Program.keyLits, hm, h0, wa, wb, wc, wd, ww, ws]
theorem kKey (k : KS) (h : KGood k) : ∃ kl, keyOf Try.prog 60 (kCells k) = some kl := by
  obtain ⟨m, hm⟩ : ∃ m, Try.prog.types.size = m + 1 := by
    have h4 : 0 < Try.prog.types.size := of_decide_eq_true (by kernel_rfl)
    exact ⟨Try.prog.types.size - 1, by omega⟩
  exact kKey_gen _ m rfl Try.underlying3 (by kernel_rfl) (by kernel_rfl) (by kernel_rfl) hm k h
def Slv (w : World) (sb mb : Nat) : Prop := w.heap[sb]? = some (.cells #[.bool false, .map (some mb)] 83 (0, 0)) ∧ Mem Try.prog 60 3 kI w mb
theorem Slv.ne {w : World} {sb mb : Nat} (h : Slv w sb mb) : sb ≠ mb := by
  intro e
  subst e
  obtain ⟨h1, es, clock, h2, _⟩ := h
  rw [h1] at h2
  cases h2
theorem Slv.below {w w' : World} {sb mb : Nat} (h : Slv w sb mb) (hb : Below w.heap.size w w') : Slv w' sb mb := ⟨blk_below h.1 hb, h.2.below hb⟩
theorem grown_below {w0 w w' : World} {r : Option Nat} (h : w0.grownBy w r) (hb : Below w.heap.size w w') : w0.grownBy w' r :=
  ⟨hb.os.trans h.os, hb.tape.trans h.tape, hb.output.trans h.output, Nat.le_trans h.size hb.size, fun i hi hr => (hb.block i (by have := h.size; omega)).trans (h.block i hi hr)⟩
theorem grown_refl (w : World) (r : Option Nat) : w.grownBy w r := ⟨rfl, rfl, rfl, Nat.le_refl _, fun _ _ _ => rfl⟩
def sPtr (sb : Nat) : Value := .pointer (some ⟨sb, 0, none⟩)
def LeastOk (sb mb : Nat) (k : KS) : Prop := ∀ w, Slv w sb mb → Calls Try.prog 38 #[.pointer (some ⟨sb, 0, none⟩), kCells k] w fun e w' => e = .returned (.int .i64 (gI k)) ∧ Slv w' sb mb ∧ w.grownBy w' (some mb)
def WithOk (sb mb : Nat) (k : KS) (t : Bool × Int) : Prop := ∀ w, Slv w sb mb → Calls Try.prog 62 #[.pointer (some ⟨sb, 0, none⟩), kCells k, .agg #[.bool t.1, .int .i64 t.2, .bool false]] w fun e w' => e = .returned (.int .i64 (gW k t)) ∧ Slv w' sb mb ∧ w.grownBy w' (some mb)
theorem mn_min (a b : Int) : mn a b = min a b := by unfold mn; split <;> omega
theorem mx_max (a b : Int) : mx a b = max a b := by unfold mx; split <;> omega
theorem behind_is {k : KS} (hk : KGood k) {t : Bool × Int} (ht : t ∈ k.tests) (br : Bool) : impl_knowledge_behind.f 9 k.a k.b k.c k.d k.w k.s t.1 t.2 br = some ((k.aft t.1 br t.2).a, (k.aft t.1 br t.2).b, (k.aft t.1 br t.2).c, (k.aft t.1 br t.2).d, (k.aft t.1 br t.2).w, (k.aft t.1 br t.2).s) := by
  unfold KGood at hk
  rcases mem_tests ht with ⟨e, g1, g2, g3⟩ | ⟨e, g1, g2, g3⟩ <;> rw [e] <;> cases br <;> simp only [impl_knowledge_behind.f, impl_knowledge_behind.j0, impl_knowledge_tight.f, KS.aft, KS.tight, if_true, if_false, Bool.false_eq_true, Option.bind_some] <;> simp <;> (repeat rw [Hw.wrap_id (by omega) (by omega)]) <;> (try simp only [mn_min, mx_max, and_self, true_and, and_true])

theorem grown_drew {w W : World} {r : Option Nat} (h : w.grownBy W r) : w.grownBy W.drew r := ⟨h.os, h.tape, h.output, h.size, h.block⟩
theorem grown_drewN {w W : World} {r : Option Nat} (h : w.grownBy W r) (n : Nat) : w.grownBy (W.drewN n) r := ⟨h.os, h.tape, h.output, h.size, h.block⟩
theorem grown_set {w W : World} {r : Option Nat} (h : w.grownBy W r) {g i : Nat} {v : Value} (hg : w.heap.size ≤ g) : w.grownBy (W.setCell ⟨g, i, none⟩ v) r :=
  ⟨h.os, h.tape, h.output, by simpa [World.setCell] using h.size, fun j hj hr => (Below.heap_setCell W _ v j (by simp; omega)).trans (h.block j hj hr)⟩
set_option maxHeartbeats 8000000 in
set_option maxRecDepth 100000 in
theorem with_of (sb mb : Nat) (k : KS) (hk : KGood k) (t : Bool × Int) (ht : t ∈ k.tests) (H0 : LeastOk sb mb (k.aft t.1 false t.2)) (H1 : LeastOk sb mb (k.aft t.1 true t.2)) : WithOk sb mb k t := by
  intro w hS
  have E0 := Aside0.mk (behind_is hk ht false)
  have E1 := Aside0.mk (behind_is hk ht true)
  have HS := Aside0.mk hS
  have hw1 := gW_lo k t
  have hw2 := gW_hi k t
  have HH := Aside0.mk (And.intro H0 H1)
  obtain ⟨q0, hq0⟩ : ∃ q, q = k.aft t.1 false t.2 := ⟨_, rfl⟩
  obtain ⟨q1, hq1⟩ : ∃ q, q = k.aft t.1 true t.2 := ⟨_, rfl⟩
  have hW : gW k t = 1 + max (gI q0) (gI q1) := by rw [hq0, hq1]; rfl
  rw [← hq0] at E0 HH
  rw [← hq1] at E1 HH
  clear H0 H1 hq0 hq1 hk ht
  obtain ⟨r, hr⟩ : ∃ r, r = gW k t := ⟨_, rfl⟩
  rw [← hr] at hw1 hw2 hW
  rw [← hr]
  have hkn : kNever = 1125899906842624 := rfl
  have w3 : IntKind.i64.wrap (1 + max (gI q0) (gI q1)) = r := by rw [← hW]; exact Hw.wrap_w (by omega) (by rw [hkn] at hw2; omega)
  clear hr hw1 hw2 hW hS hkn
  obtain ⟨a, b, c, d, e, f⟩ := k
  obtain ⟨st, fl⟩ := t
  go_enter Try.func62, Try.ntmps62
  go_upto_region 1 with (first | ((with_reducible refine gate_dst (N := 4) rfl ?_); refine box_event ?hg (N := 4) ?hd (cs := #[.int .i64 a, .int .i64 b, .int .i64 c, .int .i64 d, .int .i64 e, .int .i64 f]) (t := 60) ?hr ?_; (case hd => rfl); (case hg => rfl); (case hr => first | (go_simp; done) | (go_simp; rfl)); intro g1 hg_g1 w_g1 BK_g1 hb_g1; have n0_ := Aside0.mk (HS.out.below hb_g1); have n1_ := Aside0.mk (grown_below (grown_refl w (some mb)) hb_g1); have n2_ := Aside0.mk (BK_g1); have n3_ := Aside0.mk (show g1 ≠ mb by have := HS.out.2.lt; omega); (try clear HS); (try clear HG); (try clear B1); (try clear N1); have HS := n0_; have HG := n1_; have B1 := n2_; have N1 := n3_; clear n0_ n1_ n2_ n3_; clear hg_g1 BK_g1 hb_g1) | ((with_reducible refine gate_dst (N := 5) rfl ?_); refine box_event ?hg (N := 5) ?hd (cs := #[.bool st, .int .i64 fl, .bool false]) (t := 43) ?hr ?_; (case hd => rfl); (case hg => rfl); (case hr => first | (go_simp; done) | (go_simp; rfl)); intro g2 hg_g2 w_g2 BK_g2 hb_g2; have n0_ := Aside0.mk (HS.out.below hb_g2); have n1_ := Aside0.mk (grown_below HG.out hb_g2); have n2_ := Aside0.mk (BK_g2); have n3_ := Aside0.mk (show g2 ≠ mb by have := HS.out.2.lt; omega); have n4_ := Aside0.mk (show w.heap.size ≤ g2 by have := HG.out.size; omega); have n5_ := Aside0.mk (blk_below B1.out hb_g2); have n6_ := Aside0.mk (show g1 ≠ g2 by have := blk_lt B1.out; omega); (try clear HS); (try clear HG); (try clear B2); (try clear N2); (try clear P2); (try clear B1); (try clear N12); have HS := n0_; have HG := n1_; have B2 := n2_; have N2 := n3_; have P2 := n4_; have B1 := n5_; have N12 := n6_; clear n0_ n1_ n2_ n3_ n4_ n5_ n6_; clear hg_g2 BK_g2 hb_g2))
  have ha_0 : w_g2.cell? ⟨g1, 0, none⟩ = some (.int .i64 a) := (blk_cell B1.out 0).trans rfl
  have ha_1 : w_g2.cell? ⟨g1, 1, none⟩ = some (.int .i64 b) := (blk_cell B1.out 1).trans rfl
  have ha_2 : w_g2.cell? ⟨g1, 2, none⟩ = some (.int .i64 c) := (blk_cell B1.out 2).trans rfl
  have ha_3 : w_g2.cell? ⟨g1, 3, none⟩ = some (.int .i64 d) := (blk_cell B1.out 3).trans rfl
  have ha_4 : w_g2.cell? ⟨g1, 4, none⟩ = some (.int .i64 e) := (blk_cell B1.out 4).trans rfl
  have ha_5 : w_g2.cell? ⟨g1, 5, none⟩ = some (.int .i64 f) := (blk_cell B1.out 5).trans rfl
  have fa_0 := blk_frozen B1.out 0
  have fa_1 := blk_frozen B1.out 1
  have fa_2 := blk_frozen B1.out 2
  have fa_3 := blk_frozen B1.out 3
  have fa_4 := blk_frozen B1.out 4
  have fa_5 := blk_frozen B1.out 5
  have hb_0 : w_g2.cell? ⟨g2, 0, none⟩ = some (.bool st) := (blk_cell B2.out 0).trans rfl
  have hb_1 : w_g2.cell? ⟨g2, 1, none⟩ = some (.int .i64 fl) := (blk_cell B2.out 1).trans rfl
  have hb_2 : w_g2.cell? ⟨g2, 2, none⟩ = some (.bool false) := (blk_cell B2.out 2).trans rfl
  have fb_0 := blk_frozen B2.out 0
  have fb_1 := blk_frozen B2.out 1
  have fb_2 := blk_frozen B2.out 2
  go_upto_region 2 with (first | ((with_reducible refine gate_callee (f := 56) rfl ?_); refine goesL_ (some 11) rfl rfl Try.func56 (by kernel_rfl) rfl #[.agg #[.int .i64 a, .int .i64 b, .int .i64 c, .int .i64 d, .int .i64 e, .int .i64 f], .agg #[.bool st, .int .i64 fl, .bool false]] rfl (by (try simp only [List.map_toArray, List.map_cons, List.map_nil]); first | done | rfl) ?_; refine (impl_knowledge_behind.calls 9 a b c d e f st fl false _ _ _ _ _ _ _ E0.out).mono ?_; rintro e_ w_1 ⟨rfl, hb_⟩; refine ⟨_, rfl, ?_⟩; have n0_ := Aside0.mk (HS.out.below hb_); have n1_ := Aside0.mk (grown_below (r := some mb) (w0 := w) (by first | exact HG.out | exact grown_drew HG.out | exact grown_drewN HG.out _) hb_); have n2_ := Aside0.mk (blk_below B1.out hb_); have n3_ := Aside0.mk (blk_below B2.out hb_); (try clear HS); (try clear HG); (try clear B1); (try clear B2); have HS := n0_; have HG := n1_; have B1 := n2_; have B2 := n3_; clear n0_ n1_ n2_ n3_; clear hb_) | ((with_reducible refine gate_callee (f := 38) rfl ?_); refine goesL_ (some 12) rfl rfl Try.func38 (by kernel_rfl) rfl #[.pointer (some ⟨sb, 0, none⟩), .agg #[.int .i64 q0.a, .int .i64 q0.b, .int .i64 q0.c, .int .i64 q0.d, .int .i64 q0.w, .int .i64 q0.s]] rfl (by (try simp only [List.map_toArray, List.map_cons, List.map_nil]); first | done | rfl) ?_; refine (HH.out.1 _ HS.out).mono ?_; rintro e_ w_2 ⟨rfl, hs_, hg_⟩; refine ⟨_, rfl, ?_⟩; have n0_ := Aside0.mk (hs_); have n1_ := Aside0.mk (World.grownBy.trans (row := some mb) (a := w) (by first | exact HG.out | exact grown_drew HG.out | exact grown_drewN HG.out _) hg_); have n2_ := Aside0.mk (blk_grown B1.out hg_ (by simpa using N1.out)); have n3_ := Aside0.mk (blk_grown B2.out hg_ (by simpa using N2.out)); (try clear HS); (try clear HG); (try clear B1); (try clear B2); have HS := n0_; have HG := n1_; have B1 := n2_; have B2 := n3_; clear n0_ n1_ n2_ n3_; clear hs_ hg_))
  clear ha_0 fa_0 ha_1 fa_1 ha_2 fa_2 ha_3 fa_3 ha_4 fa_4 ha_5 fa_5
  clear hb_0 fb_0 hb_1 fb_1 hb_2 fb_2
  have hb_0 : w_2.cell? ⟨g2, 0, none⟩ = some (.bool st) := (blk_cell B2.out 0).trans rfl
  have hb_1 : w_2.cell? ⟨g2, 1, none⟩ = some (.int .i64 fl) := (blk_cell B2.out 1).trans rfl
  have hb_2 : w_2.cell? ⟨g2, 2, none⟩ = some (.bool false) := (blk_cell B2.out 2).trans rfl
  have fb_0 := blk_frozen B2.out 0
  have fb_1 := blk_frozen B2.out 1
  have fb_2 := blk_frozen B2.out 2
  go_upto_region 3 with (first | ((with_reducible refine gate_store (t := 4) (p := 13) rfl ?_); refine store_event (t := 4) (p := 13) (v := ?vo_w_3) (w1 := (w_2.setCell ⟨g2, 2, none⟩ (.bool true))) ?hg ?ho ?hn ?hr ?_; (case ho => rfl); (case hg => rfl); (case hn => rfl); (case hr => first | (go_simp; done) | (go_simp; rfl)); intro w_3 hw_; have n0_ := Aside0.mk ((by rw [hw_]; exact ⟨blk_far HS.out.1 (show sb ≠ g2 from fun e_ => by have h_ := HS.out.1; rw [e_, B2.out] at h_; cases h_) _, HS.out.2.same (Below.heap_setCell _ _ _ _ (fun e_ => N2.out e_.symm))⟩ : Slv w_3 sb mb)); have n1_ := Aside0.mk ((by rw [hw_]; exact grown_set HG.out P2.out : w.grownBy w_3 (some mb))); have n2_ := Aside0.mk ((by rw [hw_]; exact blk_far B1.out N12.out _ : w_3.heap[g1]? = some (.cells #[.int .i64 a, .int .i64 b, .int .i64 c, .int .i64 d, .int .i64 e, .int .i64 f] 60 (0, 0)))); have n3_ := Aside0.mk ((by rw [hw_]; exact blk_put B2.out 2 _ rfl : w_3.heap[g2]? = some (.cells #[.bool st, .int .i64 fl, .bool true] 43 (0, 0)))); (try clear HS); (try clear HG); (try clear B1); (try clear B2); have HS := n0_; have HG := n1_; have B1 := n2_; have B2 := n3_; clear n0_ n1_ n2_ n3_; clear hw_))
  clear hb_0 fb_0 hb_1 fb_1 hb_2 fb_2
  have ha_0 : w_3.cell? ⟨g1, 0, none⟩ = some (.int .i64 a) := (blk_cell B1.out 0).trans rfl
  have ha_1 : w_3.cell? ⟨g1, 1, none⟩ = some (.int .i64 b) := (blk_cell B1.out 1).trans rfl
  have ha_2 : w_3.cell? ⟨g1, 2, none⟩ = some (.int .i64 c) := (blk_cell B1.out 2).trans rfl
  have ha_3 : w_3.cell? ⟨g1, 3, none⟩ = some (.int .i64 d) := (blk_cell B1.out 3).trans rfl
  have ha_4 : w_3.cell? ⟨g1, 4, none⟩ = some (.int .i64 e) := (blk_cell B1.out 4).trans rfl
  have ha_5 : w_3.cell? ⟨g1, 5, none⟩ = some (.int .i64 f) := (blk_cell B1.out 5).trans rfl
  have fa_0 := blk_frozen B1.out 0
  have fa_1 := blk_frozen B1.out 1
  have fa_2 := blk_frozen B1.out 2
  have fa_3 := blk_frozen B1.out 3
  have fa_4 := blk_frozen B1.out 4
  have fa_5 := blk_frozen B1.out 5
  have hb_0 : w_3.cell? ⟨g2, 0, none⟩ = some (.bool st) := (blk_cell B2.out 0).trans rfl
  have hb_1 : w_3.cell? ⟨g2, 1, none⟩ = some (.int .i64 fl) := (blk_cell B2.out 1).trans rfl
  have hb_2 : w_3.cell? ⟨g2, 2, none⟩ = some (.bool true) := (blk_cell B2.out 2).trans rfl
  have fb_0 := blk_frozen B2.out 0
  have fb_1 := blk_frozen B2.out 1
  have fb_2 := blk_frozen B2.out 2
  have hmx : (if gI q0 < gI q1 then gI q1 else gI q0) = max (gI q0) (gI q1) := by split <;> omega
  go_wp2_with (first | ((with_reducible refine gate_callee (f := 56) rfl ?_); refine goesL_ (some 18) rfl rfl Try.func56 (by kernel_rfl) rfl #[.agg #[.int .i64 a, .int .i64 b, .int .i64 c, .int .i64 d, .int .i64 e, .int .i64 f], .agg #[.bool st, .int .i64 fl, .bool true]] rfl (by (try simp only [List.map_toArray, List.map_cons, List.map_nil]); first | done | rfl) ?_; refine (impl_knowledge_behind.calls 9 a b c d e f st fl true _ _ _ _ _ _ _ E1.out).mono ?_; rintro e_ w_4 ⟨rfl, hb_⟩; refine ⟨_, rfl, ?_⟩; have n0_ := Aside0.mk (HS.out.below hb_); have n1_ := Aside0.mk (grown_below (r := some mb) (w0 := w) (by first | exact HG.out | exact grown_drew HG.out | exact grown_drewN HG.out _) hb_); have n2_ := Aside0.mk (blk_below B1.out hb_); have n3_ := Aside0.mk (blk_below B2.out hb_); (try clear HS); (try clear HG); (try clear B1); (try clear B2); have HS := n0_; have HG := n1_; have B1 := n2_; have B2 := n3_; clear n0_ n1_ n2_ n3_; clear hb_) | ((with_reducible refine gate_callee (f := 38) rfl ?_); refine goesL_ (some 19) rfl rfl Try.func38 (by kernel_rfl) rfl #[.pointer (some ⟨sb, 0, none⟩), .agg #[.int .i64 q1.a, .int .i64 q1.b, .int .i64 q1.c, .int .i64 q1.d, .int .i64 q1.w, .int .i64 q1.s]] rfl (by (try simp only [List.map_toArray, List.map_cons, List.map_nil]); first | done | rfl) ?_; refine (HH.out.2 _ HS.out).mono ?_; rintro e_ w_5 ⟨rfl, hs_, hg_⟩; refine ⟨_, rfl, ?_⟩; have n0_ := Aside0.mk (hs_); have n1_ := Aside0.mk (World.grownBy.trans (row := some mb) (a := w) (by first | exact HG.out | exact grown_drew HG.out | exact grown_drewN HG.out _) hg_); have n2_ := Aside0.mk (blk_grown B1.out hg_ (by simpa using N1.out)); have n3_ := Aside0.mk (blk_grown B2.out hg_ (by simpa using N2.out)); (try clear HS); (try clear HG); (try clear B1); (try clear B2); have HS := n0_; have HG := n1_; have B1 := n2_; have B2 := n3_; clear n0_ n1_ n2_ n3_; clear hs_ hg_))
  go_ret
  exact ⟨rfl, HS.out, HG.out⟩
theorem kFloors_nil {lo hi : Int} (h : hi ≤ lo) : kFloors lo hi = [] := by unfold kFloors; rw [show (hi - lo).toNat = 0 by omega]; rfl
theorem kFloors_cons {lo hi : Int} (h : lo < hi) : kFloors lo hi = (lo + 1) :: kFloors (lo + 1) hi := by
  unfold kFloors
  rw [show (hi - lo).toNat = (hi - (lo + 1)).toNat + 1 by omega, List.range_succ_eq_map, List.map_cons, List.map_map]
  congr 1
  · simp
  · refine List.map_congr_left fun i _ => ?_
    simp only [Function.comp]
    omega
theorem kFloors_len {lo hi : Int} : (kFloors lo hi).length = (hi - lo).toNat := by unfold kFloors; simp
def kS (t : Bool × Int) : S43 := ⟨t.1, t.2, false⟩
theorem tests_l1 (a b c d e f : Int) (hd : d ≤ 6) : ∀ (n : Nat) (x3 : List S43) (x5 : Int), 0 ≤ x5 → x5 ≤ 8 → (d + 1 - x5).toNat ≤ n → x3.length + n ≤ 1000 →
    impl_knowledge_tests.l1 (n + 1) x3 x5 a b c d e f = some (x3 ++ (if 0 < f then (kFloors (x5 - 1) d).map (fun g => kS (true, g)) else []))
  | 0, x3, x5, h0, h8, hn, hl => by
    rw [impl_knowledge_tests.l1, if_neg (by omega), kFloors_nil (by omega)]
    simp
  | n + 1, x3, x5, h0, h8, hn, hl => by
    rw [impl_knowledge_tests.l1]
    by_cases h : x5 ≤ d
    · rw [if_pos h]
      by_cases hf : f > 0
      · rw [if_pos hf, if_pos (by omega), Hw.wrap_id (by omega) (by omega), tests_l1 a b c d e f hd n _ (x5 + 1) (by omega) (by omega) (by omega) (by simp; omega), if_pos hf, if_pos hf, kFloors_cons (lo := x5 - 1) (by omega), show x5 - 1 + 1 = x5 by omega, show x5 + 1 - 1 = x5 by omega]
        simp [kS]
      · rw [if_neg hf, if_neg hf]
        simp
    · rw [if_neg h, kFloors_nil (by omega)]
      simp
theorem tests_l0 (a b c d e f : Int) (hb : b ≤ 6) (hd : d ≤ 6) (hc : 0 ≤ c) (hc6 : c ≤ 6) : ∀ (n : Nat) (x3 : List S43) (x4 : Int), 0 ≤ x4 → x4 ≤ 8 → (b + 1 - x4).toNat ≤ n → x3.length + n ≤ 900 →
    impl_knowledge_tests.l0 (n + 12) x3 x4 a b c d e f = some ((x3 ++ (if 0 < e then (kFloors (x4 - 1) b).map (fun g => kS (false, g)) else [])) ++ (if 0 < f then (kFloors c d).map (fun g => kS (true, g)) else [])) := by
  have hj : ∀ (n : Nat) (x3 : List S43), x3.length ≤ 900 → impl_knowledge_tests.j1 (n + 11) x3 a b c d e f = some (x3 ++ (if 0 < f then (kFloors c d).map (fun g => kS (true, g)) else [])) := by
    intro n x3 hx
    rw [impl_knowledge_tests.j1, Hw.wrap_id (by omega) (by omega)]
    have h := tests_l1 a b c d e f hd 9 x3 (c + 1) (by omega) (by omega) (by omega) (by omega)
    have h2 : ∀ m : Nat, impl_knowledge_tests.l1 (10 + m) x3 (c + 1) a b c d e f = impl_knowledge_tests.l1 10 x3 (c + 1) a b c d e f := by
      intro m
      induction m with
      | zero => rfl
      | succ m ih => rw [h] at ih ⊢; exact (impl_knowledge_tests.mono_l (10 + m)).2.1 _ _ _ _ _ _ _ _ _ ih
    rw [show n + 10 = 10 + n by omega, h2, h, show c + 1 - 1 = c by omega]
  intro n
  induction n with
  | zero =>
    intro x3 x4 h0 h8 hn hl
    rw [impl_knowledge_tests.l0, if_neg (by omega), hj 0 x3 (by omega), kFloors_nil (lo := x4 - 1) (by omega)]
    simp
  | succ n ih =>
    intro x3 x4 h0 h8 hn hl
    rw [show n + 1 + 12 = (n + 12) + 1 by omega, impl_knowledge_tests.l0]
    by_cases h : x4 ≤ b
    · rw [if_pos h]
      by_cases hf : e > 0
      · rw [if_pos hf, if_pos (by omega), Hw.wrap_id (by omega) (by omega), ih _ (x4 + 1) (by omega) (by omega) (by omega) (by simp; omega), if_pos hf, if_pos hf, kFloors_cons (lo := x4 - 1) (by omega), show x4 - 1 + 1 = x4 by omega, show x4 + 1 - 1 = x4 by omega]
        simp [kS]
      · rw [if_neg hf, if_neg hf, hj (n + 1) x3 (by omega)]
        simp
    · rw [if_neg h, hj (n + 1) x3 (by omega), kFloors_nil (lo := x4 - 1) (by omega)]
      simp
theorem tests_is {k : KS} (hk : KGood k) : impl_knowledge_tests.f 30 k.a k.b k.c k.d k.w k.s = some (k.tests.map kS) := by
  unfold KGood at hk
  rw [impl_knowledge_tests.f, Hw.wrap_id (by omega) (by omega), tests_l0 _ _ _ _ _ _ (by omega) (by omega) (by omega) (by omega) 18 _ _ (by omega) (by omega) (by omega) (by simp)]
  unfold KS.tests
  rw [show k.a + 1 - 1 = k.a by omega]
  simp only [List.nil_append, List.map_append]
  congr 2 <;> split <;> simp [Function.comp_def]
theorem tests_len {k : KS} (hk : KGood k) : k.tests.length ≤ 12 := by
  unfold KGood at hk
  unfold KS.tests
  rw [List.length_append]
  have h1 : ∀ lo hi : Int, (kFloors lo hi).length = (hi - lo).toNat := fun lo hi => kFloors_len
  split <;> split <;> simp [h1] <;> omega
theorem kFold_snoc (g : Bool × Int → Int) (z : Int) (l : List (Bool × Int)) (t : Bool × Int) : kFold g z (l ++ [t]) = min (kFold g z l) (g t) := by unfold kFold; rw [List.foldl_append]; rfl

theorem u115 : Try.prog.underlying 81 = some (.map 60 3) := Try.underlying81
theorem z3 (w : World) : (zeroValue 3).run Try.prog w = .ok (.int .i64 0) w := by kernel_rfl
theorem slv_store {w : World} {sb mb : Nat} {k : KS} (h : Slv w sb mb) (hk : KGood k) : ∃ w', (Instr.mapUpdate 81 (.map (some mb)) (kCells k) (.int .i64 (gI k))).run Try.prog w = .ok () w' ∧ Slv w' sb mb ∧ w.grownBy w' (some mb) := by
  obtain ⟨kl, hkl⟩ := kKey k hk
  have h0 := gI_lo k
  have h1 := gI_hi k
  have hkn : kNever = 1125899906842624 := rfl
  obtain ⟨w', h2, h3, h4⟩ := h.2.store kKeyed u115 Try.underlying3 kPl 38416 (by unfold maxLen; omega) (fun v n hv => by
    obtain ⟨k', hg, _, hp⟩ := kI_inv hv
    rw [hp]; exact kPlace_lt hg) (fun u v m n hu hv hp => by
    obtain ⟨k1, hg1, e1, hp1⟩ := kI_inv hu
    obtain ⟨k2, hg2, e2, hp2⟩ := kI_inv hv
    rw [hp1, hp2] at hp
    rw [e1, e2, kPlace_inj hg1 hg2 hp]) hkl (kI_is k hk) (wf_i (by omega) (by omega))
  exact ⟨w', h2, ⟨blk_grown h.1 h4 (by simpa using h.ne), h3⟩, h4⟩
set_option maxHeartbeats 8000000 in
set_option maxRecDepth 100000 in
theorem least_of (sb mb : Nat) (k : KS) (hk : KGood k) (HW : ∀ t ∈ k.tests, WithOk sb mb k t) : LeastOk sb mb k := by
  intro w hS
  have HS := Aside0.mk hS
  have hs_0 : w.cell? ⟨sb, 0, none⟩ = some (.bool false) := (blk_cell hS.1 0).trans rfl
  clear hs_0
  have HT0 := tests_is hk
  have hTl := tests_len hk
  have hdone := done_iff k
  have HD := Aside0.mk (@gI_done k)
  have HE := Aside0.mk (fun h_ => gI_eq hk h_)
  obtain ⟨kl, hkl⟩ := kKey k hk
  have HL := Aside0.mk (hS.2.look' kKeyed u115 z3 hkl (kI_is k hk))
  have HU0 := Aside0.mk (fun (W : World) (hW : Slv W sb mb) => slv_store hW hk)
  have HWt0 := Aside0.mk HW
  have HLO := Aside0.mk (fun t : Bool × Int => And.intro (gW_lo k t) (gW_hi k t))
  obtain ⟨x, hx⟩ : ∃ x, x = gI k := ⟨_, rfl⟩
  rw [← hx] at HD HE HL HU0
  rw [← hx]
  clear hS hkl HW hx
  obtain ⟨T, hT⟩ : ∃ T, T = k.tests.map kS := ⟨_, rfl⟩
  rw [← hT] at HT0
  have HT := Aside0.mk HT0
  have HTT := Aside0.mk hT
  have HTl := Aside0.mk hTl
  clear HT0 hT hTl
  obtain ⟨a, b, c, d, e, f⟩ := k
  simp only at hdone
  go_enter Try.func38, Try.ntmps38
  go_upto_region 1 with (first | ((with_reducible refine gate_dst (N := 3) rfl ?_); refine box_event ?hg (N := 3) ?hd (cs := #[.int .i64 a, .int .i64 b, .int .i64 c, .int .i64 d, .int .i64 e, .int .i64 f]) (t := 60) ?hr ?_; (case hd => rfl); (case hg => rfl); (case hr => first | (go_simp; done) | (go_simp; rfl)); intro g1 hg_g1 w_g1 BK_g1 hb_g1; have n0_ := Aside0.mk (HS.out.below hb_g1); have n1_ := Aside0.mk (grown_below (grown_refl w (some mb)) hb_g1); have n2_ := Aside0.mk (BK_g1); have n3_ := Aside0.mk (show g1 ≠ mb by have := HS.out.2.lt; omega); have n4_ := Aside0.mk ((hb_g1.block mb HS.out.2.lt : w_g1.heap[mb]? = w.heap[mb]?)); (try clear HS); (try clear HG); (try clear B1); (try clear N1); (try clear HM); have HS := n0_; have HG := n1_; have B1 := n2_; have N1 := n3_; have HM := n4_; clear n0_ n1_ n2_ n3_ n4_; clear hg_g1 BK_g1 hb_g1))
  have ha_0 : w_g1.cell? ⟨g1, 0, none⟩ = some (.int .i64 a) := (blk_cell B1.out 0).trans rfl
  have ha_1 : w_g1.cell? ⟨g1, 1, none⟩ = some (.int .i64 b) := (blk_cell B1.out 1).trans rfl
  have ha_2 : w_g1.cell? ⟨g1, 2, none⟩ = some (.int .i64 c) := (blk_cell B1.out 2).trans rfl
  have ha_3 : w_g1.cell? ⟨g1, 3, none⟩ = some (.int .i64 d) := (blk_cell B1.out 3).trans rfl
  have ha_4 : w_g1.cell? ⟨g1, 4, none⟩ = some (.int .i64 e) := (blk_cell B1.out 4).trans rfl
  have ha_5 : w_g1.cell? ⟨g1, 5, none⟩ = some (.int .i64 f) := (blk_cell B1.out 5).trans rfl
  have fa_0 := blk_frozen B1.out 0
  have fa_1 := blk_frozen B1.out 1
  have fa_2 := blk_frozen B1.out 2
  have fa_3 := blk_frozen B1.out 3
  have fa_4 := blk_frozen B1.out 4
  have fa_5 := blk_frozen B1.out 5
  have hs_0 : w_g1.cell? ⟨sb, 0, none⟩ = some (.bool false) := (blk_cell HS.out.1 0).trans rfl
  have hs_1 : w_g1.cell? ⟨sb, 1, none⟩ = some (.map (some mb)) := (blk_cell HS.out.1 1).trans rfl
  have hg_0 := blk_frozen HS.out.1 0
  have hg_1 := blk_frozen HS.out.1 1
  by_cases hd : (⟨a, b, c, d, e, f⟩ : KS).done = true
  · have hd2 := hdone.1 hd
    have e1 : (a == b) = true := by simpa using hd2.1
    have e2 : (c == d) = true := by simpa using hd2.2
    have hx0 := HD.out hd
    clear hd hd2 hdone
    go_wp2
    go_ret
    exact ⟨rfl, HS.out, HG.out⟩
  · have hnd : ¬ (a = b ∧ c = d) := fun h_ => hd (hdone.2 h_)
    have hE := Aside0.mk (HE.out (by simpa using hd))
    clear hd hdone HD HE
    have hcase : ((a == b) = false ∧ True) ∨ ((a == b) = true ∧ (c == d) = false) := by
      by_cases h1 : a = b
      · exact .inr ⟨by simpa using h1, by simpa using fun h2 => hnd ⟨h1, h2⟩⟩
      · exact .inl ⟨by simpa using h1, trivial⟩
    have HND := Aside0.mk hnd
    clear hnd
    rcases hcase with ⟨e1, e2⟩ | ⟨e1, e2⟩
    all_goals
      rcases HL.out with HL1 | HL1
      · have HLk := Aside0.mk HL1
        clear HL1 HL
        have l1 := HLk.out w_g1 HM.out
        have l2 := HLk.out w_g1.drew HM.out
        have l3 := fun n_ => HLk.out (w_g1.drewN n_) HM.out
        simp only [kCells] at l1 l2 l3
        go_upto_region 3 with fail
        go_quiet (fail)
        clear l1 l2 l3
        obtain ⟨w_q, hwq⟩ : ∃ W, W = w_g1.drewN nq := ⟨_, rfl⟩
        rw [← hwq]
        have n0_ : Aside0 (Slv w_q sb mb) := ⟨by rw [hwq]; exact HS.out⟩
        have n1_ : Aside0 (w.grownBy w_q (some mb)) := ⟨by rw [hwq]; exact grown_drewN HG.out _⟩
        have n2_ : Aside0 (w_q.heap[g1]? = some (.cells #[.int .i64 a, .int .i64 b, .int .i64 c, .int .i64 d, .int .i64 e, .int .i64 f] 60 (0, 0))) := ⟨by rw [hwq]; exact B1.out⟩
        clear HS HG B1 hwq HM
        clear ha_0 fa_0 ha_1 fa_1 ha_2 fa_2 ha_3 fa_3 ha_4 fa_4 ha_5 fa_5
        clear hs_0 hs_1 hg_0 hg_1
        have HS := n0_
        have HG := n1_
        have B1 := n2_
        clear n0_ n1_ n2_
        go_upto_region 7 with fail
        have ha_0 : w_q.cell? ⟨g1, 0, none⟩ = some (.int .i64 a) := (blk_cell B1.out 0).trans rfl
        have ha_1 : w_q.cell? ⟨g1, 1, none⟩ = some (.int .i64 b) := (blk_cell B1.out 1).trans rfl
        have ha_2 : w_q.cell? ⟨g1, 2, none⟩ = some (.int .i64 c) := (blk_cell B1.out 2).trans rfl
        have ha_3 : w_q.cell? ⟨g1, 3, none⟩ = some (.int .i64 d) := (blk_cell B1.out 3).trans rfl
        have ha_4 : w_q.cell? ⟨g1, 4, none⟩ = some (.int .i64 e) := (blk_cell B1.out 4).trans rfl
        have ha_5 : w_q.cell? ⟨g1, 5, none⟩ = some (.int .i64 f) := (blk_cell B1.out 5).trans rfl
        have fa_0 := blk_frozen B1.out 0
        have fa_1 := blk_frozen B1.out 1
        have fa_2 := blk_frozen B1.out 2
        have fa_3 := blk_frozen B1.out 3
        have fa_4 := blk_frozen B1.out 4
        have fa_5 := blk_frozen B1.out 5
        go_wp2_with (first | ((with_reducible refine gate_callee (f := 61) rfl ?_); refine goesL_ (some 40) rfl rfl Try.func61 (by kernel_rfl) rfl #[.agg #[.int .i64 a, .int .i64 b, .int .i64 c, .int .i64 d, .int .i64 e, .int .i64 f]] rfl (by (try simp only [List.map_toArray, List.map_cons, List.map_nil]); first | done | rfl) ?_; refine (impl_knowledge_tests.calls 30 a b c d e f _ _ HT.out).mono ?_; rintro e_ w_2 ⟨v_, rfl, hr_, hb_⟩; refine ⟨_, rfl, ?_⟩; obtain ⟨A_, c_, rfl⟩ := Kd.R_slice hr_; have n0_ := Aside0.mk ((Kd.R_mono (Kd.R_lower (Kd.R_bound hr_) (Nat.zero_le _)) (fun k_ hk_ => ⟨show k_ ≠ mb by have h_ := HS.out.2.lt; have h2_ := hk_.2.1; omega, hk_.2.2.1⟩) : Kd.R k43 43 w_2 0 (fun k_ => k_ ≠ mb ∧ k_ < w_2.heap.size) (.slice A_ T.length c_) T)); have n1_ := Aside0.mk (Nat.le_refl w_2.heap.size); have n2_ := Aside0.mk (HS.out.below hb_); have n3_ := Aside0.mk (grown_below (r := some mb) (w0 := w) (by first | exact HG.out | exact grown_drew HG.out | exact grown_drewN HG.out _) hb_); have n4_ := Aside0.mk (blk_below B1.out hb_); (try clear HR); (try clear HZ); (try clear HS); (try clear HG); (try clear B1); have HR := n0_; have HZ := n1_; have HS := n2_; have HG := n3_; have B1 := n4_; clear n0_ n1_ n2_ n3_ n4_; clear hb_ hr_))
        clear ha_0 fa_0 ha_1 fa_1 ha_2 fa_2 ha_3 fa_3 ha_4 fa_4 ha_5 fa_5
        obtain ⟨KT, hKT⟩ : ∃ KT, KT = (⟨a, b, c, d, e, f⟩ : KS).tests := ⟨_, rfl⟩
        rw [← hKT] at HTT hE HTl
        have hlen : T.length = KT.length := by rw [HTT.out, List.length_map]
        have HN := Aside0.mk hlen
        clear hlen
        have HKT := Aside0.mk hKT
        clear hKT
        go_loopg [7, 42] T.length (fun n v7 v42 w' => ∃ i : Nat, v42 = .int .i64 i ∧ v7 = .int .i64 (kFold (gW ⟨a, b, c, d, e, f⟩) kNever (KT.take i)) ∧ Aside0 (i + n = T.length) ∧ Aside0 (Kd.R k43 43 w' 0 (fun k_ => k_ ≠ mb ∧ k_ < w_2.heap.size) (.slice A_ T.length c_) T) ∧ Aside0 (Slv w' sb mb) ∧ Aside0 (w.grownBy w' (some mb)) ∧ Aside0 (w_2.heap.size ≤ w'.heap.size) ∧ Aside0 (w'.heap[g1]? = some (.cells #[.int .i64 a, .int .i64 b, .int .i64 c, .int .i64 d, .int .i64 e, .int .i64 f] 60 (0, 0))))
        case atStart => exact ⟨0, rfl, rfl, ⟨by omega⟩, HR, HS, HG, HZ, B1⟩
        case round =>
          clear HR HS HG HZ B1
          obtain ⟨i, rfl, rfl, HI, HR, HS, HG, HZ, B1⟩ := hrel
          by_cases hlt : i < T.length
          · have p0 : (0 : Int) ≤ (i : Int) := by omega
            have q0 : (i : Int) < (T.length : Int) := by omega
            obtain ⟨ad, ead, x_0, x_1, x_2⟩ := at_T43 (Kd.R_reads' HR.out).2.2 (i : Int) p0 q0
            cases ead
            have hik : i < KT.length := by have := HN.out; omega
            obtain ⟨tt, htt⟩ : ∃ tt, tt = KT[i] := ⟨_, rfl⟩
            have hrd : rd_T43 T (i : Int) = kS tt := by rw [htt, HTT.out]; unfold rd_T43; simp [hik]
            rw [hrd] at x_0 x_1 x_2
            have hmem : tt ∈ KT := by rw [htt]; exact List.getElem_mem hik
            have htake : KT.take (i + 1) = KT.take i ++ [tt] := by rw [htt]; exact (List.take_append_getElem hik).symm
            obtain ⟨m, hm⟩ : ∃ m, m = kFold (gW ⟨a, b, c, d, e, f⟩) kNever (KT.take i) := ⟨_, rfl⟩
            obtain ⟨m2, hm2⟩ : ∃ m2, m2 = kFold (gW ⟨a, b, c, d, e, f⟩) kNever (KT.take (i + 1)) := ⟨_, rfl⟩
            obtain ⟨gw, hgw⟩ : ∃ gw, gw = gW ⟨a, b, c, d, e, f⟩ tt := ⟨_, rfl⟩
            have hmin : (if gw < m then gw else m) = m2 := by rw [hm2, htake, kFold_snoc, ← hm, ← hgw]; split <;> omega
            have HWt := Aside0.mk (HWt0.out tt (by rw [← HKT.out]; exact hmem))
            unfold WithOk at HWt
            rw [← hgw] at HWt
            rw [← hm]
            obtain ⟨st, fl⟩ := tt
            simp only [kS, Int.toNat_natCast] at x_0 x_1 x_2
            have c0 : decide ((i : Int) < (T.length : Int)) = true := decide_eq_true q0
            have c0n : decide (i < T.length) = true := decide_eq_true hlt
            have c1 : decide (0 ≤ (i : Int)) = true := decide_eq_true p0
            have w1 : IntKind.i64.wrap ((i : Int) + 1) = ((i + 1 : Nat) : Int) := by rw [Hw.wrap_w (by have := HI.out; have := HTl.out; have := HN.out; omega) (by have := HI.out; have := HTl.out; have := HN.out; omega)]; omega
            have HQ := Aside0.mk hm2
            replace p0 := eq_true p0
            replace q0 := eq_true q0
            have HLT := Aside0.mk hlt
            clear hlt hik htt hrd hmem htake hm hm2 hgw
            go_upto_region 10 with (first | ((with_reducible refine gate_dst (N := 9) rfl ?_); refine box_event ?hg (N := 9) ?hd (cs := #[.bool false, .int .i64 0, .bool false]) (t := 43) ?hr ?_; (case hd => rfl); (case hg => rfl); (case hr => first | (go_simp; done) | (go_simp; rfl)); intro g3 hg_g3 w_g3 BK_g3 hb_g3; have n0_ := Aside0.mk (HS.out.below hb_g3); have n1_ := Aside0.mk (grown_below (r := some mb) (w0 := w) (by first | exact HG.out | exact grown_drew HG.out | exact grown_drewN HG.out _) hb_g3); have n2_ := Aside0.mk (show w.heap.size ≤ g3 by have := HG.out.size; omega); have n3_ := Aside0.mk (BK_g3); have n4_ := Aside0.mk (show g3 ≠ mb by have := HS.out.2.lt; omega); have n5_ := Aside0.mk (blk_below B1.out hb_g3); have n6_ := Aside0.mk (show g1 ≠ g3 by have := blk_lt B1.out; omega); have n7_ := Aside0.mk (Kd.R_below HR.out hb_g3); have n8_ := Aside0.mk (show sb ≠ g3 by have := blk_lt HS.out.1; omega); have n9_ := Aside0.mk (show mb ≠ g3 by have := HS.out.2.lt; omega); have n10_ := Aside0.mk (show w_2.heap.size ≤ g3 by have := HZ.out; omega); have n11_ := Aside0.mk (Nat.le_trans HZ.out hb_g3.size); (try clear HS); (try clear HG); (try clear P3); (try clear B3); (try clear N3); (try clear B1); (try clear N13); (try clear HR); (try clear S3); (try clear N3'); (try clear Z3); (try clear HZ); have HS := n0_; have HG := n1_; have P3 := n2_; have B3 := n3_; have N3 := n4_; have B1 := n5_; have N13 := n6_; have HR := n7_; have S3 := n8_; have N3' := n9_; have Z3 := n10_; have HZ := n11_; clear n0_ n1_ n2_ n3_ n4_ n5_ n6_ n7_ n8_ n9_ n10_ n11_; clear hg_g3 BK_g3 hb_g3; have h3_0 : w_g3.cell? ⟨g3, 0, none⟩ = some (.bool false) := (blk_cell B3.out 0).trans rfl; have f3_0 := blk_frozen B3.out 0; have h3_1 : w_g3.cell? ⟨g3, 1, none⟩ = some (.int .i64 0) := (blk_cell B3.out 1).trans rfl; have f3_1 := blk_frozen B3.out 1; have h3_2 : w_g3.cell? ⟨g3, 2, none⟩ = some (.bool false) := (blk_cell B3.out 2).trans rfl; have f3_2 := blk_frozen B3.out 2) | ((with_reducible refine gate_store (t := 43) (p := 9) rfl ?_); refine store_event (t := 43) (p := 9) (v := ?vo_w_4) (w1 := (((w_g3.setCell ⟨g3, 0, none⟩ (.bool st)).setCell ⟨g3, 1, none⟩ (.int .i64 fl)).setCell ⟨g3, 2, none⟩ (.bool false))) ?hg ?ho ?hn ?hr ?_; (case ho => rfl); (case hg => rfl); (case hn => rfl); (case hr => first | (go_simp; done) | (go_simp; rfl)); intro w_4 hw_; have n0_ := Aside0.mk ((by rw [hw_]; exact ⟨blk_far (blk_far (blk_far HS.out.1 S3.out _) S3.out _) S3.out _, HS.out.2.same ((Below.heap_setCell _ _ _ _ N3'.out).trans ((Below.heap_setCell _ _ _ _ N3'.out).trans (Below.heap_setCell _ _ _ _ N3'.out)))⟩ : Slv w_4 sb mb)); have n1_ := Aside0.mk ((by rw [hw_]; exact grown_set (grown_set (grown_set HG.out P3.out) P3.out) P3.out : w.grownBy w_4 (some mb))); have n2_ := Aside0.mk ((by rw [hw_]; exact blk_far (blk_far (blk_far B1.out N13.out _) N13.out _) N13.out _ : w_4.heap[g1]? = some (.cells #[.int .i64 a, .int .i64 b, .int .i64 c, .int .i64 d, .int .i64 e, .int .i64 f] 60 (0, 0)))); have n3_ := Aside0.mk ((by rw [hw_]; exact blk_put (blk_put (blk_put B3.out 0 _ rfl) 1 _ rfl) 2 _ rfl : w_4.heap[g3]? = some (.cells #[.bool st, .int .i64 fl, .bool false] 43 (0, 0)))); have n4_ := Aside0.mk ((by rw [hw_]; simpa [World.setCell] using HZ.out : w_2.heap.size ≤ w_4.heap.size)); have n5_ := Aside0.mk ((by rw [hw_]; exact Kd.R_far (Kd.R_far (Kd.R_far HR.out (fun k_ hk_ => Nat.ne_of_lt (Nat.lt_of_lt_of_le hk_.2 Z3.out)) _) (fun k_ hk_ => Nat.ne_of_lt (Nat.lt_of_lt_of_le hk_.2 Z3.out)) _) (fun k_ hk_ => Nat.ne_of_lt (Nat.lt_of_lt_of_le hk_.2 Z3.out)) _ : Kd.R k43 43 w_4 0 (fun k_ => k_ ≠ mb ∧ k_ < w_2.heap.size) (.slice (some ad) T.length c_) T)); (try clear HS); (try clear HG); (try clear B1); (try clear B3); (try clear HZ); (try clear HR); have HS := n0_; have HG := n1_; have B1 := n2_; have B3 := n3_; have HZ := n4_; have HR := n5_; clear n0_ n1_ n2_ n3_ n4_ n5_; clear hw_))
            have ha_0 : w_4.cell? ⟨g1, 0, none⟩ = some (.int .i64 a) := (blk_cell B1.out 0).trans rfl
            have ha_1 : w_4.cell? ⟨g1, 1, none⟩ = some (.int .i64 b) := (blk_cell B1.out 1).trans rfl
            have ha_2 : w_4.cell? ⟨g1, 2, none⟩ = some (.int .i64 c) := (blk_cell B1.out 2).trans rfl
            have ha_3 : w_4.cell? ⟨g1, 3, none⟩ = some (.int .i64 d) := (blk_cell B1.out 3).trans rfl
            have ha_4 : w_4.cell? ⟨g1, 4, none⟩ = some (.int .i64 e) := (blk_cell B1.out 4).trans rfl
            have ha_5 : w_4.cell? ⟨g1, 5, none⟩ = some (.int .i64 f) := (blk_cell B1.out 5).trans rfl
            have fa_0 := blk_frozen B1.out 0
            have fa_1 := blk_frozen B1.out 1
            have fa_2 := blk_frozen B1.out 2
            have fa_3 := blk_frozen B1.out 3
            have fa_4 := blk_frozen B1.out 4
            have fa_5 := blk_frozen B1.out 5
            have hb_0 : w_4.cell? ⟨g3, 0, none⟩ = some (.bool st) := (blk_cell B3.out 0).trans rfl
            have hb_1 : w_4.cell? ⟨g3, 1, none⟩ = some (.int .i64 fl) := (blk_cell B3.out 1).trans rfl
            have hb_2 : w_4.cell? ⟨g3, 2, none⟩ = some (.bool false) := (blk_cell B3.out 2).trans rfl
            have fb_0 := blk_frozen B3.out 0
            have fb_1 := blk_frozen B3.out 1
            have fb_2 := blk_frozen B3.out 2
            go_wp2_with (first | ((with_reducible refine gate_callee (f := 62) rfl ?_); refine goesL_ (some 50) rfl rfl Try.func62 (by kernel_rfl) rfl #[.pointer (some ⟨sb, 0, none⟩), .agg #[.int .i64 a, .int .i64 b, .int .i64 c, .int .i64 d, .int .i64 e, .int .i64 f], .agg #[.bool st, .int .i64 fl, .bool false]] rfl (by (try simp only [List.map_toArray, List.map_cons, List.map_nil]); first | done | rfl) ?_; refine (HWt.out _ HS.out).mono ?_; rintro e_ w_5 ⟨rfl, hs_, hg_⟩; refine ⟨_, rfl, ?_⟩; have n0_ := Aside0.mk (Kd.R_grown (row := some mb) HR.out hg_ (fun k_ hk_ h_ => hk_.1 (Option.some.inj h_))); have n1_ := Aside0.mk (Nat.le_trans HZ.out hg_.size); have n2_ := Aside0.mk (hs_); have n3_ := Aside0.mk (World.grownBy.trans (row := some mb) (a := w) (by first | exact HG.out | exact grown_drew HG.out | exact grown_drewN HG.out _) hg_); have n4_ := Aside0.mk (blk_grown B1.out hg_ (by simpa using N1.out)); (try clear HR); (try clear HZ); (try clear HS); (try clear HG); (try clear B1); have HR := n0_; have HZ := n1_; have HS := n2_; have HG := n3_; have B1 := n4_; clear n0_ n1_ n2_ n3_ n4_; clear hs_ hg_))
            go_roundg (T.length - (i + 1))
            case measure => have := HI.out; have := HLT.out; omega
            case rel => exact ⟨i + 1, rfl, congrArg (Value.int .i64) HQ.out, ⟨by have := HI.out; have := HLT.out; omega⟩, HR, HS, HG, HZ, B1⟩
          · have hgk : gk = 0 := by have := HI.out; omega
            have c0 : decide ((i : Int) < (T.length : Int)) = false := decide_eq_false (by omega)
            have c0n : decide (i < T.length) = false := decide_eq_false hlt
            have hall : kFold (gW ⟨a, b, c, d, e, f⟩) kNever (KT.take i) = x := by rw [hE.out, List.take_of_length_le (by have := HN.out; omega)]
            rw [hall]
            clear hlt hgk hall
            have ha_0 : wr.cell? ⟨g1, 0, none⟩ = some (.int .i64 a) := (blk_cell B1.out 0).trans rfl
            have ha_1 : wr.cell? ⟨g1, 1, none⟩ = some (.int .i64 b) := (blk_cell B1.out 1).trans rfl
            have ha_2 : wr.cell? ⟨g1, 2, none⟩ = some (.int .i64 c) := (blk_cell B1.out 2).trans rfl
            have ha_3 : wr.cell? ⟨g1, 3, none⟩ = some (.int .i64 d) := (blk_cell B1.out 3).trans rfl
            have ha_4 : wr.cell? ⟨g1, 4, none⟩ = some (.int .i64 e) := (blk_cell B1.out 4).trans rfl
            have ha_5 : wr.cell? ⟨g1, 5, none⟩ = some (.int .i64 f) := (blk_cell B1.out 5).trans rfl
            have fa_0 := blk_frozen B1.out 0
            have fa_1 := blk_frozen B1.out 1
            have fa_2 := blk_frozen B1.out 2
            have fa_3 := blk_frozen B1.out 3
            have fa_4 := blk_frozen B1.out 4
            have fa_5 := blk_frozen B1.out 5
            have hs_0 : wr.cell? ⟨sb, 0, none⟩ = some (.bool false) := (blk_cell HS.out.1 0).trans rfl
            have hs_1 : wr.cell? ⟨sb, 1, none⟩ = some (.map (some mb)) := (blk_cell HS.out.1 1).trans rfl
            have hg_0 := blk_frozen HS.out.1 0
            have hg_1 := blk_frozen HS.out.1 1
            go_wp2_with fail
            go_still_tail 6, (by kernel_rfl)
            change wpList _ _ _ _ _ wr.drew
            obtain ⟨w_u, hu1, hu2, hu3⟩ := HU0.out wr.drew HS.out
            go_wp2_with (first | (at_mapUpdate; refine Hm.at_store rfl rfl _ _ _ 81 rfl mb (kCells ⟨a, b, c, d, e, f⟩) (.int .i64 x) w_u rfl rfl rfl hu1 ?_))
            go_ret
            exact ⟨rfl, hu2, World.grownBy.trans (grown_drew HG.out) hu3⟩
      · have HLk := Aside0.mk HL1
        clear HL1 HL
        have l1 := HLk.out w_g1 HM.out
        have l2 := HLk.out w_g1.drew HM.out
        have l3 := fun n_ => HLk.out (w_g1.drewN n_) HM.out
        simp only [kCells] at l1 l2 l3
        go_upto_region 3 with fail
        go_quiet (fail)
        go_wp2
        go_ret
        exact ⟨rfl, HS.out, grown_drewN HG.out _⟩
set_option maxHeartbeats 4000000 in
set_option maxRecDepth 100000 in
theorem idxJ (J : World → Prop) (p : S43 → Bool) (F : Nat) (fn : Func) (cap : Array Value) (A : Option Addr) (c : Nat) (l : List S43) (w : World) (hw : J w) (hr : ∀ W, J W → Kd.C k43 W A l.length l)
    (hF : Try.prog.funcs[F]? = some fn) (hname : (fn.name == "runtime.NumGoroutine") = false) (hb : fn.body.isSome = true)
    (hf : ∀ (x : S43) (W : World), x ∈ l → J W → Calls Try.prog F (#[.agg #[.bool x.f0, .int .i64 x.f1, .bool x.f2]] ++ cap) W fun e W' => e = .returned (.bool (p x)) ∧ J W') :
    Calls Try.prog 66 #[.slice A l.length c, .func (.func F) #[] cap] w fun e w' => e = .returned (.int .i64 (Hw.idxFrom p l 0)) ∧ J w' := by
  have hm := Kd.C_max (hr w hw)
  have HR := Aside0.mk hr
  have HN := Aside0.mk hname
  have HF := Aside0.mk hF
  have HBd := Aside0.mk hb
  have Hf := Aside0.mk hf
  have HJ := Aside0.mk hw
  clear hr hname hF hb hf hw
  go_enter Try.func66, Try.ntmps66
  go_wp2
  go_loopg [8] l.length (fun n v w' => ∃ k : Nat, v = .int .i64 k ∧ Aside0 (k + n = l.length) ∧ Aside0 (Hw.idxFrom p (l.drop k) k = Hw.idxFrom p l 0) ∧ Aside0 (J w'))
  case atStart => exact ⟨0, rfl, ⟨by omega⟩, ⟨by simp⟩, HJ⟩
  case round =>
    clear HJ
    obtain ⟨k, rfl, HK, HI, HJ⟩ := hrel
    have hk := HK.out
    by_cases hlt : k < l.length
    · have h1 : (k : Int) < (l.length : Int) := by omega
      have h2 : decide ((k : Int) < (l.length : Int)) = true := decide_eq_true h1
      obtain ⟨ad, rfl, c0, c1, c2⟩ := at_T43 (HR.out _ HJ.out) k (by omega) (by omega)
      simp only [Int.toNat_natCast] at c0 c1 c2
      have HM : Aside0 (rd_T43 l k ∈ l) := ⟨by simp only [rd_T43, Int.toNat_natCast]; rw [List.getD_eq_getElem?_getD, List.getElem?_eq_getElem hlt]; exact List.getElem_mem _⟩
      clear h1
      go_wp2_with (first | ((with_reducible refine Hw.gateV (t := 11) rfl ?_); go_loud (refine Hw.goesV (some 16) rfl rfl HF.out HN.out HBd.out #[.agg #[.bool (rd_T43 l k).f0, .int .i64 (rd_T43 l k).f1, .bool (rd_T43 l k).f2]] rfl rfl (by simp only [List.map_toArray, List.map_cons, List.map_nil]; rfl) ?_); (refine (Hf.out (rd_T43 l k) _ HM.out HJ.out).mono ?_); rintro e w1 ⟨rfl, hb1⟩; refine ⟨_, rfl, ?_⟩))
      · have hp : p (rd_T43 l k) = true := by assumption
        go_ret
        exact ⟨congrArg (fun z => Ending.returned (.int .i64 z)) ((Hw.idx_yes p l k hlt _ hp).symm.trans HI.out), hb1⟩
      · have hp : p (rd_T43 l k) = false := by assumption
        go_roundg (l.length - (k + 1))
        case measure => omega
        case rel => exact ⟨k + 1, by go_num, ⟨by omega⟩, ⟨(Hw.idx_no p l k hlt _ hp).symm.trans HI.out⟩, ⟨hb1⟩⟩
    · have h2 : decide ((k : Int) < (l.length : Int)) = false := decide_eq_false (by omega)
      have HS := Aside0.mk (Hw.idxFrom_end p l k (by omega))
      go_wp2
      go_ret
      exact ⟨congrArg (fun z => Ending.returned (.int .i64 z)) (HS.out.symm.trans HI.out), HJ.out⟩
theorem solver_ok (sb mb : Nat) : ∀ (n : Nat) (k : KS), KGood k → k.ms ≤ n → LeastOk sb mb k ∧ ∀ t ∈ k.tests, WithOk sb mb k t
  | 0, k, hk, hn => by
    have hw : ∀ t ∈ k.tests, WithOk sb mb k t := fun t ht => by have := (aft_good hk ht false).2; omega
    exact ⟨least_of sb mb k hk hw, hw⟩
  | n + 1, k, hk, hn => by
    have hw : ∀ t ∈ k.tests, WithOk sb mb k t := fun t ht => by
      have a0 := aft_good hk ht false
      have a1 := aft_good hk ht true
      exact with_of sb mb k hk t ht (solver_ok sb mb n _ a0.1 (by omega)).1 (solver_ok sb mb n _ a1.1 (by omega)).1
    exact ⟨least_of sb mb k hk hw, hw⟩

theorem Slv.far {w : World} {sb mb g i : Nat} {v : Value} (h : Slv w sb mb) (h1 : sb ≠ g) (h2 : mb ≠ g) : Slv (w.setCell ⟨g, i, none⟩ v) sb mb := ⟨blk_far h.1 h1 _, h.2.same (Below.heap_setCell _ _ _ _ h2)⟩
set_option maxHeartbeats 4000000 in
set_option maxRecDepth 100000 in
theorem newSolver.calls (w : World) : Calls Try.prog 30 #[.bool false] w fun e w' => e = .returned (sPtr (w.heap.size + 1)) ∧ Slv w' (w.heap.size + 1) w.heap.size ∧ Below w.heap.size w w' := by
  have hmk : ∀ w : World, (Instr.makeMap 81 none).run Try.prog w = .ok (.map (some w.heap.size)) (w.alloc (.map #[] 0)) := fun _ => rfl
  go_enter Try.func30, Try.ntmps30
  go_wp2
  go_ret
  refine ⟨rfl, ⟨?_, (Hm.Mem.made _ _ _ _ _).alloc _⟩, below_alloc (below_alloc (Below.refl _ _) _) _⟩
  have h_ := blk_new (w.alloc (.map #[] 0)) (.cells #[.bool false, .map (some w.heap.size)] 83 (0, 0))
  rwa [World.size_alloc] at h_
set_option maxHeartbeats 4000000 in
set_option maxRecDepth 100000 in
theorem first1.calls (sb mb : Nat) (k : KS) (t : Bool × Int) (HL : LeastOk sb mb k) (HW : WithOk sb mb k t) (g2 g3 : Nat) (w : World) (hS : Slv w sb mb) (h2 : w.heap[g2]? = some (.cells #[.pointer (some ⟨sb, 0, none⟩)] 56 (0, 0))) (h3 : w.heap[g3]? = some (.cells #[.int .i64 k.a, .int .i64 k.b, .int .i64 k.c, .int .i64 k.d, .int .i64 k.w, .int .i64 k.s] 60 (0, 0))) (n2 : g2 ≠ mb) (n3 : g3 ≠ mb) :
    Calls Try.prog 67 #[.agg #[.bool t.1, .int .i64 t.2, .bool false], .pointer (some ⟨g2, 0, none⟩), .pointer (some ⟨g3, 0, none⟩)] w fun e w' => e = .returned (.bool (gW k t == gI k)) ∧ Slv w' sb mb ∧ w.grownBy w' (some mb) := by
  have HS := Aside0.mk hS
  have B2 := Aside0.mk h2
  have B3 := Aside0.mk h3
  have HG := Aside0.mk (Hx.g_refl w (some mb))
  have ORD := Aside0.mk (And.intro n2 n3)
  have HWt := Aside0.mk HW
  have HLt := Aside0.mk HL
  unfold WithOk at HWt
  unfold LeastOk at HLt
  obtain ⟨x, hx⟩ : ∃ x, x = gI k := ⟨_, rfl⟩
  obtain ⟨y, hy⟩ : ∃ y, y = gW k t := ⟨_, rfl⟩
  rw [← hx] at HLt
  rw [← hy] at HWt
  rw [← hx, ← hy]
  clear hx hy h2 h3 hS n2 n3 HL HW
  obtain ⟨a, b, c, d, e, f⟩ := k
  obtain ⟨st, fl⟩ := t
  go_enter Try.func67, Try.ntmps67
  go_upto_region 1 with (first | ((with_reducible refine gate_dst (N := 3) rfl ?_); refine box_event ?hg (N := 3) ?hd (cs := #[.bool st, .int .i64 fl, .bool false]) (t := 43) ?hr ?_; (case hd => rfl); (case hg => rfl); (case hr => first | (go_simp; done) | (go_simp; rfl)); intro gB4 hg_ w_gB4 BK_ hb_; have ORD_ : Aside0 ((g2 ≠ mb ∧ g3 ≠ mb) ∧ (g2 < gB4 ∧ g3 < gB4 ∧ mb < gB4 ∧ sb < gB4 ∧ w.heap.size ≤ gB4)) := ⟨by refine ⟨ORD.out, ?_⟩; (have := HS.out.2.lt); (have := blk_lt HS.out.1); (have := HG.out.size); (have := blk_lt B2.out); (have := blk_lt B3.out); omega⟩; clear ORD; have ORD := ORD_; clear ORD_; have n0_ : Aside0 (Slv w_gB4 sb mb) := ⟨Slv.below (w := _) (by exact HS.out) hb_⟩; have n1_ : Aside0 (w.grownBy w_gB4 (some mb)) := ⟨Hx.g_below (by first | exact HG.out | exact Hx.g_drew HG.out | exact Hx.g_drewN HG.out _) hb_⟩; have n2_ : Aside0 (w_gB4.heap[g2]? = some (.cells #[.pointer (some ⟨sb, 0, none⟩)] 56 (0, 0))) := ⟨Hx.b_below hb_ B2.out⟩; have n3_ : Aside0 (w_gB4.heap[g3]? = some (.cells #[.int .i64 a, .int .i64 b, .int .i64 c, .int .i64 d, .int .i64 e, .int .i64 f] 60 (0, 0))) := ⟨Hx.b_below hb_ B3.out⟩; have m0_ : Aside0 (w_gB4.heap[gB4]? = some (.cells #[.bool st, .int .i64 fl, .bool false] 43 (0, 0))) := ⟨BK_⟩; (try clear HS); (try clear HG); (try clear B2); (try clear B3); have HS := n0_; have HG := n1_; have B2 := n2_; have B3 := n3_; have B4 := m0_; clear n0_ n1_ n2_ n3_ m0_; have cB2_0 : w_gB4.cell? ⟨g2, 0, none⟩ = some (.pointer (some ⟨sb, 0, none⟩)) := (blk_cell B2.out 0).trans rfl; have dB2_0 := blk_frozen B2.out 0; have cB3_0 : w_gB4.cell? ⟨g3, 0, none⟩ = some (.int .i64 a) := (blk_cell B3.out 0).trans rfl; have dB3_0 := blk_frozen B3.out 0; have cB3_1 : w_gB4.cell? ⟨g3, 1, none⟩ = some (.int .i64 b) := (blk_cell B3.out 1).trans rfl; have dB3_1 := blk_frozen B3.out 1; have cB3_2 : w_gB4.cell? ⟨g3, 2, none⟩ = some (.int .i64 c) := (blk_cell B3.out 2).trans rfl; have dB3_2 := blk_frozen B3.out 2; have cB3_3 : w_gB4.cell? ⟨g3, 3, none⟩ = some (.int .i64 d) := (blk_cell B3.out 3).trans rfl; have dB3_3 := blk_frozen B3.out 3; have cB3_4 : w_gB4.cell? ⟨g3, 4, none⟩ = some (.int .i64 e) := (blk_cell B3.out 4).trans rfl; have dB3_4 := blk_frozen B3.out 4; have cB3_5 : w_gB4.cell? ⟨g3, 5, none⟩ = some (.int .i64 f) := (blk_cell B3.out 5).trans rfl; have dB3_5 := blk_frozen B3.out 5; have cB4_0 : w_gB4.cell? ⟨gB4, 0, none⟩ = some (.bool st) := (blk_cell B4.out 0).trans rfl; have dB4_0 := blk_frozen B4.out 0; have cB4_1 : w_gB4.cell? ⟨gB4, 1, none⟩ = some (.int .i64 fl) := (blk_cell B4.out 1).trans rfl; have dB4_1 := blk_frozen B4.out 1; have cB4_2 : w_gB4.cell? ⟨gB4, 2, none⟩ = some (.bool false) := (blk_cell B4.out 2).trans rfl; have dB4_2 := blk_frozen B4.out 2; clear hg_ BK_ hb_))
  go_region_held3 (fun w' => w'.cell? ⟨g2, 0, none⟩ = some (.pointer (some ⟨sb, 0, none⟩)) ∧ w'.cell? ⟨g3, 0, none⟩ = some (.int .i64 a) ∧ w'.cell? ⟨g3, 1, none⟩ = some (.int .i64 b) ∧ w'.cell? ⟨g3, 2, none⟩ = some (.int .i64 c) ∧ w'.cell? ⟨g3, 3, none⟩ = some (.int .i64 d) ∧ w'.cell? ⟨g3, 4, none⟩ = some (.int .i64 e) ∧ w'.cell? ⟨g3, 5, none⟩ = some (.int .i64 f) ∧ w'.cell? ⟨gB4, 0, none⟩ = some (.bool st) ∧ w'.cell? ⟨gB4, 1, none⟩ = some (.int .i64 fl) ∧ w'.cell? ⟨gB4, 2, none⟩ = some (.bool false)) (exact ⟨cB2_0, cB3_0, cB3_1, cB3_2, cB3_3, cB3_4, cB3_5, cB4_0, cB4_1, cB4_2⟩) (first | (go_at_call 62; refine (HWt.out w_gB4.drew HS.out).mono ?_; rintro e_ w_5 ⟨rfl, hs_, hg_⟩; have n0_ : Aside0 (Slv w_5 sb mb) := ⟨hs_⟩; have n1_ : Aside0 (w.grownBy w_5 (some mb)) := ⟨World.grownBy.trans (by first | exact HG.out | exact Hx.g_drew HG.out | exact Hx.g_drewN HG.out _) hg_⟩; have n2_ : Aside0 (w_5.heap[g2]? = some (.cells #[.pointer (some ⟨sb, 0, none⟩)] 56 (0, 0))) := ⟨Hx.b_grown hg_ B2.out (by simp only [ne_eq, Option.some.injEq]; have := ORD.out; omega)⟩; have n3_ : Aside0 (w_5.heap[g3]? = some (.cells #[.int .i64 a, .int .i64 b, .int .i64 c, .int .i64 d, .int .i64 e, .int .i64 f] 60 (0, 0))) := ⟨Hx.b_grown hg_ B3.out (by simp only [ne_eq, Option.some.injEq]; have := ORD.out; omega)⟩; have n4_ : Aside0 (w_5.heap[gB4]? = some (.cells #[.bool st, .int .i64 fl, .bool false] 43 (0, 0))) := ⟨Hx.b_grown hg_ B4.out (by simp only [ne_eq, Option.some.injEq]; have := ORD.out; omega)⟩; (try clear cB2_0 dB2_0 cB3_0 dB3_0 cB3_1 dB3_1 cB3_2 dB3_2 cB3_3 dB3_3 cB3_4 dB3_4 cB3_5 dB3_5 cB4_0 dB4_0 cB4_1 dB4_1 cB4_2 dB4_2); (try clear HS); (try clear HG); (try clear B2); (try clear B3); (try clear B4); have HS := n0_; have HG := n1_; have B2 := n2_; have B3 := n3_; have B4 := n4_; clear n0_ n1_ n2_ n3_ n4_; have cB2_0 : w_5.cell? ⟨g2, 0, none⟩ = some (.pointer (some ⟨sb, 0, none⟩)) := (blk_cell B2.out 0).trans rfl; have dB2_0 := blk_frozen B2.out 0; have cB3_0 : w_5.cell? ⟨g3, 0, none⟩ = some (.int .i64 a) := (blk_cell B3.out 0).trans rfl; have dB3_0 := blk_frozen B3.out 0; have cB3_1 : w_5.cell? ⟨g3, 1, none⟩ = some (.int .i64 b) := (blk_cell B3.out 1).trans rfl; have dB3_1 := blk_frozen B3.out 1; have cB3_2 : w_5.cell? ⟨g3, 2, none⟩ = some (.int .i64 c) := (blk_cell B3.out 2).trans rfl; have dB3_2 := blk_frozen B3.out 2; have cB3_3 : w_5.cell? ⟨g3, 3, none⟩ = some (.int .i64 d) := (blk_cell B3.out 3).trans rfl; have dB3_3 := blk_frozen B3.out 3; have cB3_4 : w_5.cell? ⟨g3, 4, none⟩ = some (.int .i64 e) := (blk_cell B3.out 4).trans rfl; have dB3_4 := blk_frozen B3.out 4; have cB3_5 : w_5.cell? ⟨g3, 5, none⟩ = some (.int .i64 f) := (blk_cell B3.out 5).trans rfl; have dB3_5 := blk_frozen B3.out 5; have cB4_0 : w_5.cell? ⟨gB4, 0, none⟩ = some (.bool st) := (blk_cell B4.out 0).trans rfl; have dB4_0 := blk_frozen B4.out 0; have cB4_1 : w_5.cell? ⟨gB4, 1, none⟩ = some (.int .i64 fl) := (blk_cell B4.out 1).trans rfl; have dB4_1 := blk_frozen B4.out 1; have cB4_2 : w_5.cell? ⟨gB4, 2, none⟩ = some (.bool false) := (blk_cell B4.out 2).trans rfl; have dB4_2 := blk_frozen B4.out 2; clear hs_ hg_) | (go_at_call 38; refine (HLt.out _ HS.out).mono ?_; rintro e_ w_6 ⟨rfl, hs_, hg_⟩; have n0_ : Aside0 (Slv w_6 sb mb) := ⟨hs_⟩; have n1_ : Aside0 (w.grownBy w_6 (some mb)) := ⟨World.grownBy.trans (by first | exact HG.out | exact Hx.g_drew HG.out | exact Hx.g_drewN HG.out _) hg_⟩; have n2_ : Aside0 (w_6.heap[g2]? = some (.cells #[.pointer (some ⟨sb, 0, none⟩)] 56 (0, 0))) := ⟨Hx.b_grown hg_ B2.out (by simp only [ne_eq, Option.some.injEq]; have := ORD.out; omega)⟩; have n3_ : Aside0 (w_6.heap[g3]? = some (.cells #[.int .i64 a, .int .i64 b, .int .i64 c, .int .i64 d, .int .i64 e, .int .i64 f] 60 (0, 0))) := ⟨Hx.b_grown hg_ B3.out (by simp only [ne_eq, Option.some.injEq]; have := ORD.out; omega)⟩; have n4_ : Aside0 (w_6.heap[gB4]? = some (.cells #[.bool st, .int .i64 fl, .bool false] 43 (0, 0))) := ⟨Hx.b_grown hg_ B4.out (by simp only [ne_eq, Option.some.injEq]; have := ORD.out; omega)⟩; (try clear cB2_0 dB2_0 cB3_0 dB3_0 cB3_1 dB3_1 cB3_2 dB3_2 cB3_3 dB3_3 cB3_4 dB3_4 cB3_5 dB3_5 cB4_0 dB4_0 cB4_1 dB4_1 cB4_2 dB4_2); (try clear HS); (try clear HG); (try clear B2); (try clear B3); (try clear B4); have HS := n0_; have HG := n1_; have B2 := n2_; have B3 := n3_; have B4 := n4_; clear n0_ n1_ n2_ n3_ n4_; have cB2_0 : w_6.cell? ⟨g2, 0, none⟩ = some (.pointer (some ⟨sb, 0, none⟩)) := (blk_cell B2.out 0).trans rfl; have dB2_0 := blk_frozen B2.out 0; have cB3_0 : w_6.cell? ⟨g3, 0, none⟩ = some (.int .i64 a) := (blk_cell B3.out 0).trans rfl; have dB3_0 := blk_frozen B3.out 0; have cB3_1 : w_6.cell? ⟨g3, 1, none⟩ = some (.int .i64 b) := (blk_cell B3.out 1).trans rfl; have dB3_1 := blk_frozen B3.out 1; have cB3_2 : w_6.cell? ⟨g3, 2, none⟩ = some (.int .i64 c) := (blk_cell B3.out 2).trans rfl; have dB3_2 := blk_frozen B3.out 2; have cB3_3 : w_6.cell? ⟨g3, 3, none⟩ = some (.int .i64 d) := (blk_cell B3.out 3).trans rfl; have dB3_3 := blk_frozen B3.out 3; have cB3_4 : w_6.cell? ⟨g3, 4, none⟩ = some (.int .i64 e) := (blk_cell B3.out 4).trans rfl; have dB3_4 := blk_frozen B3.out 4; have cB3_5 : w_6.cell? ⟨g3, 5, none⟩ = some (.int .i64 f) := (blk_cell B3.out 5).trans rfl; have dB3_5 := blk_frozen B3.out 5; have cB4_0 : w_6.cell? ⟨gB4, 0, none⟩ = some (.bool st) := (blk_cell B4.out 0).trans rfl; have dB4_0 := blk_frozen B4.out 0; have cB4_1 : w_6.cell? ⟨gB4, 1, none⟩ = some (.int .i64 fl) := (blk_cell B4.out 1).trans rfl; have dB4_1 := blk_frozen B4.out 1; have cB4_2 : w_6.cell? ⟨gB4, 2, none⟩ = some (.bool false) := (blk_cell B4.out 2).trans rfl; have dB4_2 := blk_frozen B4.out 2; clear hs_ hg_))
  go_wp2
  go_ret
  exact ⟨rfl, HS.out, HG.out⟩

theorem find_idx (q : Bool × Int → Bool) (t : Bool × Int) : ∀ (l : List (Bool × Int)) (j : Nat), l.find? q = some t → ∃ i : Nat, i < l.length ∧ Hw.idxFrom (fun x : S43 => q (x.f0, x.f1)) (l.map kS) j = ((j + i : Nat) : Int) ∧ l[i]? = some t
  | [], _, h => by simp at h
  | x :: l, j, h => by
    rw [List.find?_cons] at h
    cases hq : q x with
    | true =>
      rw [hq] at h
      have e := Option.some.inj h
      subst e
      exact ⟨0, by simp, by simp [Hw.idxFrom, kS, hq], by simp⟩
    | false =>
      rw [hq] at h
      obtain ⟨i, h1, h2, h3⟩ := find_idx q t l (j + 1) h
      refine ⟨i + 1, by simpa using h1, ?_, by simpa using h3⟩
      simp only [List.map_cons, Hw.idxFrom]
      rw [if_neg (by simp [kS, hq])]
      rw [show (j : Int) + 1 = ((j + 1 : Nat) : Int) by omega, h2]
      omega
def FirstOk (sb mb : Nat) (k : KS) : Prop := ∀ w, Slv w sb mb → Calls Try.prog 40 #[.pointer (some ⟨sb, 0, none⟩), kCells k] w fun e w' => e = .returned (.agg #[.bool (kFirst k).1, .int .i64 (kFirst k).2, .bool false]) ∧ Slv w' sb mb ∧ w.grownBy w' (some mb)
set_option maxHeartbeats 8000000 in
set_option maxRecDepth 100000 in
theorem first_of (sb mb : Nat) (k : KS) (hk : KGood k) (hd : k.done = false) (hf : gI k < 1000) : FirstOk sb mb k := by
  intro w hS
  have HS := Aside0.mk hS
  have HG := Aside0.mk (Hx.g_refl w (some mb))
  have hT := tests_is hk
  have hTl := tests_len hk
  obtain ⟨hmem, hgw, hfind⟩ := kFirst_is hk hd hf
  obtain ⟨i, hi, hix, hiy⟩ := find_idx _ _ k.tests 0 hfind
  have HSO := Aside0.mk (solver_ok sb mb k.ms k hk (Nat.le_refl _))
  obtain ⟨t, ht⟩ : ∃ t, t = kFirst k := ⟨_, rfl⟩
  rw [← ht] at hiy ⊢
  obtain ⟨T, hTT⟩ : ∃ T, T = k.tests.map kS := ⟨_, rfl⟩
  rw [← hTT] at hT hix
  have HT := Aside0.mk hT
  have hlen : T.length = k.tests.length := by rw [hTT, List.length_map]
  have hrd : rd_T43 T (i : Int) = kS t := by
    rw [hTT]; unfold rd_T43
    rw [Int.toNat_natCast, List.getD_eq_getElem?_getD, List.getElem?_map, hiy]
    rfl
  have hmemT : ∀ x ∈ T, ∃ u ∈ k.tests, x = kS u := fun x hx => by
    rw [hTT] at hx
    obtain ⟨u, hu, e⟩ := List.mem_map.1 hx
    exact ⟨u, hu, e.symm⟩
  rw [Nat.zero_add] at hix
  have HI := Aside0.mk (And.intro hix (And.intro hrd (show i < T.length by omega)))
  have HM := Aside0.mk hmemT
  clear hS hmem hgw hfind hi hix hiy ht hTT hT hTl hlen hrd hmemT
  obtain ⟨p, hp⟩ : ∃ p, p = fun x : S43 => (gW k (x.f0, x.f1) == gI k) := ⟨_, rfl⟩
  have HP := Aside0.mk hp
  have hpe : (fun x : S43 => decide (gW k (x.f0, x.f1) = gI k)) = p := by rw [hp]; funext x; simp [Bool.beq_eq_decide_eq]
  rw [hpe] at HI
  clear hp hpe
  have HK := Aside0.mk (rfl : k = k)
  obtain ⟨kk, hkk⟩ : ∃ kk, kk = k := ⟨_, rfl⟩
  have HKK := Aside0.mk hkk
  clear HK hkk
  obtain ⟨a, b, c, d, e, f⟩ := k
  go_enter Try.func40, Try.ntmps40
  go_upto_region 1 with (first | ((with_reducible refine gate_dst (N := 2) rfl ?_); refine box_event ?hg (N := 2) ?hd (cs := #[.pointer (some ⟨sb, 0, none⟩)]) (t := 56) ?hr ?_; (case hd => rfl); (case hg => rfl); (case hr => first | (go_simp; done) | (go_simp; rfl)); intro gB2 hg_ w_gB2 BK_ hb_; have ORD_ : Aside0 ((True) ∧ (mb < gB2 ∧ sb < gB2 ∧ w.heap.size ≤ gB2)) := ⟨by refine ⟨trivial, ?_⟩; (have := HS.out.2.lt); (have := blk_lt HS.out.1); (have := HG.out.size); omega⟩; have ORD := ORD_; clear ORD_; have n0_ : Aside0 (Slv w_gB2 sb mb) := ⟨Slv.below (w := _) (by exact HS.out) hb_⟩; have n1_ : Aside0 (w.grownBy w_gB2 (some mb)) := ⟨Hx.g_below (by first | exact HG.out | exact Hx.g_drew HG.out | exact Hx.g_drewN HG.out _) hb_⟩; have m0_ : Aside0 (w_gB2.heap[gB2]? = some (.cells #[.pointer (some ⟨sb, 0, none⟩)] 56 (0, 0))) := ⟨BK_⟩; (try clear HS); (try clear HG); have HS := n0_; have HG := n1_; have B2 := m0_; clear n0_ n1_ m0_; have cB2_0 : w_gB2.cell? ⟨gB2, 0, none⟩ = some (.pointer (some ⟨sb, 0, none⟩)) := (blk_cell B2.out 0).trans rfl; have dB2_0 := blk_frozen B2.out 0; clear hg_ BK_ hb_) | ((with_reducible refine gate_dst (N := 3) rfl ?_); refine box_event ?hg (N := 3) ?hd (cs := #[.int .i64 a, .int .i64 b, .int .i64 c, .int .i64 d, .int .i64 e, .int .i64 f]) (t := 60) ?hr ?_; (case hd => rfl); (case hg => rfl); (case hr => first | (go_simp; done) | (go_simp; rfl)); intro gB3 hg_ w_gB3 BK_ hb_; have ORD_ : Aside0 (((True) ∧ (mb < gB2 ∧ sb < gB2 ∧ w.heap.size ≤ gB2)) ∧ (gB2 < gB3 ∧ mb < gB3 ∧ sb < gB3 ∧ w.heap.size ≤ gB3)) := ⟨by refine ⟨ORD.out, ?_⟩; (have := HS.out.2.lt); (have := blk_lt HS.out.1); (have := HG.out.size); (have := blk_lt B2.out); omega⟩; clear ORD; have ORD := ORD_; clear ORD_; have n0_ : Aside0 (Slv w_gB3 sb mb) := ⟨Slv.below (w := _) (by exact HS.out) hb_⟩; have n1_ : Aside0 (w.grownBy w_gB3 (some mb)) := ⟨Hx.g_below (by first | exact HG.out | exact Hx.g_drew HG.out | exact Hx.g_drewN HG.out _) hb_⟩; have n2_ : Aside0 (w_gB3.heap[gB2]? = some (.cells #[.pointer (some ⟨sb, 0, none⟩)] 56 (0, 0))) := ⟨Hx.b_below hb_ B2.out⟩; have m0_ : Aside0 (w_gB3.heap[gB3]? = some (.cells #[.int .i64 a, .int .i64 b, .int .i64 c, .int .i64 d, .int .i64 e, .int .i64 f] 60 (0, 0))) := ⟨BK_⟩; (try clear cB2_0 dB2_0); (try clear HS); (try clear HG); (try clear B2); have HS := n0_; have HG := n1_; have B2 := n2_; have B3 := m0_; clear n0_ n1_ n2_ m0_; have cB2_0 : w_gB3.cell? ⟨gB2, 0, none⟩ = some (.pointer (some ⟨sb, 0, none⟩)) := (blk_cell B2.out 0).trans rfl; have dB2_0 := blk_frozen B2.out 0; have cB3_0 : w_gB3.cell? ⟨gB3, 0, none⟩ = some (.int .i64 a) := (blk_cell B3.out 0).trans rfl; have dB3_0 := blk_frozen B3.out 0; have cB3_1 : w_gB3.cell? ⟨gB3, 1, none⟩ = some (.int .i64 b) := (blk_cell B3.out 1).trans rfl; have dB3_1 := blk_frozen B3.out 1; have cB3_2 : w_gB3.cell? ⟨gB3, 2, none⟩ = some (.int .i64 c) := (blk_cell B3.out 2).trans rfl; have dB3_2 := blk_frozen B3.out 2; have cB3_3 : w_gB3.cell? ⟨gB3, 3, none⟩ = some (.int .i64 d) := (blk_cell B3.out 3).trans rfl; have dB3_3 := blk_frozen B3.out 3; have cB3_4 : w_gB3.cell? ⟨gB3, 4, none⟩ = some (.int .i64 e) := (blk_cell B3.out 4).trans rfl; have dB3_4 := blk_frozen B3.out 4; have cB3_5 : w_gB3.cell? ⟨gB3, 5, none⟩ = some (.int .i64 f) := (blk_cell B3.out 5).trans rfl; have dB3_5 := blk_frozen B3.out 5; clear hg_ BK_ hb_) | ((with_reducible refine gate_dst (N := 4) rfl ?_); refine box_event ?hg (N := 4) ?hd (cs := #[.bool false, .int .i64 0, .bool false]) (t := 43) ?hr ?_; (case hd => rfl); (case hg => rfl); (case hr => first | (go_simp; done) | (go_simp; rfl)); intro gB4 hg_ w_gB4 BK_ hb_; have ORD_ : Aside0 ((((True) ∧ (mb < gB2 ∧ sb < gB2 ∧ w.heap.size ≤ gB2)) ∧ (gB2 < gB3 ∧ mb < gB3 ∧ sb < gB3 ∧ w.heap.size ≤ gB3)) ∧ (gB2 < gB4 ∧ gB3 < gB4 ∧ mb < gB4 ∧ sb < gB4 ∧ w.heap.size ≤ gB4)) := ⟨by refine ⟨ORD.out, ?_⟩; (have := HS.out.2.lt); (have := blk_lt HS.out.1); (have := HG.out.size); (have := blk_lt B2.out); (have := blk_lt B3.out); omega⟩; clear ORD; have ORD := ORD_; clear ORD_; have n0_ : Aside0 (Slv w_gB4 sb mb) := ⟨Slv.below (w := _) (by exact HS.out) hb_⟩; have n1_ : Aside0 (w.grownBy w_gB4 (some mb)) := ⟨Hx.g_below (by first | exact HG.out | exact Hx.g_drew HG.out | exact Hx.g_drewN HG.out _) hb_⟩; have n2_ : Aside0 (w_gB4.heap[gB2]? = some (.cells #[.pointer (some ⟨sb, 0, none⟩)] 56 (0, 0))) := ⟨Hx.b_below hb_ B2.out⟩; have n3_ : Aside0 (w_gB4.heap[gB3]? = some (.cells #[.int .i64 a, .int .i64 b, .int .i64 c, .int .i64 d, .int .i64 e, .int .i64 f] 60 (0, 0))) := ⟨Hx.b_below hb_ B3.out⟩; have m0_ : Aside0 (w_gB4.heap[gB4]? = some (.cells #[.bool false, .int .i64 0, .bool false] 43 (0, 0))) := ⟨BK_⟩; (try clear cB2_0 dB2_0 cB3_0 dB3_0 cB3_1 dB3_1 cB3_2 dB3_2 cB3_3 dB3_3 cB3_4 dB3_4 cB3_5 dB3_5); (try clear HS); (try clear HG); (try clear B2); (try clear B3); have HS := n0_; have HG := n1_; have B2 := n2_; have B3 := n3_; have B4 := m0_; clear n0_ n1_ n2_ n3_ m0_; have cB2_0 : w_gB4.cell? ⟨gB2, 0, none⟩ = some (.pointer (some ⟨sb, 0, none⟩)) := (blk_cell B2.out 0).trans rfl; have dB2_0 := blk_frozen B2.out 0; have cB3_0 : w_gB4.cell? ⟨gB3, 0, none⟩ = some (.int .i64 a) := (blk_cell B3.out 0).trans rfl; have dB3_0 := blk_frozen B3.out 0; have cB3_1 : w_gB4.cell? ⟨gB3, 1, none⟩ = some (.int .i64 b) := (blk_cell B3.out 1).trans rfl; have dB3_1 := blk_frozen B3.out 1; have cB3_2 : w_gB4.cell? ⟨gB3, 2, none⟩ = some (.int .i64 c) := (blk_cell B3.out 2).trans rfl; have dB3_2 := blk_frozen B3.out 2; have cB3_3 : w_gB4.cell? ⟨gB3, 3, none⟩ = some (.int .i64 d) := (blk_cell B3.out 3).trans rfl; have dB3_3 := blk_frozen B3.out 3; have cB3_4 : w_gB4.cell? ⟨gB3, 4, none⟩ = some (.int .i64 e) := (blk_cell B3.out 4).trans rfl; have dB3_4 := blk_frozen B3.out 4; have cB3_5 : w_gB4.cell? ⟨gB3, 5, none⟩ = some (.int .i64 f) := (blk_cell B3.out 5).trans rfl; have dB3_5 := blk_frozen B3.out 5; have cB4_0 : w_gB4.cell? ⟨gB4, 0, none⟩ = some (.bool false) := (blk_cell B4.out 0).trans rfl; have dB4_0 := blk_frozen B4.out 0; have cB4_1 : w_gB4.cell? ⟨gB4, 1, none⟩ = some (.int .i64 0) := (blk_cell B4.out 1).trans rfl; have dB4_1 := blk_frozen B4.out 1; have cB4_2 : w_gB4.cell? ⟨gB4, 2, none⟩ = some (.bool false) := (blk_cell B4.out 2).trans rfl; have dB4_2 := blk_frozen B4.out 2; clear hg_ BK_ hb_))
  go_upto_region 2 with (first | ((with_reducible refine gate_callee (f := 61) rfl ?_); refine goesL_ (some 7) rfl rfl Try.func61 (by kernel_rfl) rfl #[.agg #[.int .i64 a, .int .i64 b, .int .i64 c, .int .i64 d, .int .i64 e, .int .i64 f]] rfl (by (try simp only [List.map_toArray, List.map_cons, List.map_nil]); first | done | rfl) ?_; refine (impl_knowledge_tests.calls 30 a b c d e f _ _ HT.out).mono ?_; rintro e_ w_t ⟨v_, rfl, hr_, hb_⟩; refine ⟨_, rfl, ?_⟩; obtain ⟨A_, c_, rfl⟩ := Kd.R_slice hr_; have n0_ : Aside0 (Slv w_t sb mb) := ⟨Slv.below (w := _) (by exact HS.out) hb_⟩; have n1_ : Aside0 (w.grownBy w_t (some mb)) := ⟨Hx.g_below (by first | exact HG.out | exact Hx.g_drew HG.out | exact Hx.g_drewN HG.out _) hb_⟩; have n2_ : Aside0 (w_t.heap[gB2]? = some (.cells #[.pointer (some ⟨sb, 0, none⟩)] 56 (0, 0))) := ⟨Hx.b_below hb_ B2.out⟩; have n3_ : Aside0 (w_t.heap[gB3]? = some (.cells #[.int .i64 a, .int .i64 b, .int .i64 c, .int .i64 d, .int .i64 e, .int .i64 f] 60 (0, 0))) := ⟨Hx.b_below hb_ B3.out⟩; have n4_ : Aside0 (w_t.heap[gB4]? = some (.cells #[.bool false, .int .i64 0, .bool false] 43 (0, 0))) := ⟨Hx.b_below hb_ B4.out⟩; have m0_ : Aside0 (Kd.R k43 43 w_t 0 (fun k_ => k_ ≠ mb ∧ k_ < w_t.heap.size) (.slice A_ T.length c_) T) := ⟨Kd.R_mono (Kd.R_lower (Kd.R_bound hr_) (Nat.zero_le _)) (fun k_ hk_ => ⟨show k_ ≠ mb by have h_ := HS.out.2.lt; have h2_ := hk_.2.1; omega, hk_.2.2.1⟩)⟩; (try clear cB2_0 dB2_0 cB3_0 dB3_0 cB3_1 dB3_1 cB3_2 dB3_2 cB3_3 dB3_3 cB3_4 dB3_4 cB3_5 dB3_5 cB4_0 dB4_0 cB4_1 dB4_1 cB4_2 dB4_2); (try clear HS); (try clear HG); (try clear B2); (try clear B3); (try clear B4); have HS := n0_; have HG := n1_; have B2 := n2_; have B3 := n3_; have B4 := n4_; have HR := m0_; clear n0_ n1_ n2_ n3_ n4_ m0_; have cB2_0 : w_t.cell? ⟨gB2, 0, none⟩ = some (.pointer (some ⟨sb, 0, none⟩)) := (blk_cell B2.out 0).trans rfl; have dB2_0 := blk_frozen B2.out 0; have cB3_0 : w_t.cell? ⟨gB3, 0, none⟩ = some (.int .i64 a) := (blk_cell B3.out 0).trans rfl; have dB3_0 := blk_frozen B3.out 0; have cB3_1 : w_t.cell? ⟨gB3, 1, none⟩ = some (.int .i64 b) := (blk_cell B3.out 1).trans rfl; have dB3_1 := blk_frozen B3.out 1; have cB3_2 : w_t.cell? ⟨gB3, 2, none⟩ = some (.int .i64 c) := (blk_cell B3.out 2).trans rfl; have dB3_2 := blk_frozen B3.out 2; have cB3_3 : w_t.cell? ⟨gB3, 3, none⟩ = some (.int .i64 d) := (blk_cell B3.out 3).trans rfl; have dB3_3 := blk_frozen B3.out 3; have cB3_4 : w_t.cell? ⟨gB3, 4, none⟩ = some (.int .i64 e) := (blk_cell B3.out 4).trans rfl; have dB3_4 := blk_frozen B3.out 4; have cB3_5 : w_t.cell? ⟨gB3, 5, none⟩ = some (.int .i64 f) := (blk_cell B3.out 5).trans rfl; have dB3_5 := blk_frozen B3.out 5; have cB4_0 : w_t.cell? ⟨gB4, 0, none⟩ = some (.bool false) := (blk_cell B4.out 0).trans rfl; have dB4_0 := blk_frozen B4.out 0; have cB4_1 : w_t.cell? ⟨gB4, 1, none⟩ = some (.int .i64 0) := (blk_cell B4.out 1).trans rfl; have dB4_1 := blk_frozen B4.out 1; have cB4_2 : w_t.cell? ⟨gB4, 2, none⟩ = some (.bool false) := (blk_cell B4.out 2).trans rfl; have dB4_2 := blk_frozen B4.out 2; clear hb_ hr_))
  obtain ⟨st, fl⟩ := t
  have P0 : Aside0 (0 ≤ (i : Int)) := ⟨by omega⟩
  have Q0 : Aside0 ((i : Int) < (T.length : Int)) := ⟨by have := HI.out.2.2; omega⟩
  obtain ⟨ad, ead, x_0, x_1, x_2⟩ := at_T43 (Kd.R_reads' HR.out).2.2 (i : Int) P0.out Q0.out
  cases ead
  clear x_0 x_1 x_2
  have ZT : Aside0 (gB4 < w_t.heap.size) := ⟨blk_lt B4.out⟩
  have hX : Calls Try.prog 66 #[.slice (some ad) T.length c_, .func (.func 67) #[] #[.pointer (some ⟨gB2, 0, none⟩), .pointer (some ⟨gB3, 0, none⟩)]] w_t fun e w' => e = .returned (.int .i64 (Hw.idxFrom p T 0)) ∧ Slv w' sb mb ∧ w_t.grownBy w' (some mb) := by
    refine idxJ (fun W => Slv W sb mb ∧ w_t.grownBy W (some mb)) p 67 _ #[.pointer (some ⟨gB2, 0, none⟩), .pointer (some ⟨gB3, 0, none⟩)] (some ad) c_ T w_t ⟨HS.out, Hx.g_refl _ _⟩ (fun W hW => (Kd.R_reads' (Kd.R_grown (row := some mb) HR.out hW.2 (fun k_ hk_ h_ => hk_.1 (Option.some.inj h_)))).2.2) Try.func67 ?_ ?_ ?_
    · kernel_rfl
    · rfl
    · intro x W hx hW
      obtain ⟨u, hu, rfl⟩ := HM.out x hx
      refine (first1.calls sb mb ⟨a, b, c, d, e, f⟩ u HSO.out.1 (HSO.out.2 u hu) gB2 gB3 W hW.1 (Hx.b_grown hW.2 B2.out (by have := ORD.out; simp; omega)) (Hx.b_grown hW.2 B3.out (by have := ORD.out; simp; omega)) (by have := ORD.out; omega) (by have := ORD.out; omega)).mono ?_
      rintro e_ W' ⟨rfl, h1, h2⟩
      exact ⟨by rw [HP.out]; rfl, h1, hW.2.trans h2⟩
  have hI : Hw.idxFrom p T 0 = (i : Int) := HI.out.1
  rw [hI] at hX
  have HX := Aside0.mk hX
  have c0 : decide ((i : Int) < (T.length : Int)) = true := decide_eq_true Q0.out
  have c0n : decide (i < T.length) = true := decide_eq_true (by have := Q0.out; omega)
  have c1 : decide (0 ≤ (i : Int)) = true := decide_eq_true P0.out
  have p0 := eq_true P0.out
  have q0 := eq_true Q0.out
  have hmf : ∀ (fn : Fn) (first cap : Array Value) (w : World), (Instr.makeFunc fn first cap).run Try.prog w = .ok (.func fn first cap) w := fun _ _ _ _ => rfl
  clear hI hX
  go_wp2_with (first | ((with_reducible refine gate_callee (f := 66) rfl ?_); refine goesL_ (some 11) rfl rfl Try.func66 (by kernel_rfl) rfl #[.slice (some ad) T.length c_, .func (.func 67) #[] #[.pointer (some ⟨gB2, 0, none⟩), .pointer (some ⟨gB3, 0, none⟩)]] rfl (by (try simp only [List.map_toArray, List.map_cons, List.map_nil]); first | done | rfl) ?_; refine (HX.out).mono ?_; rintro e_ w_x ⟨rfl, hs_, hg_⟩; refine ⟨_, rfl, ?_⟩; have n0_ : Aside0 (Slv w_x sb mb) := ⟨hs_⟩; have n1_ : Aside0 (w.grownBy w_x (some mb)) := ⟨World.grownBy.trans (by first | exact HG.out | exact Hx.g_drew HG.out | exact Hx.g_drewN HG.out _) hg_⟩; have n2_ : Aside0 (w_x.heap[gB2]? = some (.cells #[.pointer (some ⟨sb, 0, none⟩)] 56 (0, 0))) := ⟨Hx.b_grown hg_ B2.out (by simp only [ne_eq, Option.some.injEq]; have := ORD.out; omega)⟩; have n3_ : Aside0 (w_x.heap[gB3]? = some (.cells #[.int .i64 a, .int .i64 b, .int .i64 c, .int .i64 d, .int .i64 e, .int .i64 f] 60 (0, 0))) := ⟨Hx.b_grown hg_ B3.out (by simp only [ne_eq, Option.some.injEq]; have := ORD.out; omega)⟩; have n4_ : Aside0 (w_x.heap[gB4]? = some (.cells #[.bool false, .int .i64 0, .bool false] 43 (0, 0))) := ⟨Hx.b_grown hg_ B4.out (by simp only [ne_eq, Option.some.injEq]; have := ORD.out; omega)⟩; have n5_ : Aside0 (Kd.R k43 43 w_x 0 (fun k_ => k_ ≠ mb ∧ k_ < w_t.heap.size) (.slice (some ad) T.length c_) T) := ⟨Kd.R_grown (row := some mb) HR.out hg_ (fun k_ hk_ h_ => hk_.1 (Option.some.inj h_))⟩; have ead2_ := at_T43 (Kd.R_reads' n5_.out).2.2 (i : Int) P0.out Q0.out; (try clear cB2_0 dB2_0 cB3_0 dB3_0 cB3_1 dB3_1 cB3_2 dB3_2 cB3_3 dB3_3 cB3_4 dB3_4 cB3_5 dB3_5 cB4_0 dB4_0 cB4_1 dB4_1 cB4_2 dB4_2); (try clear HS); (try clear HG); (try clear B2); (try clear B3); (try clear B4); (try clear HR); have HS := n0_; have HG := n1_; have B2 := n2_; have B3 := n3_; have B4 := n4_; have HR := n5_; clear n0_ n1_ n2_ n3_ n4_ n5_; have cB2_0 : w_x.cell? ⟨gB2, 0, none⟩ = some (.pointer (some ⟨sb, 0, none⟩)) := (blk_cell B2.out 0).trans rfl; have dB2_0 := blk_frozen B2.out 0; have cB3_0 : w_x.cell? ⟨gB3, 0, none⟩ = some (.int .i64 a) := (blk_cell B3.out 0).trans rfl; have dB3_0 := blk_frozen B3.out 0; have cB3_1 : w_x.cell? ⟨gB3, 1, none⟩ = some (.int .i64 b) := (blk_cell B3.out 1).trans rfl; have dB3_1 := blk_frozen B3.out 1; have cB3_2 : w_x.cell? ⟨gB3, 2, none⟩ = some (.int .i64 c) := (blk_cell B3.out 2).trans rfl; have dB3_2 := blk_frozen B3.out 2; have cB3_3 : w_x.cell? ⟨gB3, 3, none⟩ = some (.int .i64 d) := (blk_cell B3.out 3).trans rfl; have dB3_3 := blk_frozen B3.out 3; have cB3_4 : w_x.cell? ⟨gB3, 4, none⟩ = some (.int .i64 e) := (blk_cell B3.out 4).trans rfl; have dB3_4 := blk_frozen B3.out 4; have cB3_5 : w_x.cell? ⟨gB3, 5, none⟩ = some (.int .i64 f) := (blk_cell B3.out 5).trans rfl; have dB3_5 := blk_frozen B3.out 5; have cB4_0 : w_x.cell? ⟨gB4, 0, none⟩ = some (.bool false) := (blk_cell B4.out 0).trans rfl; have dB4_0 := blk_frozen B4.out 0; have cB4_1 : w_x.cell? ⟨gB4, 1, none⟩ = some (.int .i64 0) := (blk_cell B4.out 1).trans rfl; have dB4_1 := blk_frozen B4.out 1; have cB4_2 : w_x.cell? ⟨gB4, 2, none⟩ = some (.bool false) := (blk_cell B4.out 2).trans rfl; have dB4_2 := blk_frozen B4.out 2; obtain ⟨ad2, ead2, x_0, x_1, x_2⟩ := ead2_; cases ead2; rw [HI.out.2.1] at x_0 x_1 x_2; simp only [kS, Int.toNat_natCast] at x_0 x_1 x_2; clear hs_ hg_) | ((with_reducible refine gate_store (t := 43) (p := 4) rfl ?_); refine store_event (t := 43) (p := 4) (v := ?vo_wy) (w1 := ((((w_x).setCell ⟨gB4, 0, none⟩ (.bool st)).setCell ⟨gB4, 1, none⟩ (.int .i64 fl)).setCell ⟨gB4, 2, none⟩ (.bool false))) ?hg ?ho ?hn ?hr ?_; (case ho => rfl); (case hg => rfl); (case hn => rfl); (case hr => first | (go_simp; done) | (go_simp; rfl)); intro w_y hw_; have n0_ : Aside0 (Slv w_y sb mb) := ⟨by rw [hw_]; exact Slv.far (Slv.far (Slv.far HS.out (show sb ≠ gB4 by have := ORD.out; omega) (show mb ≠ gB4 by have := ORD.out; omega)) (show sb ≠ gB4 by have := ORD.out; omega) (show mb ≠ gB4 by have := ORD.out; omega)) (show sb ≠ gB4 by have := ORD.out; omega) (show mb ≠ gB4 by have := ORD.out; omega)⟩; have n1_ : Aside0 (w.grownBy w_y (some mb)) := ⟨by rw [hw_]; exact Hx.g_set (Hx.g_set (Hx.g_set HG.out (by have := ORD.out; omega)) (by have := ORD.out; omega)) (by have := ORD.out; omega)⟩; have n2_ : Aside0 (w_y.heap[gB2]? = some (.cells #[.pointer (some ⟨sb, 0, none⟩)] 56 (0, 0))) := ⟨by rw [hw_]; exact blk_far (blk_far (blk_far B2.out (show gB2 ≠ gB4 by have := ORD.out; omega) _) (show gB2 ≠ gB4 by have := ORD.out; omega) _) (show gB2 ≠ gB4 by have := ORD.out; omega) _⟩; have n3_ : Aside0 (w_y.heap[gB3]? = some (.cells #[.int .i64 a, .int .i64 b, .int .i64 c, .int .i64 d, .int .i64 e, .int .i64 f] 60 (0, 0))) := ⟨by rw [hw_]; exact blk_far (blk_far (blk_far B3.out (show gB3 ≠ gB4 by have := ORD.out; omega) _) (show gB3 ≠ gB4 by have := ORD.out; omega) _) (show gB3 ≠ gB4 by have := ORD.out; omega) _⟩; have n4_ : Aside0 (w_y.heap[gB4]? = some (.cells #[.bool st, .int .i64 fl, .bool false] 43 (0, 0))) := ⟨by rw [hw_]; exact blk_put (blk_put (blk_put B4.out 0 _ rfl) 1 _ rfl) 2 _ rfl⟩; (try clear cB2_0 dB2_0 cB3_0 dB3_0 cB3_1 dB3_1 cB3_2 dB3_2 cB3_3 dB3_3 cB3_4 dB3_4 cB3_5 dB3_5 cB4_0 dB4_0 cB4_1 dB4_1 cB4_2 dB4_2); (try clear HS); (try clear HG); (try clear B2); (try clear B3); (try clear B4); have HS := n0_; have HG := n1_; have B2 := n2_; have B3 := n3_; have B4 := n4_; clear n0_ n1_ n2_ n3_ n4_; have cB2_0 : w_y.cell? ⟨gB2, 0, none⟩ = some (.pointer (some ⟨sb, 0, none⟩)) := (blk_cell B2.out 0).trans rfl; have dB2_0 := blk_frozen B2.out 0; have cB3_0 : w_y.cell? ⟨gB3, 0, none⟩ = some (.int .i64 a) := (blk_cell B3.out 0).trans rfl; have dB3_0 := blk_frozen B3.out 0; have cB3_1 : w_y.cell? ⟨gB3, 1, none⟩ = some (.int .i64 b) := (blk_cell B3.out 1).trans rfl; have dB3_1 := blk_frozen B3.out 1; have cB3_2 : w_y.cell? ⟨gB3, 2, none⟩ = some (.int .i64 c) := (blk_cell B3.out 2).trans rfl; have dB3_2 := blk_frozen B3.out 2; have cB3_3 : w_y.cell? ⟨gB3, 3, none⟩ = some (.int .i64 d) := (blk_cell B3.out 3).trans rfl; have dB3_3 := blk_frozen B3.out 3; have cB3_4 : w_y.cell? ⟨gB3, 4, none⟩ = some (.int .i64 e) := (blk_cell B3.out 4).trans rfl; have dB3_4 := blk_frozen B3.out 4; have cB3_5 : w_y.cell? ⟨gB3, 5, none⟩ = some (.int .i64 f) := (blk_cell B3.out 5).trans rfl; have dB3_5 := blk_frozen B3.out 5; have cB4_0 : w_y.cell? ⟨gB4, 0, none⟩ = some (.bool st) := (blk_cell B4.out 0).trans rfl; have dB4_0 := blk_frozen B4.out 0; have cB4_1 : w_y.cell? ⟨gB4, 1, none⟩ = some (.int .i64 fl) := (blk_cell B4.out 1).trans rfl; have dB4_1 := blk_frozen B4.out 1; have cB4_2 : w_y.cell? ⟨gB4, 2, none⟩ = some (.bool false) := (blk_cell B4.out 2).trans rfl; have dB4_2 := blk_frozen B4.out 2; clear hw_))
  refine bodyPost_ret (results_cell_row rfl _ _ gB4 43 #[.bool st, .int .i64 fl, .bool false] (0, 0) _ rfl B4.out Try.underlying43 rfl (by kernel_rfl)) rfl ?_
  exact ⟨rfl, HS.out, HG.out⟩


theorem Slv.grown2 {w w' : World} {sb mb : Nat} {o : Option Nat} (h : Slv w sb mb) (hg : w.grownBy w' o) (h1 : some sb ≠ o) (h2 : some mb ≠ o) : Slv w' sb mb := ⟨blk_grown h.1 hg h1, h.2.same (hg.block mb h.2.lt h2)⟩
def toS (x : Bool × Int × Bool) : S43 := ⟨x.1, x.2.1, x.2.2⟩
theorem fits_is (t : Bool × Int) (wk st : Int) : impl_KindTest_fits.f t.1 t.2 false wk st = some (!kBreaks t wk st) := by
  unfold impl_KindTest_fits.f kBreaks
  cases t.1 <;> simp
set_option maxHeartbeats 8000000 in
set_option maxRecDepth 100000 in
theorem play_of (sb mb : Nat) (k : KS) (wk st : Int) (hk : KGood k) (hf : gI k < 1000) (r : List S43) (hr : r = (kPlay wk st k.ms k).map toS) (w : World) (hS : Slv w sb mb) :
    Calls Try.prog 31 #[.pointer (some ⟨sb, 0, none⟩), kCells k, .int .i64 wk, .int .i64 st] w fun e w' => ∃ v_ : Value, e = .returned v_ ∧ Kd.R k43 43 w' w.heap.size (fun _ => True) v_ r ∧ Slv w' sb mb ∧ w.grownBy w' (some mb) := by
  have HS := Aside0.mk hS
  have HG := Aside0.mk (Hx.g_refl w (some mb))
  have hms : k.ms ≤ 12 := by unfold KGood at hk; unfold KS.ms; omega
  have HK := Aside0.mk (And.intro hk (And.intro hf hms))
  have HR0 := Aside0.mk hr
  clear hS hk hf hms hr
  go_enter Try.func31, Try.ntmps31
  go_upto_region 1 with (first | ((with_reducible refine gate_dst (N := 5) rfl ?_); refine box_event ?hg (N := 5) ?hd (cs := #[.int .i64 k.a, .int .i64 k.b, .int .i64 k.c, .int .i64 k.d, .int .i64 k.w, .int .i64 k.s]) (t := 60) ?hr ?_; (case hd => rfl); (case hg => rfl); (case hr => first | (go_simp; done) | (go_simp; rfl)); intro gB5 hg_ w_gB5 BK_ hb_; have ORD_ : Aside0 ((True) ∧ (mb < gB5 ∧ sb < gB5 ∧ w.heap.size ≤ gB5)) := ⟨by refine ⟨trivial, ?_⟩; (have := HS.out.2.lt); (have := blk_lt HS.out.1); (have := HG.out.size); omega⟩; have ORD := ORD_; clear ORD_; have n0_ : Aside0 (Slv w_gB5 sb mb) := ⟨Slv.below (w := _) (by exact HS.out) hb_⟩; have n1_ : Aside0 (w.grownBy w_gB5 (some mb)) := ⟨Hx.g_below (by first | exact HG.out | exact Hx.g_drew HG.out | exact Hx.g_drewN HG.out _) hb_⟩; have m0_ : Aside0 (w_gB5.heap[gB5]? = some (.cells #[.int .i64 k.a, .int .i64 k.b, .int .i64 k.c, .int .i64 k.d, .int .i64 k.w, .int .i64 k.s] 60 (0, 0))) := ⟨BK_⟩; (try clear HS); (try clear HG); have HS := n0_; have HG := n1_; have B5 := m0_; clear n0_ n1_ m0_; have cB5_0 : w_gB5.cell? ⟨gB5, 0, none⟩ = some (.int .i64 k.a) := (blk_cell B5.out 0).trans rfl; have dB5_0 := blk_frozen B5.out 0; have cB5_1 : w_gB5.cell? ⟨gB5, 1, none⟩ = some (.int .i64 k.b) := (blk_cell B5.out 1).trans rfl; have dB5_1 := blk_frozen B5.out 1; have cB5_2 : w_gB5.cell? ⟨gB5, 2, none⟩ = some (.int .i64 k.c) := (blk_cell B5.out 2).trans rfl; have dB5_2 := blk_frozen B5.out 2; have cB5_3 : w_gB5.cell? ⟨gB5, 3, none⟩ = some (.int .i64 k.d) := (blk_cell B5.out 3).trans rfl; have dB5_3 := blk_frozen B5.out 3; have cB5_4 : w_gB5.cell? ⟨gB5, 4, none⟩ = some (.int .i64 k.w) := (blk_cell B5.out 4).trans rfl; have dB5_4 := blk_frozen B5.out 4; have cB5_5 : w_gB5.cell? ⟨gB5, 5, none⟩ = some (.int .i64 k.s) := (blk_cell B5.out 5).trans rfl; have dB5_5 := blk_frozen B5.out 5; clear hg_ BK_ hb_))
  go_wp2
  go_loopg [9] k.ms (fun n v9 w' => ∃ (q : KS) (xs : List S43), Aside0 (KGood q ∧ gI q < 1000 ∧ q.ms ≤ n ∧ xs.length + n ≤ 20) ∧ Aside0 (xs ++ (kPlay wk st n q).map toS = r) ∧ Aside0 (Kd.R k43 43 w' w.heap.size (fun k_ => gB5 < k_) v9 xs) ∧ Aside0 (w'.heap[gB5]? = some (.cells #[.int .i64 q.a, .int .i64 q.b, .int .i64 q.c, .int .i64 q.d, .int .i64 q.w, .int .i64 q.s] 60 (0, 0))) ∧ Aside0 (Slv w' sb mb) ∧ Aside0 (w.grownBy w' (some mb)))
  case atStart =>
    refine ⟨k, [], ⟨⟨HK.out.1, HK.out.2.1, Nat.le_refl _, by simpa using Nat.le_trans HK.out.2.2 (by omega)⟩⟩, ⟨by rw [HR0.out]; rfl⟩, ⟨?_⟩, ⟨blk_alloc B5.out _⟩, ⟨Slv.below HS.out (below_alloc (Below.refl _ _) _)⟩, ⟨Hx.g_alloc HG.out _⟩⟩
    exact Hw.R_empty k43 43 w_gB5 w.heap.size (fun k_ => gB5 < k_) (by have := HG.out.size; omega) (by have := blk_lt B5.out; omega)
  case round =>
    clear HS HG B5
    clear cB5_0 dB5_0 cB5_1 dB5_1 cB5_2 dB5_2 cB5_3 dB5_3 cB5_4 dB5_4 cB5_5 dB5_5
    obtain ⟨q, xs, HI, HL, HR0', B5, HS, HG⟩ := hrel
    have HR : Aside0 (Kd.R k43 43 wr w.heap.size (fun k_ => gB5 < k_ ∧ k_ < wr.heap.size) u9 xs) := ⟨Kd.R_mono (Kd.R_bound HR0'.out) (fun k_ hk_ => ⟨hk_.1, hk_.2.2.1⟩)⟩
    clear HR0'
    have ORD_ : Aside0 (((True) ∧ (mb < gB5 ∧ sb < gB5 ∧ w.heap.size ≤ gB5)) ∧ gB5 < wr.heap.size) := ⟨by refine ⟨ORD.out, ?_⟩; have := blk_lt B5.out; omega⟩
    clear ORD
    have ORD := ORD_
    clear ORD_
    have SZ := Aside0.mk (Nat.le_refl wr.heap.size)
    have hq := HI.out.1
    have HL := HL
    have hsol := (solver_ok sb mb q.ms q hq (Nat.le_refl _)).1
    unfold LeastOk at hsol
    have HLs := Aside0.mk hsol
    clear hsol
    have cB5_0 : wr.cell? ⟨gB5, 0, none⟩ = some (.int .i64 q.a) := (blk_cell B5.out 0).trans rfl
    have dB5_0 := blk_frozen B5.out 0
    have cB5_1 : wr.cell? ⟨gB5, 1, none⟩ = some (.int .i64 q.b) := (blk_cell B5.out 1).trans rfl
    have dB5_1 := blk_frozen B5.out 1
    have cB5_2 : wr.cell? ⟨gB5, 2, none⟩ = some (.int .i64 q.c) := (blk_cell B5.out 2).trans rfl
    have dB5_2 := blk_frozen B5.out 2
    have cB5_3 : wr.cell? ⟨gB5, 3, none⟩ = some (.int .i64 q.d) := (blk_cell B5.out 3).trans rfl
    have dB5_3 := blk_frozen B5.out 3
    have cB5_4 : wr.cell? ⟨gB5, 4, none⟩ = some (.int .i64 q.w) := (blk_cell B5.out 4).trans rfl
    have dB5_4 := blk_frozen B5.out 4
    have cB5_5 : wr.cell? ⟨gB5, 5, none⟩ = some (.int .i64 q.s) := (blk_cell B5.out 5).trans rfl
    have dB5_5 := blk_frozen B5.out 5
    by_cases hd : q.done = true
    · have hz : gI q = 0 := gI_done hd
      have HD := Aside0.mk hd
      rw [hz] at HLs
      clear hd hz hq
      go_wp2_with (first | ((with_reducible refine gate_callee (f := 38) rfl ?_); refine goesL_ (some 14) rfl rfl Try.func38 (by kernel_rfl) rfl #[.pointer (some ⟨sb, 0, none⟩), .agg #[.int .i64 q.a, .int .i64 q.b, .int .i64 q.c, .int .i64 q.d, .int .i64 q.w, .int .i64 q.s]] rfl (by (try simp only [List.map_toArray, List.map_cons, List.map_nil]); first | done | rfl) ?_; refine (HLs.out _ HS.out).mono ?_; rintro e_ w_1 ⟨rfl, hs_, hg_⟩; refine ⟨_, rfl, ?_⟩; have n0_ : Aside0 (Slv w_1 sb mb) := ⟨hs_⟩; have n1_ : Aside0 (w.grownBy w_1 (some mb)) := ⟨World.grownBy.trans (by first | exact HG.out | exact Hx.g_drew HG.out | exact Hx.g_drewN HG.out _) hg_⟩; have n2_ : Aside0 (w_1.heap[gB5]? = some (.cells #[.int .i64 q.a, .int .i64 q.b, .int .i64 q.c, .int .i64 q.d, .int .i64 q.w, .int .i64 q.s] 60 (0, 0))) := ⟨Hx.b_grown hg_ B5.out (by simp only [ne_eq, Option.some.injEq]; have := ORD.out; omega)⟩; have n3_ : Aside0 (Kd.R k43 43 w_1 w.heap.size (fun k_ => gB5 < k_ ∧ k_ < wr.heap.size) u9 xs) := ⟨Kd.R_grown (row := some mb) HR.out hg_ (fun k_ hk_ h_ => by have := Option.some.inj h_; have := ORD.out; have := hk_.1; omega)⟩; have n4_ : Aside0 (wr.heap.size ≤ w_1.heap.size) := ⟨Nat.le_trans SZ.out hg_.size⟩; (try clear cB5_0 cB5_1 cB5_2 cB5_3 cB5_4 cB5_5 dB5_0 dB5_1 dB5_2 dB5_3 dB5_4 dB5_5); (try clear HS); (try clear HG); (try clear B5); (try clear HR); (try clear SZ); have HS := n0_; have HG := n1_; have B5 := n2_; have HR := n3_; have SZ := n4_; clear n0_ n1_ n2_ n3_ n4_; have cB5_0 : w_1.cell? ⟨gB5, 0, none⟩ = some (.int .i64 q.a) := (blk_cell B5.out 0).trans rfl; have dB5_0 := blk_frozen B5.out 0; have cB5_1 : w_1.cell? ⟨gB5, 1, none⟩ = some (.int .i64 q.b) := (blk_cell B5.out 1).trans rfl; have dB5_1 := blk_frozen B5.out 1; have cB5_2 : w_1.cell? ⟨gB5, 2, none⟩ = some (.int .i64 q.c) := (blk_cell B5.out 2).trans rfl; have dB5_2 := blk_frozen B5.out 2; have cB5_3 : w_1.cell? ⟨gB5, 3, none⟩ = some (.int .i64 q.d) := (blk_cell B5.out 3).trans rfl; have dB5_3 := blk_frozen B5.out 3; have cB5_4 : w_1.cell? ⟨gB5, 4, none⟩ = some (.int .i64 q.w) := (blk_cell B5.out 4).trans rfl; have dB5_4 := blk_frozen B5.out 4; have cB5_5 : w_1.cell? ⟨gB5, 5, none⟩ = some (.int .i64 q.s) := (blk_cell B5.out 5).trans rfl; have dB5_5 := blk_frozen B5.out 5; clear hs_ hg_))
      go_ret
      refine ⟨_, rfl, ?_, HS.out, HG.out⟩
      have hnil : kPlay wk st gk q = [] := by cases gk <;> simp [kPlay, HD.out]
      have h2_ := HL.out
      rw [hnil] at h2_
      have h3_ : xs = r := by simpa using h2_
      rw [← h3_]
      exact Kd.R_mono HR.out (fun _ _ => trivial)
    · have hd2 : q.done = false := by simpa using hd
      have hp := gI_pos hq hd2
      have hgt : decide (gI q > 0) = true := decide_eq_true (by omega)
      have hgt2 : decide (0 < gI q) = true := decide_eq_true (by omega)
      have hfi := kFirst_is hq hd2 HI.out.2.1
      have hfo := first_of sb mb q hq hd2 HI.out.2.1
      unfold FirstOk at hfo
      obtain ⟨t, ht⟩ : ∃ t, t = kFirst q := ⟨_, rfl⟩
      rw [← ht] at hfi hfo
      obtain ⟨br, hbr⟩ : ∃ br, br = kBreaks t wk st := ⟨_, rfl⟩
      have hft := fits_is t wk st
      rw [← hbr] at hft
      have hbe := behind_is hq hfi.1 br
      have haf := kFirst_aft hq hd2 HI.out.2.1 br
      rw [← ht] at haf
      obtain ⟨q2, hq2⟩ : ∃ q2, q2 = q.aft t.1 br t.2 := ⟨_, rfl⟩
      rw [← hq2] at hbe haf
      have hms : 1 ≤ gk := by
        have h1_ := HI.out.2.2.1
        have h2_ := haf.2.1
        omega
      obtain ⟨k1, rfl⟩ : ∃ k1, gk = k1 + 1 := ⟨gk - 1, by omega⟩
      have HL2 : Aside0 ((xs ++ [(⟨t.1, t.2, br⟩ : S43)]) ++ (kPlay wk st k1 q2).map toS = r) := ⟨by
        have h_ := HL.out
        rw [kPlay, if_neg (by simp [hd2]), ← ht, ← hbr, ← hq2] at h_
        rw [← h_]
        simp [toS]⟩
      have HAF := Aside0.mk haf
      have HF := Aside0.mk hfo
      have HBh := Aside0.mk hbe
      have HFt := Aside0.mk hft
      clear hfi hfo hft hbe haf hq2 ht hbr hms hd hd2 HL hq
      obtain ⟨s1, fl⟩ := t
      simp only at HL2 HFt HF HBh
      obtain ⟨ys, hys⟩ : ∃ ys : List S43, ys = xs ++ [(⟨s1, fl, br⟩ : S43)] := ⟨_, rfl⟩
      have Nys := Aside0.mk hys
      rw [← hys] at HL2
      clear hys
      have hHL := HLs
      go_wp2_with (first | ((with_reducible refine gate_callee (f := 38) rfl ?_); refine goesL_ (some 14) rfl rfl Try.func38 (by kernel_rfl) rfl #[.pointer (some ⟨sb, 0, none⟩), .agg #[.int .i64 q.a, .int .i64 q.b, .int .i64 q.c, .int .i64 q.d, .int .i64 q.w, .int .i64 q.s]] rfl (by (try simp only [List.map_toArray, List.map_cons, List.map_nil]); first | done | rfl) ?_; refine (HLs.out _ HS.out).mono ?_; rintro e_ w_1 ⟨rfl, hs_, hg_⟩; refine ⟨_, rfl, ?_⟩; have n0_ : Aside0 (Slv w_1 sb mb) := ⟨hs_⟩; have n1_ : Aside0 (w.grownBy w_1 (some mb)) := ⟨World.grownBy.trans (by first | exact HG.out | exact Hx.g_drew HG.out | exact Hx.g_drewN HG.out _) hg_⟩; have n2_ : Aside0 (w_1.heap[gB5]? = some (.cells #[.int .i64 q.a, .int .i64 q.b, .int .i64 q.c, .int .i64 q.d, .int .i64 q.w, .int .i64 q.s] 60 (0, 0))) := ⟨Hx.b_grown hg_ B5.out (by simp only [ne_eq, Option.some.injEq]; have := ORD.out; omega)⟩; have n3_ : Aside0 (Kd.R k43 43 w_1 w.heap.size (fun k_ => gB5 < k_ ∧ k_ < wr.heap.size) u9 xs) := ⟨Kd.R_grown (row := some mb) HR.out hg_ (fun k_ hk_ h_ => by have := Option.some.inj h_; have := ORD.out; have := hk_.1; omega)⟩; have n4_ : Aside0 (wr.heap.size ≤ w_1.heap.size) := ⟨Nat.le_trans SZ.out hg_.size⟩; (try clear cB5_0 cB5_1 cB5_2 cB5_3 cB5_4 cB5_5 dB5_0 dB5_1 dB5_2 dB5_3 dB5_4 dB5_5); (try clear HS); (try clear HG); (try clear B5); (try clear HR); (try clear SZ); have HS := n0_; have HG := n1_; have B5 := n2_; have HR := n3_; have SZ := n4_; clear n0_ n1_ n2_ n3_ n4_; have cB5_0 : w_1.cell? ⟨gB5, 0, none⟩ = some (.int .i64 q.a) := (blk_cell B5.out 0).trans rfl; have dB5_0 := blk_frozen B5.out 0; have cB5_1 : w_1.cell? ⟨gB5, 1, none⟩ = some (.int .i64 q.b) := (blk_cell B5.out 1).trans rfl; have dB5_1 := blk_frozen B5.out 1; have cB5_2 : w_1.cell? ⟨gB5, 2, none⟩ = some (.int .i64 q.c) := (blk_cell B5.out 2).trans rfl; have dB5_2 := blk_frozen B5.out 2; have cB5_3 : w_1.cell? ⟨gB5, 3, none⟩ = some (.int .i64 q.d) := (blk_cell B5.out 3).trans rfl; have dB5_3 := blk_frozen B5.out 3; have cB5_4 : w_1.cell? ⟨gB5, 4, none⟩ = some (.int .i64 q.w) := (blk_cell B5.out 4).trans rfl; have dB5_4 := blk_frozen B5.out 4; have cB5_5 : w_1.cell? ⟨gB5, 5, none⟩ = some (.int .i64 q.s) := (blk_cell B5.out 5).trans rfl; have dB5_5 := blk_frozen B5.out 5; clear hs_ hg_) | ((with_reducible refine gate_callee (f := 40) rfl ?_); refine goesL_ (some 18) rfl rfl Try.func40 (by kernel_rfl) rfl #[.pointer (some ⟨sb, 0, none⟩), .agg #[.int .i64 q.a, .int .i64 q.b, .int .i64 q.c, .int .i64 q.d, .int .i64 q.w, .int .i64 q.s]] rfl (by (try simp only [List.map_toArray, List.map_cons, List.map_nil]); first | done | rfl) ?_; refine (HF.out _ HS.out).mono ?_; rintro e_ w_2 ⟨rfl, hs_, hg_⟩; refine ⟨_, rfl, ?_⟩; have n0_ : Aside0 (Slv w_2 sb mb) := ⟨hs_⟩; have n1_ : Aside0 (w.grownBy w_2 (some mb)) := ⟨World.grownBy.trans (by first | exact HG.out | exact Hx.g_drew HG.out | exact Hx.g_drewN HG.out _) hg_⟩; have n2_ : Aside0 (w_2.heap[gB5]? = some (.cells #[.int .i64 q.a, .int .i64 q.b, .int .i64 q.c, .int .i64 q.d, .int .i64 q.w, .int .i64 q.s] 60 (0, 0))) := ⟨Hx.b_grown hg_ B5.out (by simp only [ne_eq, Option.some.injEq]; have := ORD.out; omega)⟩; have n3_ : Aside0 (Kd.R k43 43 w_2 w.heap.size (fun k_ => gB5 < k_ ∧ k_ < wr.heap.size) u9 xs) := ⟨Kd.R_grown (row := some mb) HR.out hg_ (fun k_ hk_ h_ => by have := Option.some.inj h_; have := ORD.out; have := hk_.1; omega)⟩; have n4_ : Aside0 (wr.heap.size ≤ w_2.heap.size) := ⟨Nat.le_trans SZ.out hg_.size⟩; (try clear cB5_0 dB5_0 cB5_1 dB5_1 cB5_2 dB5_2 cB5_3 dB5_3 cB5_4 dB5_4 cB5_5 dB5_5); (try clear HS); (try clear HG); (try clear B5); (try clear HR); (try clear SZ); have HS := n0_; have HG := n1_; have B5 := n2_; have HR := n3_; have SZ := n4_; clear n0_ n1_ n2_ n3_ n4_; have cB5_0 : w_2.cell? ⟨gB5, 0, none⟩ = some (.int .i64 q.a) := (blk_cell B5.out 0).trans rfl; have dB5_0 := blk_frozen B5.out 0; have cB5_1 : w_2.cell? ⟨gB5, 1, none⟩ = some (.int .i64 q.b) := (blk_cell B5.out 1).trans rfl; have dB5_1 := blk_frozen B5.out 1; have cB5_2 : w_2.cell? ⟨gB5, 2, none⟩ = some (.int .i64 q.c) := (blk_cell B5.out 2).trans rfl; have dB5_2 := blk_frozen B5.out 2; have cB5_3 : w_2.cell? ⟨gB5, 3, none⟩ = some (.int .i64 q.d) := (blk_cell B5.out 3).trans rfl; have dB5_3 := blk_frozen B5.out 3; have cB5_4 : w_2.cell? ⟨gB5, 4, none⟩ = some (.int .i64 q.w) := (blk_cell B5.out 4).trans rfl; have dB5_4 := blk_frozen B5.out 4; have cB5_5 : w_2.cell? ⟨gB5, 5, none⟩ = some (.int .i64 q.s) := (blk_cell B5.out 5).trans rfl; have dB5_5 := blk_frozen B5.out 5; clear hs_ hg_) | ((with_reducible refine gate_dst (N := 10) rfl ?_); refine box_event ?hg (N := 10) ?hd (cs := #[.bool false, .int .i64 0, .bool false]) (t := 43) ?hr ?_; (case hd => rfl); (case hg => rfl); (case hr => first | (go_simp; done) | (go_simp; rfl)); intro gB10 hg_ w_gB10 BK_ hb_; have ORD_ : Aside0 ((((True) ∧ (mb < gB5 ∧ sb < gB5 ∧ w.heap.size ≤ gB5)) ∧ gB5 < wr.heap.size) ∧ (gB5 < gB10 ∧ mb < gB10 ∧ sb < gB10 ∧ w.heap.size ≤ gB10 ∧ wr.heap.size ≤ gB10)) := ⟨by refine ⟨ORD.out, ?_⟩; (have := HS.out.2.lt); (have := blk_lt HS.out.1); (have := HG.out.size); (have := blk_lt B5.out); (have := SZ.out); omega⟩; clear ORD; have ORD := ORD_; clear ORD_; have n0_ : Aside0 (Slv w_gB10 sb mb) := ⟨Slv.below (w := _) (by exact HS.out) hb_⟩; have n1_ : Aside0 (w.grownBy w_gB10 (some mb)) := ⟨Hx.g_below (by first | exact HG.out | exact Hx.g_drew HG.out | exact Hx.g_drewN HG.out _) hb_⟩; have n2_ : Aside0 (w_gB10.heap[gB5]? = some (.cells #[.int .i64 q.a, .int .i64 q.b, .int .i64 q.c, .int .i64 q.d, .int .i64 q.w, .int .i64 q.s] 60 (0, 0))) := ⟨Hx.b_below hb_ B5.out⟩; have n3_ : Aside0 (Kd.R k43 43 w_gB10 w.heap.size (fun k_ => gB5 < k_ ∧ k_ < wr.heap.size) u9 xs) := ⟨Kd.R_below HR.out hb_⟩; have n4_ : Aside0 (wr.heap.size ≤ w_gB10.heap.size) := ⟨Nat.le_trans SZ.out hb_.size⟩; have m0_ : Aside0 (w_gB10.heap[gB10]? = some (.cells #[.bool false, .int .i64 0, .bool false] 43 (0, 0))) := ⟨BK_⟩; (try clear cB5_0 dB5_0 cB5_1 dB5_1 cB5_2 dB5_2 cB5_3 dB5_3 cB5_4 dB5_4 cB5_5 dB5_5); (try clear HS); (try clear HG); (try clear B5); (try clear HR); (try clear SZ); have HS := n0_; have HG := n1_; have B5 := n2_; have HR := n3_; have SZ := n4_; have B10 := m0_; clear n0_ n1_ n2_ n3_ n4_ m0_; have cB5_0 : w_gB10.cell? ⟨gB5, 0, none⟩ = some (.int .i64 q.a) := (blk_cell B5.out 0).trans rfl; have dB5_0 := blk_frozen B5.out 0; have cB5_1 : w_gB10.cell? ⟨gB5, 1, none⟩ = some (.int .i64 q.b) := (blk_cell B5.out 1).trans rfl; have dB5_1 := blk_frozen B5.out 1; have cB5_2 : w_gB10.cell? ⟨gB5, 2, none⟩ = some (.int .i64 q.c) := (blk_cell B5.out 2).trans rfl; have dB5_2 := blk_frozen B5.out 2; have cB5_3 : w_gB10.cell? ⟨gB5, 3, none⟩ = some (.int .i64 q.d) := (blk_cell B5.out 3).trans rfl; have dB5_3 := blk_frozen B5.out 3; have cB5_4 : w_gB10.cell? ⟨gB5, 4, none⟩ = some (.int .i64 q.w) := (blk_cell B5.out 4).trans rfl; have dB5_4 := blk_frozen B5.out 4; have cB5_5 : w_gB10.cell? ⟨gB5, 5, none⟩ = some (.int .i64 q.s) := (blk_cell B5.out 5).trans rfl; have dB5_5 := blk_frozen B5.out 5; have cB10_0 : w_gB10.cell? ⟨gB10, 0, none⟩ = some (.bool false) := (blk_cell B10.out 0).trans rfl; have dB10_0 := blk_frozen B10.out 0; have cB10_1 : w_gB10.cell? ⟨gB10, 1, none⟩ = some (.int .i64 0) := (blk_cell B10.out 1).trans rfl; have dB10_1 := blk_frozen B10.out 1; have cB10_2 : w_gB10.cell? ⟨gB10, 2, none⟩ = some (.bool false) := (blk_cell B10.out 2).trans rfl; have dB10_2 := blk_frozen B10.out 2; clear hg_ BK_ hb_) | ((with_reducible refine gate_store (t := 43) (p := 10) rfl ?_); refine store_event (t := 43) (p := 10) (v := ?vo_w3) (w1 := ((((w_gB10).setCell ⟨gB10, 0, none⟩ (.bool s1)).setCell ⟨gB10, 1, none⟩ (.int .i64 fl)).setCell ⟨gB10, 2, none⟩ (.bool false))) ?hg ?ho ?hn ?hr ?_; (case ho => rfl); (case hg => rfl); (case hn => rfl); (case hr => first | (go_simp; done) | (go_simp; rfl)); intro w_3 hw_; have n0_ : Aside0 (Slv w_3 sb mb) := ⟨by rw [hw_]; exact Slv.far (Slv.far (Slv.far HS.out (show sb ≠ gB10 by have := ORD.out; omega) (show mb ≠ gB10 by have := ORD.out; omega)) (show sb ≠ gB10 by have := ORD.out; omega) (show mb ≠ gB10 by have := ORD.out; omega)) (show sb ≠ gB10 by have := ORD.out; omega) (show mb ≠ gB10 by have := ORD.out; omega)⟩; have n1_ : Aside0 (w.grownBy w_3 (some mb)) := ⟨by rw [hw_]; exact Hx.g_set (Hx.g_set (Hx.g_set HG.out (by have := ORD.out; omega)) (by have := ORD.out; omega)) (by have := ORD.out; omega)⟩; have n2_ : Aside0 (w_3.heap[gB5]? = some (.cells #[.int .i64 q.a, .int .i64 q.b, .int .i64 q.c, .int .i64 q.d, .int .i64 q.w, .int .i64 q.s] 60 (0, 0))) := ⟨by rw [hw_]; exact blk_far (blk_far (blk_far B5.out (show gB5 ≠ gB10 by have := ORD.out; omega) _) (show gB5 ≠ gB10 by have := ORD.out; omega) _) (show gB5 ≠ gB10 by have := ORD.out; omega) _⟩; have n3_ : Aside0 (Kd.R k43 43 w_3 w.heap.size (fun k_ => gB5 < k_ ∧ k_ < wr.heap.size) u9 xs) := ⟨by rw [hw_]; exact Kd.R_far (Kd.R_far (Kd.R_far HR.out (fun k_ hk_ => show k_ ≠ gB10 by have h1_ := hk_.1; have h2_ := hk_.2; have := ORD.out; omega) _) (fun k_ hk_ => show k_ ≠ gB10 by have h1_ := hk_.1; have h2_ := hk_.2; have := ORD.out; omega) _) (fun k_ hk_ => show k_ ≠ gB10 by have h1_ := hk_.1; have h2_ := hk_.2; have := ORD.out; omega) _⟩; have n4_ : Aside0 (wr.heap.size ≤ w_3.heap.size) := ⟨by rw [hw_]; exact Hx.size_set (Hx.size_set (Hx.size_set SZ.out))⟩; have n5_ : Aside0 (w_3.heap[gB10]? = some (.cells #[.bool s1, .int .i64 fl, .bool false] 43 (0, 0))) := ⟨by rw [hw_]; exact blk_put (blk_put (blk_put B10.out 0 _ rfl) 1 _ rfl) 2 _ rfl⟩; (try clear cB5_0 dB5_0 cB5_1 dB5_1 cB5_2 dB5_2 cB5_3 dB5_3 cB5_4 dB5_4 cB5_5 dB5_5 cB10_0 dB10_0 cB10_1 dB10_1 cB10_2 dB10_2); (try clear HS); (try clear HG); (try clear B5); (try clear HR); (try clear SZ); (try clear B10); have HS := n0_; have HG := n1_; have B5 := n2_; have HR := n3_; have SZ := n4_; have B10 := n5_; clear n0_ n1_ n2_ n3_ n4_ n5_; have cB5_0 : w_3.cell? ⟨gB5, 0, none⟩ = some (.int .i64 q.a) := (blk_cell B5.out 0).trans rfl; have dB5_0 := blk_frozen B5.out 0; have cB5_1 : w_3.cell? ⟨gB5, 1, none⟩ = some (.int .i64 q.b) := (blk_cell B5.out 1).trans rfl; have dB5_1 := blk_frozen B5.out 1; have cB5_2 : w_3.cell? ⟨gB5, 2, none⟩ = some (.int .i64 q.c) := (blk_cell B5.out 2).trans rfl; have dB5_2 := blk_frozen B5.out 2; have cB5_3 : w_3.cell? ⟨gB5, 3, none⟩ = some (.int .i64 q.d) := (blk_cell B5.out 3).trans rfl; have dB5_3 := blk_frozen B5.out 3; have cB5_4 : w_3.cell? ⟨gB5, 4, none⟩ = some (.int .i64 q.w) := (blk_cell B5.out 4).trans rfl; have dB5_4 := blk_frozen B5.out 4; have cB5_5 : w_3.cell? ⟨gB5, 5, none⟩ = some (.int .i64 q.s) := (blk_cell B5.out 5).trans rfl; have dB5_5 := blk_frozen B5.out 5; have cB10_0 : w_3.cell? ⟨gB10, 0, none⟩ = some (.bool s1) := (blk_cell B10.out 0).trans rfl; have dB10_0 := blk_frozen B10.out 0; have cB10_1 : w_3.cell? ⟨gB10, 1, none⟩ = some (.int .i64 fl) := (blk_cell B10.out 1).trans rfl; have dB10_1 := blk_frozen B10.out 1; have cB10_2 : w_3.cell? ⟨gB10, 2, none⟩ = some (.bool false) := (blk_cell B10.out 2).trans rfl; have dB10_2 := blk_frozen B10.out 2; clear hw_) | ((with_reducible refine gate_callee (f := 55) rfl ?_); refine goesL_ (some 22) rfl rfl Try.func55 (by kernel_rfl) rfl #[.agg #[.bool s1, .int .i64 fl, .bool false], .int .i64 wk, .int .i64 st] rfl (by (try simp only [List.map_toArray, List.map_cons, List.map_nil]); first | done | rfl) ?_; refine (impl_KindTest_fits.calls _ _ _ _ _ _ _ HFt.out).mono ?_; rintro e_ w_4 ⟨rfl, hb_⟩; refine ⟨_, rfl, ?_⟩; have n0_ : Aside0 (Slv w_4 sb mb) := ⟨Slv.below (w := _) (by exact HS.out) hb_⟩; have n1_ : Aside0 (w.grownBy w_4 (some mb)) := ⟨Hx.g_below (by first | exact HG.out | exact Hx.g_drew HG.out | exact Hx.g_drewN HG.out _) hb_⟩; have n2_ : Aside0 (w_4.heap[gB5]? = some (.cells #[.int .i64 q.a, .int .i64 q.b, .int .i64 q.c, .int .i64 q.d, .int .i64 q.w, .int .i64 q.s] 60 (0, 0))) := ⟨Hx.b_below hb_ B5.out⟩; have n3_ : Aside0 (Kd.R k43 43 w_4 w.heap.size (fun k_ => gB5 < k_ ∧ k_ < wr.heap.size) u9 xs) := ⟨Kd.R_below HR.out hb_⟩; have n4_ : Aside0 (wr.heap.size ≤ w_4.heap.size) := ⟨Nat.le_trans SZ.out hb_.size⟩; have n5_ : Aside0 (w_4.heap[gB10]? = some (.cells #[.bool s1, .int .i64 fl, .bool false] 43 (0, 0))) := ⟨Hx.b_below hb_ B10.out⟩; (try clear cB5_0 dB5_0 cB5_1 dB5_1 cB5_2 dB5_2 cB5_3 dB5_3 cB5_4 dB5_4 cB5_5 dB5_5 cB10_0 dB10_0 cB10_1 dB10_1 cB10_2 dB10_2); (try clear HS); (try clear HG); (try clear B5); (try clear HR); (try clear SZ); (try clear B10); have HS := n0_; have HG := n1_; have B5 := n2_; have HR := n3_; have SZ := n4_; have B10 := n5_; clear n0_ n1_ n2_ n3_ n4_ n5_; have cB5_0 : w_4.cell? ⟨gB5, 0, none⟩ = some (.int .i64 q.a) := (blk_cell B5.out 0).trans rfl; have dB5_0 := blk_frozen B5.out 0; have cB5_1 : w_4.cell? ⟨gB5, 1, none⟩ = some (.int .i64 q.b) := (blk_cell B5.out 1).trans rfl; have dB5_1 := blk_frozen B5.out 1; have cB5_2 : w_4.cell? ⟨gB5, 2, none⟩ = some (.int .i64 q.c) := (blk_cell B5.out 2).trans rfl; have dB5_2 := blk_frozen B5.out 2; have cB5_3 : w_4.cell? ⟨gB5, 3, none⟩ = some (.int .i64 q.d) := (blk_cell B5.out 3).trans rfl; have dB5_3 := blk_frozen B5.out 3; have cB5_4 : w_4.cell? ⟨gB5, 4, none⟩ = some (.int .i64 q.w) := (blk_cell B5.out 4).trans rfl; have dB5_4 := blk_frozen B5.out 4; have cB5_5 : w_4.cell? ⟨gB5, 5, none⟩ = some (.int .i64 q.s) := (blk_cell B5.out 5).trans rfl; have dB5_5 := blk_frozen B5.out 5; have cB10_0 : w_4.cell? ⟨gB10, 0, none⟩ = some (.bool s1) := (blk_cell B10.out 0).trans rfl; have dB10_0 := blk_frozen B10.out 0; have cB10_1 : w_4.cell? ⟨gB10, 1, none⟩ = some (.int .i64 fl) := (blk_cell B10.out 1).trans rfl; have dB10_1 := blk_frozen B10.out 1; have cB10_2 : w_4.cell? ⟨gB10, 2, none⟩ = some (.bool false) := (blk_cell B10.out 2).trans rfl; have dB10_2 := blk_frozen B10.out 2; clear hb_) | ((with_reducible refine gate_store (t := 4) (p := 24) rfl ?_); refine store_event (t := 4) (p := 24) (v := ?vo_w5) (w1 := ((w_4).setCell ⟨gB10, 2, none⟩ (.bool br))) ?hg ?ho ?hn ?hr ?_; (case ho => rfl); (case hg => rfl); (case hn => rfl); (case hr => first | (go_simp; done) | (go_simp; rfl)); intro w_5 hw_; have n0_ : Aside0 (Slv w_5 sb mb) := ⟨by rw [hw_]; exact Slv.far HS.out (show sb ≠ gB10 by have := ORD.out; omega) (show mb ≠ gB10 by have := ORD.out; omega)⟩; have n1_ : Aside0 (w.grownBy w_5 (some mb)) := ⟨by rw [hw_]; exact Hx.g_set HG.out (by have := ORD.out; omega)⟩; have n2_ : Aside0 (w_5.heap[gB5]? = some (.cells #[.int .i64 q.a, .int .i64 q.b, .int .i64 q.c, .int .i64 q.d, .int .i64 q.w, .int .i64 q.s] 60 (0, 0))) := ⟨by rw [hw_]; exact blk_far B5.out (show gB5 ≠ gB10 by have := ORD.out; omega) _⟩; have n3_ : Aside0 (Kd.R k43 43 w_5 w.heap.size (fun k_ => gB5 < k_ ∧ k_ < wr.heap.size) u9 xs) := ⟨by rw [hw_]; exact Kd.R_far HR.out (fun k_ hk_ => show k_ ≠ gB10 by have h1_ := hk_.1; have h2_ := hk_.2; have := ORD.out; omega) _⟩; have n4_ : Aside0 (wr.heap.size ≤ w_5.heap.size) := ⟨by rw [hw_]; exact Hx.size_set SZ.out⟩; have n5_ : Aside0 (w_5.heap[gB10]? = some (.cells #[.bool s1, .int .i64 fl, .bool br] 43 (0, 0))) := ⟨by rw [hw_]; exact blk_put B10.out 2 _ rfl⟩; (try clear cB5_0 dB5_0 cB5_1 dB5_1 cB5_2 dB5_2 cB5_3 dB5_3 cB5_4 dB5_4 cB5_5 dB5_5 cB10_0 dB10_0 cB10_1 dB10_1 cB10_2 dB10_2); (try clear HS); (try clear HG); (try clear B5); (try clear HR); (try clear SZ); (try clear B10); have HS := n0_; have HG := n1_; have B5 := n2_; have HR := n3_; have SZ := n4_; have B10 := n5_; clear n0_ n1_ n2_ n3_ n4_ n5_; have cB5_0 : w_5.cell? ⟨gB5, 0, none⟩ = some (.int .i64 q.a) := (blk_cell B5.out 0).trans rfl; have dB5_0 := blk_frozen B5.out 0; have cB5_1 : w_5.cell? ⟨gB5, 1, none⟩ = some (.int .i64 q.b) := (blk_cell B5.out 1).trans rfl; have dB5_1 := blk_frozen B5.out 1; have cB5_2 : w_5.cell? ⟨gB5, 2, none⟩ = some (.int .i64 q.c) := (blk_cell B5.out 2).trans rfl; have dB5_2 := blk_frozen B5.out 2; have cB5_3 : w_5.cell? ⟨gB5, 3, none⟩ = some (.int .i64 q.d) := (blk_cell B5.out 3).trans rfl; have dB5_3 := blk_frozen B5.out 3; have cB5_4 : w_5.cell? ⟨gB5, 4, none⟩ = some (.int .i64 q.w) := (blk_cell B5.out 4).trans rfl; have dB5_4 := blk_frozen B5.out 4; have cB5_5 : w_5.cell? ⟨gB5, 5, none⟩ = some (.int .i64 q.s) := (blk_cell B5.out 5).trans rfl; have dB5_5 := blk_frozen B5.out 5; have cB10_0 : w_5.cell? ⟨gB10, 0, none⟩ = some (.bool s1) := (blk_cell B10.out 0).trans rfl; have dB10_0 := blk_frozen B10.out 0; have cB10_1 : w_5.cell? ⟨gB10, 1, none⟩ = some (.int .i64 fl) := (blk_cell B10.out 1).trans rfl; have dB10_1 := blk_frozen B10.out 1; have cB10_2 : w_5.cell? ⟨gB10, 2, none⟩ = some (.bool br) := (blk_cell B10.out 2).trans rfl; have dB10_2 := blk_frozen B10.out 2; clear hw_) | ((with_reducible refine gate_callee (f := 56) rfl ?_); refine goesL_ (some 27) rfl rfl Try.func56 (by kernel_rfl) rfl #[.agg #[.int .i64 q.a, .int .i64 q.b, .int .i64 q.c, .int .i64 q.d, .int .i64 q.w, .int .i64 q.s], .agg #[.bool s1, .int .i64 fl, .bool br]] rfl (by (try simp only [List.map_toArray, List.map_cons, List.map_nil]); first | done | rfl) ?_; refine (impl_knowledge_behind.calls 9 q.a q.b q.c q.d q.w q.s s1 fl br _ _ _ _ _ _ _ HBh.out).mono ?_; rintro e_ w_6 ⟨rfl, hb_⟩; refine ⟨_, rfl, ?_⟩; have n0_ : Aside0 (Slv w_6 sb mb) := ⟨Slv.below (w := _) (by exact HS.out) hb_⟩; have n1_ : Aside0 (w.grownBy w_6 (some mb)) := ⟨Hx.g_below (by first | exact HG.out | exact Hx.g_drew HG.out | exact Hx.g_drewN HG.out _) hb_⟩; have n2_ : Aside0 (w_6.heap[gB5]? = some (.cells #[.int .i64 q.a, .int .i64 q.b, .int .i64 q.c, .int .i64 q.d, .int .i64 q.w, .int .i64 q.s] 60 (0, 0))) := ⟨Hx.b_below hb_ B5.out⟩; have n3_ : Aside0 (Kd.R k43 43 w_6 w.heap.size (fun k_ => gB5 < k_ ∧ k_ < wr.heap.size) u9 xs) := ⟨Kd.R_below HR.out hb_⟩; have n4_ : Aside0 (wr.heap.size ≤ w_6.heap.size) := ⟨Nat.le_trans SZ.out hb_.size⟩; have n5_ : Aside0 (w_6.heap[gB10]? = some (.cells #[.bool s1, .int .i64 fl, .bool br] 43 (0, 0))) := ⟨Hx.b_below hb_ B10.out⟩; (try clear cB5_0 dB5_0 cB5_1 dB5_1 cB5_2 dB5_2 cB5_3 dB5_3 cB5_4 dB5_4 cB5_5 dB5_5 cB10_0 dB10_0 cB10_1 dB10_1 cB10_2 dB10_2); (try clear HS); (try clear HG); (try clear B5); (try clear HR); (try clear SZ); (try clear B10); have HS := n0_; have HG := n1_; have B5 := n2_; have HR := n3_; have SZ := n4_; have B10 := n5_; clear n0_ n1_ n2_ n3_ n4_ n5_; have cB5_0 : w_6.cell? ⟨gB5, 0, none⟩ = some (.int .i64 q.a) := (blk_cell B5.out 0).trans rfl; have dB5_0 := blk_frozen B5.out 0; have cB5_1 : w_6.cell? ⟨gB5, 1, none⟩ = some (.int .i64 q.b) := (blk_cell B5.out 1).trans rfl; have dB5_1 := blk_frozen B5.out 1; have cB5_2 : w_6.cell? ⟨gB5, 2, none⟩ = some (.int .i64 q.c) := (blk_cell B5.out 2).trans rfl; have dB5_2 := blk_frozen B5.out 2; have cB5_3 : w_6.cell? ⟨gB5, 3, none⟩ = some (.int .i64 q.d) := (blk_cell B5.out 3).trans rfl; have dB5_3 := blk_frozen B5.out 3; have cB5_4 : w_6.cell? ⟨gB5, 4, none⟩ = some (.int .i64 q.w) := (blk_cell B5.out 4).trans rfl; have dB5_4 := blk_frozen B5.out 4; have cB5_5 : w_6.cell? ⟨gB5, 5, none⟩ = some (.int .i64 q.s) := (blk_cell B5.out 5).trans rfl; have dB5_5 := blk_frozen B5.out 5; have cB10_0 : w_6.cell? ⟨gB10, 0, none⟩ = some (.bool s1) := (blk_cell B10.out 0).trans rfl; have dB10_0 := blk_frozen B10.out 0; have cB10_1 : w_6.cell? ⟨gB10, 1, none⟩ = some (.int .i64 fl) := (blk_cell B10.out 1).trans rfl; have dB10_1 := blk_frozen B10.out 1; have cB10_2 : w_6.cell? ⟨gB10, 2, none⟩ = some (.bool br) := (blk_cell B10.out 2).trans rfl; have dB10_2 := blk_frozen B10.out 2; clear hb_) | ((with_reducible refine gate_store (t := 60) (p := 5) rfl ?_); refine store_event (t := 60) (p := 5) (v := ?vo_w7) (w1 := (((((((w_6).setCell ⟨gB5, 0, none⟩ (.int .i64 q2.a)).setCell ⟨gB5, 1, none⟩ (.int .i64 q2.b)).setCell ⟨gB5, 2, none⟩ (.int .i64 q2.c)).setCell ⟨gB5, 3, none⟩ (.int .i64 q2.d)).setCell ⟨gB5, 4, none⟩ (.int .i64 q2.w)).setCell ⟨gB5, 5, none⟩ (.int .i64 q2.s))) ?hg ?ho ?hn ?hr ?_; (case ho => rfl); (case hg => rfl); (case hn => rfl); (case hr => first | (go_simp; done) | (go_simp; rfl)); intro w_7 hw_; have n0_ : Aside0 (Slv w_7 sb mb) := ⟨by rw [hw_]; exact Slv.far (Slv.far (Slv.far (Slv.far (Slv.far (Slv.far HS.out (show sb ≠ gB5 by have := ORD.out; omega) (show mb ≠ gB5 by have := ORD.out; omega)) (show sb ≠ gB5 by have := ORD.out; omega) (show mb ≠ gB5 by have := ORD.out; omega)) (show sb ≠ gB5 by have := ORD.out; omega) (show mb ≠ gB5 by have := ORD.out; omega)) (show sb ≠ gB5 by have := ORD.out; omega) (show mb ≠ gB5 by have := ORD.out; omega)) (show sb ≠ gB5 by have := ORD.out; omega) (show mb ≠ gB5 by have := ORD.out; omega)) (show sb ≠ gB5 by have := ORD.out; omega) (show mb ≠ gB5 by have := ORD.out; omega)⟩; have n1_ : Aside0 (w.grownBy w_7 (some mb)) := ⟨by rw [hw_]; exact Hx.g_set (Hx.g_set (Hx.g_set (Hx.g_set (Hx.g_set (Hx.g_set HG.out (by have := ORD.out; omega)) (by have := ORD.out; omega)) (by have := ORD.out; omega)) (by have := ORD.out; omega)) (by have := ORD.out; omega)) (by have := ORD.out; omega)⟩; have n2_ : Aside0 (w_7.heap[gB5]? = some (.cells #[.int .i64 q2.a, .int .i64 q2.b, .int .i64 q2.c, .int .i64 q2.d, .int .i64 q2.w, .int .i64 q2.s] 60 (0, 0))) := ⟨by rw [hw_]; exact blk_put (blk_put (blk_put (blk_put (blk_put (blk_put B5.out 0 _ rfl) 1 _ rfl) 2 _ rfl) 3 _ rfl) 4 _ rfl) 5 _ rfl⟩; have n3_ : Aside0 (Kd.R k43 43 w_7 w.heap.size (fun k_ => gB5 < k_ ∧ k_ < wr.heap.size) u9 xs) := ⟨by rw [hw_]; exact Kd.R_far (Kd.R_far (Kd.R_far (Kd.R_far (Kd.R_far (Kd.R_far HR.out (fun k_ hk_ => show k_ ≠ gB5 by have h1_ := hk_.1; have h2_ := hk_.2; have := ORD.out; omega) _) (fun k_ hk_ => show k_ ≠ gB5 by have h1_ := hk_.1; have h2_ := hk_.2; have := ORD.out; omega) _) (fun k_ hk_ => show k_ ≠ gB5 by have h1_ := hk_.1; have h2_ := hk_.2; have := ORD.out; omega) _) (fun k_ hk_ => show k_ ≠ gB5 by have h1_ := hk_.1; have h2_ := hk_.2; have := ORD.out; omega) _) (fun k_ hk_ => show k_ ≠ gB5 by have h1_ := hk_.1; have h2_ := hk_.2; have := ORD.out; omega) _) (fun k_ hk_ => show k_ ≠ gB5 by have h1_ := hk_.1; have h2_ := hk_.2; have := ORD.out; omega) _⟩; have n4_ : Aside0 (wr.heap.size ≤ w_7.heap.size) := ⟨by rw [hw_]; exact Hx.size_set (Hx.size_set (Hx.size_set (Hx.size_set (Hx.size_set (Hx.size_set SZ.out)))))⟩; have n5_ : Aside0 (w_7.heap[gB10]? = some (.cells #[.bool s1, .int .i64 fl, .bool br] 43 (0, 0))) := ⟨by rw [hw_]; exact blk_far (blk_far (blk_far (blk_far (blk_far (blk_far B10.out (show gB10 ≠ gB5 by have := ORD.out; omega) _) (show gB10 ≠ gB5 by have := ORD.out; omega) _) (show gB10 ≠ gB5 by have := ORD.out; omega) _) (show gB10 ≠ gB5 by have := ORD.out; omega) _) (show gB10 ≠ gB5 by have := ORD.out; omega) _) (show gB10 ≠ gB5 by have := ORD.out; omega) _⟩; (try clear cB5_0 dB5_0 cB5_1 dB5_1 cB5_2 dB5_2 cB5_3 dB5_3 cB5_4 dB5_4 cB5_5 dB5_5 cB10_0 dB10_0 cB10_1 dB10_1 cB10_2 dB10_2); (try clear HS); (try clear HG); (try clear B5); (try clear HR); (try clear SZ); (try clear B10); have HS := n0_; have HG := n1_; have B5 := n2_; have HR := n3_; have SZ := n4_; have B10 := n5_; clear n0_ n1_ n2_ n3_ n4_ n5_; have cB5_0 : w_7.cell? ⟨gB5, 0, none⟩ = some (.int .i64 q2.a) := (blk_cell B5.out 0).trans rfl; have dB5_0 := blk_frozen B5.out 0; have cB5_1 : w_7.cell? ⟨gB5, 1, none⟩ = some (.int .i64 q2.b) := (blk_cell B5.out 1).trans rfl; have dB5_1 := blk_frozen B5.out 1; have cB5_2 : w_7.cell? ⟨gB5, 2, none⟩ = some (.int .i64 q2.c) := (blk_cell B5.out 2).trans rfl; have dB5_2 := blk_frozen B5.out 2; have cB5_3 : w_7.cell? ⟨gB5, 3, none⟩ = some (.int .i64 q2.d) := (blk_cell B5.out 3).trans rfl; have dB5_3 := blk_frozen B5.out 3; have cB5_4 : w_7.cell? ⟨gB5, 4, none⟩ = some (.int .i64 q2.w) := (blk_cell B5.out 4).trans rfl; have dB5_4 := blk_frozen B5.out 4; have cB5_5 : w_7.cell? ⟨gB5, 5, none⟩ = some (.int .i64 q2.s) := (blk_cell B5.out 5).trans rfl; have dB5_5 := blk_frozen B5.out 5; have cB10_0 : w_7.cell? ⟨gB10, 0, none⟩ = some (.bool s1) := (blk_cell B10.out 0).trans rfl; have dB10_0 := blk_frozen B10.out 0; have cB10_1 : w_7.cell? ⟨gB10, 1, none⟩ = some (.int .i64 fl) := (blk_cell B10.out 1).trans rfl; have dB10_1 := blk_frozen B10.out 1; have cB10_2 : w_7.cell? ⟨gB10, 2, none⟩ = some (.bool br) := (blk_cell B10.out 2).trans rfl; have dB10_2 := blk_frozen B10.out 2; clear hw_) | ((with_reducible refine gate_builtin (b := .append) (xs := #[.tmp 28, .tmp 30]) rfl ?_); at_builtin; refine Kd.R_append k43 (w0 := w_7) (w.heap.size) rfl (.tmp 28) (.tmp 30) 26 43 (.agg #[(.bool false), (.int .i64 0), (.bool false)]) 24 rfl Try.underlying26 info43 rfl (by decide) (by omega) u9 xs ((⟨s1, fl, br⟩ : S43)) [.bool s1, .int .i64 fl, .bool br] (fun k_ => gB5 < k_) (fun _ => False) rfl rfl ?aP (fun _ hk_ => hk_.elim) ?aF ?aO ?aB ?aS ?aL ?_; (case aP => exact k43_mkM _ _ _ ((⟨s1, fl, br⟩ : S43))); (case aB => exact Below.refl _ _); (case aF => exact (fun k_ hk_ => by have := ORD.out; have := HS.out.2.lt; have := blk_lt HS.out.1; have := HG.out.size; have := blk_lt B5.out; have := SZ.out; have := blk_lt B10.out; show gB5 < k_; omega)); (case aO => exact Kd.R_mono HR.out (fun k_ hk_ => hk_.1)); (case aS => exact (by have := HS.out.2.lt; have := blk_lt HS.out.1; have := HG.out.size; have := blk_lt B5.out; have := SZ.out; have := blk_lt B10.out; have := ORD.out; omega)); (case aL => have := HI.out; omega); intro v_ w_8 ho_ hb_ hg_ hat_; rw [← Nys.out] at ho_; have n0_ : Aside0 (Slv w_8 sb mb) := ⟨Slv.grown2 HS.out hg_ (fun h_ => by have h2_ : gB5 < sb ∧ sb < wr.heap.size := HR.out.1 _ h_.symm; have := ORD.out; omega) (fun h_ => by have h2_ : gB5 < mb ∧ mb < wr.heap.size := HR.out.1 _ h_.symm; have := ORD.out; omega)⟩; have n1_ : Aside0 (w.grownBy w_8 (some mb)) := ⟨Hx.g_append (by first | exact HG.out | exact Hx.g_drew HG.out | exact Hx.g_drewN HG.out _) hg_ (fun k_ h_ => by have h2_ : gB5 < k_ ∧ k_ < wr.heap.size := HR.out.1 _ h_; have := ORD.out; omega)⟩; have n2_ : Aside0 (w_8.heap[gB5]? = some (.cells #[.int .i64 q2.a, .int .i64 q2.b, .int .i64 q2.c, .int .i64 q2.d, .int .i64 q2.w, .int .i64 q2.s] 60 (0, 0))) := ⟨Hx.b_grown hg_ B5.out (fun h_ => by have h2_ : gB5 < gB5 ∧ gB5 < wr.heap.size := HR.out.1 _ h_.symm; have := ORD.out; omega)⟩; have n3_ : Aside0 (wr.heap.size ≤ w_8.heap.size) := ⟨Nat.le_trans SZ.out hg_.size⟩; have n4_ : Aside0 (w_8.heap[gB10]? = some (.cells #[.bool s1, .int .i64 fl, .bool br] 43 (0, 0))) := ⟨Hx.b_grown hg_ B10.out (fun h_ => by have h2_ : gB5 < gB10 ∧ gB10 < wr.heap.size := HR.out.1 _ h_.symm; have := ORD.out; omega)⟩; have m0_ : Aside0 (Kd.R k43 43 w_8 w.heap.size (fun k_ => gB5 < k_) v_ ys) := ⟨ho_⟩; (try clear cB5_0 dB5_0 cB5_1 dB5_1 cB5_2 dB5_2 cB5_3 dB5_3 cB5_4 dB5_4 cB5_5 dB5_5 cB10_0 dB10_0 cB10_1 dB10_1 cB10_2 dB10_2); (try clear HS); (try clear HG); (try clear B5); (try clear SZ); (try clear B10); (try clear HR); have HS := n0_; have HG := n1_; have B5 := n2_; have SZ := n3_; have B10 := n4_; have HR := m0_; clear n0_ n1_ n2_ n3_ n4_ m0_; have cB5_0 : w_8.cell? ⟨gB5, 0, none⟩ = some (.int .i64 q2.a) := (blk_cell B5.out 0).trans rfl; have dB5_0 := blk_frozen B5.out 0; have cB5_1 : w_8.cell? ⟨gB5, 1, none⟩ = some (.int .i64 q2.b) := (blk_cell B5.out 1).trans rfl; have dB5_1 := blk_frozen B5.out 1; have cB5_2 : w_8.cell? ⟨gB5, 2, none⟩ = some (.int .i64 q2.c) := (blk_cell B5.out 2).trans rfl; have dB5_2 := blk_frozen B5.out 2; have cB5_3 : w_8.cell? ⟨gB5, 3, none⟩ = some (.int .i64 q2.d) := (blk_cell B5.out 3).trans rfl; have dB5_3 := blk_frozen B5.out 3; have cB5_4 : w_8.cell? ⟨gB5, 4, none⟩ = some (.int .i64 q2.w) := (blk_cell B5.out 4).trans rfl; have dB5_4 := blk_frozen B5.out 4; have cB5_5 : w_8.cell? ⟨gB5, 5, none⟩ = some (.int .i64 q2.s) := (blk_cell B5.out 5).trans rfl; have dB5_5 := blk_frozen B5.out 5; have cB10_0 : w_8.cell? ⟨gB10, 0, none⟩ = some (.bool s1) := (blk_cell B10.out 0).trans rfl; have dB10_0 := blk_frozen B10.out 0; have cB10_1 : w_8.cell? ⟨gB10, 1, none⟩ = some (.int .i64 fl) := (blk_cell B10.out 1).trans rfl; have dB10_1 := blk_frozen B10.out 1; have cB10_2 : w_8.cell? ⟨gB10, 2, none⟩ = some (.bool br) := (blk_cell B10.out 2).trans rfl; have dB10_2 := blk_frozen B10.out 2; clear ho_ hb_ hg_ hat_))
      go_roundg k1
      case measure => omega
      case rel => exact ⟨q2, ys, ⟨⟨HAF.out.1, HAF.out.2.2, by have h1_ := HI.out.2.2.1; have h2_ := HAF.out.2.1; omega, by have h1_ := HI.out.2.2.2; have h2_ := congrArg List.length Nys.out; simp at h2_; omega⟩⟩, HL2, HR, B5, HS, HG⟩


/-! ### impl_nothing: function 32 -/
def impl_nothing.f (a0 : Int) (a1 : Int) (a2 : Int) : Option (Int × Int × Int × Int × Int × Int) := some (0, a2, 0, a2, a0, a1)
set_option maxHeartbeats 8000000 in
set_option maxRecDepth 100000 in
theorem impl_nothing.calls (a0 : Int) (a1 : Int) (a2 : Int) (r1 : Int) (r2 : Int) (r3 : Int) (r4 : Int) (r5 : Int) (r6 : Int) (w : World) (h : impl_nothing.f a0 a1 a2 = some (r1, r2, r3, r4, r5, r6)) :
    Calls Try.prog 32 #[.int .i64 a0, .int .i64 a1, .int .i64 a2] w fun e w' => e = .returned (.agg #[.int .i64 r1, .int .i64 r2, .int .i64 r3, .int .i64 r4, .int .i64 r5, .int .i64 r6]) ∧ Below w.heap.size w w' := by
  have hu60 := Try.underlying60
  have HB := Aside0.mk (Below.refl w.heap.size w)
  have H : (some (0, a2, 0, a2, a0, a1)) = some (r1, r2, r3, r4, r5, r6) := h
  clear h
  simp only [Option.some.injEq, Prod.mk.injEq] at H
  obtain ⟨rfl, rfl, rfl, rfl, rfl, rfl⟩ := H
  go_enter Try.func32, Try.ntmps32
  go_wp2_with (first | ((with_reducible refine gate_dst (N := 6) rfl ?_); refine box_event ?hg (N := 6) ?hd (cs := #[.int .i64 0, .int .i64 0, .int .i64 0, .int .i64 0, .int .i64 0, .int .i64 0]) (t := 60) ?hr ?_; (case hd => rfl); (case hg => rfl); (case hr => first | (go_simp; done) | (go_simp; rfl)); intro gb190 hg w4 hbox hb; have n0_ := Aside0.mk (below_step (by repeat (first | (with_reducible first | exact HB.out | apply below_alloc | apply pw_below_drewN | apply below_drew1) | exact HB.out)) hb); have n1_ := Aside0.mk (hbox); have n2_ := Aside0.mk ((by rw [hg]; exact (below_size (by repeat (first | (with_reducible first | exact HB.out | apply below_alloc | apply pw_below_drewN | apply below_drew1) | exact HB.out))) : w.heap.size ≤ gb190)); have n3_ := Aside0.mk ((by rw [hg]; exact (below_size (by repeat (first | (with_reducible first | exact HB.out | apply below_alloc | apply pw_below_drewN | apply below_drew1) | exact HB.out))) : w.heap.size ≤ gb190)); clear HB; have HB := n0_; have BK190 := n1_; have GW190 := n2_; have GE190 := n3_; clear n0_ n1_ n2_ n3_; clear hb hbox hg; have hcz5_0 : w4.cell? ⟨gb190, 0, none⟩ = some (.int .i64 0) := (blk_cell BK190.out 0).trans rfl; have hcz5_1 : w4.cell? ⟨gb190, 1, none⟩ = some (.int .i64 0) := (blk_cell BK190.out 1).trans rfl; have hcz5_2 : w4.cell? ⟨gb190, 2, none⟩ = some (.int .i64 0) := (blk_cell BK190.out 2).trans rfl; have hcz5_3 : w4.cell? ⟨gb190, 3, none⟩ = some (.int .i64 0) := (blk_cell BK190.out 3).trans rfl; have hcz5_4 : w4.cell? ⟨gb190, 4, none⟩ = some (.int .i64 0) := (blk_cell BK190.out 4).trans rfl; have hcz5_5 : w4.cell? ⟨gb190, 5, none⟩ = some (.int .i64 0) := (blk_cell BK190.out 5).trans rfl; have hfz5_0 := blk_frozen BK190.out 0; have hfz5_1 := blk_frozen BK190.out 1; have hfz5_2 := blk_frozen BK190.out 2; have hfz5_3 := blk_frozen BK190.out 3; have hfz5_4 := blk_frozen BK190.out 4; have hfz5_5 := blk_frozen BK190.out 5))
  refine bodyPost_ret (results_cell_row rfl _ _ gb190 60 #[.int .i64 0, .int .i64 a2, .int .i64 0, .int .i64 a2, .int .i64 a0, .int .i64 a1] (0, 0) _ rfl (by (with_reducible repeat (first | refine blk_drewN ?_ _ | refine blk_drew ?_ | refine blk_alloc ?_ _)); refine blk_put (cs := #[.int .i64 0, .int .i64 a2, .int .i64 0, .int .i64 a2, .int .i64 a0, .int .i64 0]) ?_ 5 _ rfl; (with_reducible repeat (first | refine blk_drewN ?_ _ | refine blk_drew ?_ | refine blk_alloc ?_ _)); refine blk_put (cs := #[.int .i64 0, .int .i64 a2, .int .i64 0, .int .i64 a2, .int .i64 0, .int .i64 0]) ?_ 4 _ rfl; (with_reducible repeat (first | refine blk_drewN ?_ _ | refine blk_drew ?_ | refine blk_alloc ?_ _)); refine blk_put (cs := #[.int .i64 0, .int .i64 a2, .int .i64 0, .int .i64 0, .int .i64 0, .int .i64 0]) ?_ 3 _ rfl; (with_reducible repeat (first | refine blk_drewN ?_ _ | refine blk_drew ?_ | refine blk_alloc ?_ _)); refine blk_put (cs := #[.int .i64 0, .int .i64 a2, .int .i64 0, .int .i64 0, .int .i64 0, .int .i64 0]) ?_ 2 _ rfl; (with_reducible repeat (first | refine blk_drewN ?_ _ | refine blk_drew ?_ | refine blk_alloc ?_ _)); refine blk_put (cs := #[.int .i64 0, .int .i64 0, .int .i64 0, .int .i64 0, .int .i64 0, .int .i64 0]) ?_ 1 _ rfl; (with_reducible repeat (first | refine blk_drewN ?_ _ | refine blk_drew ?_ | refine blk_alloc ?_ _)); refine blk_put (cs := #[.int .i64 0, .int .i64 0, .int .i64 0, .int .i64 0, .int .i64 0, .int .i64 0]) ?_ 0 _ rfl; (with_reducible repeat (first | refine blk_drewN ?_ _ | refine blk_drew ?_ | refine blk_alloc ?_ _)); exact BK190.out) Try.underlying60 rfl (by kernel_rfl)) rfl ?_
  exact ⟨by first | rfl | (simp [errW_none, errW_some] <;> rfl) | (simp [*, errW_none, errW_some] <;> rfl), by repeat (first | (with_reducible first | exact HB.out | apply below_alloc | apply pw_below_drewN | apply below_drew1 | refine below_set ?_ GE190.out) | exact HB.out)⟩

-- FOR impl.PlayKinds
-- KIND rounds=0 making=1
-- CALLS (*impl.solver).play ; impl.isKindHouse ; impl.isPair ; impl.nothing

def kAsk (we se fl : Int) : Bool := decide (1 ≤ we ∧ we ≤ 3 ∧ 1 ≤ se ∧ se ≤ 3 ∧ 0 ≤ fl ∧ fl ≤ 6)
def kPair (fl wk st : Int) : Bool := decide (0 ≤ wk ∧ wk ≤ st ∧ st ≤ fl)
theorem isKindHouse_is (a b c : Int) : impl_isKindHouse.f a b c = some (kAsk a b c) := by
  unfold impl_isKindHouse.f impl_isKindFloors.f impl_within.f kAsk
  by_cases h1 : a ≥ 1 <;> by_cases h2 : a ≤ 3 <;> by_cases h3 : b ≥ 1 <;> by_cases h4 : b ≤ 3 <;> by_cases h5 : c ≥ 0 <;> by_cases h6 : c ≤ 6 <;> simp [h1, h2, h3, h4, h5, h6] <;> omega
theorem isPair_is (a b c : Int) : impl_isPair.f a b c = some (kPair a b c) := by
  unfold impl_isPair.f impl_within.f kPair
  by_cases h1 : b ≥ 0 <;> by_cases h2 : b ≤ c <;> by_cases h3 : c ≤ a <;> simp [h1, h2, h3] <;> omega
def kStart (we se fl : Int) : KS := ⟨0, fl, 0, fl, we, se⟩
theorem kAsk_good {we se fl : Int} (h : kAsk we se fl = true) : KGood (kStart we se fl) ∧ KAble (kStart we se fl) := by
  unfold kAsk at h
  have := of_decide_eq_true h
  unfold KGood KAble kStart
  simp only
  omega
theorem kAsk_low {we se fl : Int} (h : kAsk we se fl = true) : gI (kStart we se fl) < 1000 := by
  have h1 := kAsk_good h
  have h2 := gI_able _ _ h1.1 h1.2 (Nat.le_refl _)
  have h3 : (kStart we se fl).ms ≤ 12 := by have := h1.1; unfold KGood at this; unfold KS.ms; omega
  omega
def playK (we se fl wk st : Int) : List S43 := (kPlay wk st (kStart we se fl).ms (kStart we se fl)).map toS
def impl_PlayKinds.f (a0 a1 a2 a3 a4 : Int) : Option (List S43 × Bool) := some (if kAsk a0 a1 a2 && kPair a2 a3 a4 then (playK a0 a1 a2 a3 a4, true) else ([], false))
set_option maxHeartbeats 8000000 in
set_option maxRecDepth 100000 in
theorem impl_PlayKinds.calls (a0 : Int) (a1 : Int) (a2 : Int) (a3 : Int) (a4 : Int) (r1 : List S43) (r2 : Bool) (w : World) (h : impl_PlayKinds.f a0 a1 a2 a3 a4 = some (r1, r2)) :
    Calls Try.prog 6 #[.int .i64 a0, .int .i64 a1, .int .i64 a2, .int .i64 a3, .int .i64 a4] w fun e w' => ∃ v0_ : Value, e = .returned (.tuple #[v0_, .bool r2]) ∧ Kd.R k43 43 w' w.heap.size (fun _ => True) v0_ r1 ∧ Below w.heap.size w w' := by
  have HB := Aside0.mk (Below.refl w.heap.size w)
  obtain ⟨b1, hb1⟩ : ∃ b, b = kAsk a0 a1 a2 := ⟨_, rfl⟩
  obtain ⟨b2, hb2⟩ : ∃ b, b = kPair a2 a3 a4 := ⟨_, rfl⟩
  have e1 := isKindHouse_is a0 a1 a2
  have e2 := isPair_is a2 a3 a4
  unfold impl_PlayKinds.f at h
  rw [← hb1] at e1 h
  rw [← hb2] at e2 h
  have HC := Aside0.mk (And.intro e1 e2)
  have HC1 := Aside0.mk hb1
  clear e1 e2 hb1 hb2
  cases b1 with
  | false =>
    simp only [Bool.false_and, Bool.false_eq_true, if_false, Option.some.injEq, Prod.mk.injEq] at h
    obtain ⟨rfl, rfl⟩ := h
    go_enter Try.func6, Try.ntmps6
    go_wp2_with (first | ((with_reducible refine gate_callee (f := 28) rfl ?_); refine goesL_ (some 15) rfl rfl Try.func28 (by kernel_rfl) rfl #[.int .i64 a0, .int .i64 a1, .int .i64 a2] rfl (by (try simp only [List.map_toArray, List.map_cons, List.map_nil]); first | done | rfl) ?_; refine (impl_isKindHouse.calls _ _ _ _ _ HC.out.1).mono ?_; rintro e_ w_1 ⟨rfl, hd_⟩; refine ⟨_, rfl, ?_⟩; have hb_ := hd_.below; clear hd_; have n0_ : Aside0 (Below w.heap.size w w_1) := ⟨Hx.bb_below hb_ (by first | exact HB.out | exact below_drew1 HB.out | exact pw_below_drewN HB.out _)⟩; (try clear HB); have HB := n0_; clear n0_; clear hb_))
    go_ret2
    exact ⟨_, rfl, Kd.R_nil _ _ _ _ _, HB.out⟩
  | true =>
    cases b2 with
    | false =>
      simp only [Bool.and_false, Bool.false_eq_true, if_false, Option.some.injEq, Prod.mk.injEq] at h
      obtain ⟨rfl, rfl⟩ := h
      go_enter Try.func6, Try.ntmps6
      go_wp2_with (first | ((with_reducible refine gate_callee (f := 28) rfl ?_); refine goesL_ (some 15) rfl rfl Try.func28 (by kernel_rfl) rfl #[.int .i64 a0, .int .i64 a1, .int .i64 a2] rfl (by (try simp only [List.map_toArray, List.map_cons, List.map_nil]); first | done | rfl) ?_; refine (impl_isKindHouse.calls _ _ _ _ _ HC.out.1).mono ?_; rintro e_ w_1 ⟨rfl, hd_⟩; refine ⟨_, rfl, ?_⟩; have hb_ := hd_.below; clear hd_; have n0_ : Aside0 (Below w.heap.size w w_1) := ⟨Hx.bb_below hb_ (by first | exact HB.out | exact below_drew1 HB.out | exact pw_below_drewN HB.out _)⟩; (try clear HB); have HB := n0_; clear n0_; clear hb_) | (go_at_call 29; refine (impl_isPair.calls _ _ _ _ _ HC.out.2).mono ?_; rintro e_ w_2 ⟨rfl, hd_⟩; have hb_ := hd_.below; clear hd_; have n0_ : Aside0 (Below w.heap.size w w_2) := ⟨Hx.bb_below hb_ (by first | exact HB.out | exact below_drew1 HB.out | exact pw_below_drewN HB.out _)⟩; (try clear HB); have HB := n0_; clear n0_; clear hb_))
      go_ret2
      exact ⟨_, rfl, Kd.R_nil _ _ _ _ _, HB.out⟩
    | true =>
      simp only [Bool.and_true, if_true, Option.some.injEq, Prod.mk.injEq] at h
      obtain ⟨rfl, rfl⟩ := h
      have HS0 := Aside0.mk (kAsk_good HC1.out.symm)
      have HS1 := Aside0.mk (kAsk_low HC1.out.symm)
      go_enter Try.func6, Try.ntmps6
      go_wp2_with (first | ((with_reducible refine gate_callee (f := 28) rfl ?_); refine goesL_ (some 15) rfl rfl Try.func28 (by kernel_rfl) rfl #[.int .i64 a0, .int .i64 a1, .int .i64 a2] rfl (by (try simp only [List.map_toArray, List.map_cons, List.map_nil]); first | done | rfl) ?_; refine (impl_isKindHouse.calls _ _ _ _ _ HC.out.1).mono ?_; rintro e_ w_1 ⟨rfl, hd_⟩; refine ⟨_, rfl, ?_⟩; have hb_ := hd_.below; clear hd_; have n0_ : Aside0 (Below w.heap.size w w_1) := ⟨Hx.bb_below hb_ (by first | exact HB.out | exact below_drew1 HB.out | exact pw_below_drewN HB.out _)⟩; (try clear HB); have HB := n0_; clear n0_; clear hb_) | (go_at_call 29; refine (impl_isPair.calls _ _ _ _ _ HC.out.2).mono ?_; rintro e_ w_2 ⟨rfl, hd_⟩; have hb_ := hd_.below; clear hd_; have n0_ : Aside0 (Below w.heap.size w w_2) := ⟨Hx.bb_below hb_ (by first | exact HB.out | exact below_drew1 HB.out | exact pw_below_drewN HB.out _)⟩; (try clear HB); have HB := n0_; clear n0_; clear hb_) | ((with_reducible refine gate_callee (f := 30) rfl ?_); refine goesL_ (some 24) rfl rfl Try.func30 (by kernel_rfl) rfl #[.bool false] rfl (by (try simp only [List.map_toArray, List.map_cons, List.map_nil]); first | done | rfl) ?_; refine (newSolver.calls _).mono ?_; rintro e_ w_3 ⟨rfl, hs_, hb_⟩; refine ⟨_, rfl, ?_⟩; have ZZ := Aside0.mk (show w.heap.size ≤ w_2.heap.size from HB.out.size); have n0_ : Aside0 (Below w.heap.size w w_3) := ⟨Hx.bb_below hb_ (by first | exact HB.out | exact below_drew1 HB.out | exact pw_below_drewN HB.out _)⟩; have m0_ : Aside0 (Slv w_3 (w_2.heap.size + 1) w_2.heap.size) := ⟨hs_⟩; (try clear HB); have HB := n0_; have HS := m0_; clear n0_ m0_; clear hs_ hb_) | ((with_reducible refine gate_callee (f := 32) rfl ?_); refine goesL_ (some 28) rfl rfl Try.func32 (by kernel_rfl) rfl #[.int .i64 a0, .int .i64 a1, .int .i64 a2] rfl (by (try simp only [List.map_toArray, List.map_cons, List.map_nil]); first | done | rfl) ?_; refine (impl_nothing.calls a0 a1 a2 _ _ _ _ _ _ _ rfl).mono ?_; rintro e_ w_4 ⟨rfl, hb_⟩; refine ⟨_, rfl, ?_⟩; have n0_ : Aside0 (Below w.heap.size w w_4) := ⟨Hx.bb_below hb_ (by first | exact HB.out | exact below_drew1 HB.out | exact pw_below_drewN HB.out _)⟩; have n1_ : Aside0 (Slv w_4 (w_2.heap.size + 1) w_2.heap.size) := ⟨Slv.below HS.out hb_⟩; (try clear HB); (try clear HS); have HB := n0_; have HS := n1_; clear n0_ n1_; clear hb_) | ((with_reducible refine gate_callee (f := 31) rfl ?_); refine goesL_ (some 31) rfl rfl Try.func31 (by kernel_rfl) rfl #[.pointer (some ⟨w_2.heap.size + 1, 0, none⟩), .agg #[.int .i64 0, .int .i64 a2, .int .i64 0, .int .i64 a2, .int .i64 a0, .int .i64 a1], .int .i64 a3, .int .i64 a4] rfl (by (try simp only [List.map_toArray, List.map_cons, List.map_nil]); first | done | rfl) ?_; refine (play_of (w_2.heap.size + 1) w_2.heap.size (kStart a0 a1 a2) a3 a4 HS0.out.1 HS1.out _ rfl w_4 HS.out).mono ?_; rintro e_ w_5 ⟨v_, rfl, hr_, hs_, hg_⟩; refine ⟨_, rfl, ?_⟩; have HR := Aside0.mk (Kd.R_lower hr_ HB.out.size); have HB5 := Aside0.mk (Hx.bb_grown HB.out hg_ ZZ.out); clear HB HS hs_ hg_ hr_; have HB := HB5; clear HB5))
      go_ret2
      exact ⟨_, rfl, HR.out, HB.out⟩


/-! ### spec_l1In: function 57 -/
def spec_l1In.f (a0 : Int) (a1 : Int) (a2 : Int) : Option (Bool) := if a0 ≥ a1 then (some (decide (a0 ≤ a2))) else (some false)
set_option maxHeartbeats 8000000 in
set_option maxRecDepth 100000 in
theorem spec_l1In.calls (a0 : Int) (a1 : Int) (a2 : Int) (r : Bool) (w : World) (h : spec_l1In.f a0 a1 a2 = some r) :
    Calls Try.prog 57 #[.int .i64 a0, .int .i64 a1, .int .i64 a2] w fun e w' => e = .returned (.bool r) ∧ Drawn0 w w' := by
  have H : (if a0 ≥ a1 then (some (decide (a0 ≤ a2))) else (some false)) = some r := h
  clear h
  by_cases c4 : a0 ≥ a1
  · rw [if_pos c4] at H
    have c4b0 : decide (a1 ≤ a0) = true := decide_eq_true c4
    clear c4
    obtain rfl := Option.some.inj H
    go_enter Try.func57, Try.ntmps57
    go_wp2
    go_ret
    exact ⟨by first | rfl | (simp; done) | (simp [*]; done), by repeat (first | exact Drawn0.refl _ | apply Drawn0.step)⟩
  · rw [if_neg c4] at H
    have c4b0 : decide (a1 ≤ a0) = false := decide_eq_false c4
    clear c4
    obtain rfl := Option.some.inj H
    go_enter Try.func57, Try.ntmps57
    go_wp2
    go_ret
    exact ⟨by first | rfl | (simp; done) | (simp [*]; done), by repeat (first | exact Drawn0.refl _ | apply Drawn0.step)⟩

/-! ### spec_kiFloors: function 58 -/
def spec_kiFloors.f (a0 : Int) : Option (Bool) := (spec_l1In.f a0 0 6).bind fun t191 => (some t191)
set_option maxHeartbeats 8000000 in
set_option maxRecDepth 100000 in
theorem spec_kiFloors.calls (a0 : Int) (r : Bool) (w : World) (h : spec_kiFloors.f a0 = some r) :
    Calls Try.prog 58 #[.int .i64 a0] w fun e w' => e = .returned (.bool r) ∧ Drawn0 w w' := by
  have H : ((spec_l1In.f a0 0 6).bind fun t191 => (some t191)) = some r := h
  clear h
  replace H := Option.bind_eq_some_iff.mp H
  obtain ⟨t191, A20, H⟩ := H
  replace H : (some t191) = some r := H
  have A2 := Aside0.mk A20
  clear A20
  obtain rfl := Option.some.inj H
  go_enter Try.func58, Try.ntmps58
  go_wp2_with (first | ((with_reducible refine gate_callee (f := 57) rfl ?_); refine goesL_ (some 4) rfl rfl Try.func57 (by kernel_rfl) rfl #[.int .i64 a0, .int .i64 0, .int .i64 6] rfl (by (try simp only [List.map_toArray, List.map_cons, List.map_nil]); first | done | rfl | (simp only [List.length_drop, List.length_take]; rfl)) ?_; (with_reducible refine (spec_l1In.calls a0 0 6 t191 _ A2.out).mono ?_); rintro e w' ⟨rfl, ⟨nd, rfl⟩⟩; refine ⟨_, rfl, ?_⟩))
  go_ret
  exact ⟨by first | rfl | (simp; done) | (simp [*]; done), by repeat (first | exact Drawn0.refl _ | apply Drawn0.step)⟩

end Go.Proofs.Ytibapicnljedcab.Q
