/- Plain Lean functions with the answers of Go functions, and proofs of it: printed by a program of this session (pr.py) over the kit's print, with hand-written parts. -/
import Derived.Test.YtoomacelbhojhaaAx0
import Derived.Test.YtoomacelbhojhaaAx2
import Derived.Test.YtoomacelbhojhaaAx4
import Derived.Test.YtoomacelbhojhaaAx5
import Derived.Test.YtoomacelbhojhaaAx6
import Derived.Test.YtoomacelbhojhaaAx7
import Derived.Test.YtoomacelbhojhaaAx9
namespace Go.Proofs.Ytoomacelbhojhaa.A
open Go.RowKit Go.Proofs.YtoomacelbhojhaaW.PrintWords Go.Proofs.YtoomacelbhojhaaW.PrintLast Go.Proofs.YtoomacelbhojhaaW.PrintMore
attribute [local go_sem] max2_int min2_int max_two min_two max_three min_three max_four min_four   -- for this text's walks alone
set_option linter.unusedVariables false
set_option linter.unusedSimpArgs false

-- FOR spec.hoPlay
-- CALLS spec.hoDrops ; (impl.houser).play ; spec.hoNeeded ; spec.l1Own
-- USES kd impl.HouseDrop
-- USES info impl.HouseDrop
/-- A row of whole numbers of one's own, at a known block. -/
def Own (w : World) (g n c : Nat) (xs : List Int) : Prop := Kd.R (Kd.int .i64) 3 w 0 (fun k_ => k_ = g) (.slice (some ⟨g, 0, none⟩) n c) xs
theorem Own.len {w : World} {g n c : Nat} {xs : List Int} (h : Own w g n c xs) : xs.length = n := (Kd.R_reads' h).1.symm
theorem Own.cap {w : World} {g n c : Nat} {xs : List Int} (h : Own w g n c xs) : n ≤ c := (Kd.R_reads' h).2.1
theorem Own.below {w w' : World} {g n c : Nat} {xs : List Int} (h : Own w g n c xs) (hb : Below w.heap.size w w') : Own w' g n c xs := Kd.R_below h hb
theorem Own.grown {w w' : World} {g n c : Nat} {xs : List Int} {o : Option Nat} (h : Own w g n c xs) (hg : w.grownBy w' o) (ho : some g ≠ o) : Own w' g n c xs := Kd.R_grown h hg (fun k hk => by subst hk; exact ho)
theorem Own.far {w : World} {g n c g' i : Nat} {u : Value} {xs : List Int} (h : Own w g n c xs) (hne : g ≠ g') : Own (w.setCell ⟨g', i, none⟩ u) g n c xs := Kd.R_far h (fun k hk => by subst hk; exact hne) _
theorem Own.lt {w : World} {g n c : Nat} {xs : List Int} (h : Own w g n c xs) (hn : 0 < n) : g < w.heap.size := by
  have hl := h.len
  obtain ⟨g', cap, e, _, h2, _⟩ := Kd.R_form h (by omega)
  injection e with e1
  injection e1 with e2
  injection e2 with e3
  omega
theorem Own.look {w : World} {g n c : Nat} {xs : List Int} (h : Own w g n c xs) {i : Nat} (hi : i < n) : w.cell? ⟨g, i, none⟩ = some (.int .i64 (xs.getD i 0)) ∧ w.frozen? ⟨g, i, none⟩ = false := by
  have hl := h.len
  obtain ⟨c1, c2⟩ := Kd.R_celln 0 h (i : Int) (by omega) (by omega)
  simp only [Int.toNat_natCast] at c1 c2
  exact ⟨c1, c2⟩
theorem Own.put {w : World} {g n c : Nat} {xs : List Int} (h : Own w g n c xs) (i : Nat) (x : Int) : Own (w.setCell ⟨g, i, none⟩ (.int .i64 x)) g n c (xs.set i x) := by
  have h3 := Kd.R_putg h (i : Int) x
  simp only [Int.toNat_natCast] at h3
  exact h3.1
theorem Own.lst {w : World} {g n c tb : Nat} {xs : List Int} (h : Own w g n c xs) (hne : g ≠ tb) : Lst w tb (some ⟨g, 0, none⟩) xs := by
  have h2 := Kd.R_reads' h
  have h3 := h2.2.2
  exact ⟨h3, fun ad ha => by injection ha with ha; subst ha; exact hne⟩
theorem own_of {w : World} {b n : Nat} {v : Value} {xs : List Int} (h : Kd.R (Kd.int .i64) 3 w b (fun _ => True) v xs) (hn : xs.length = n) (hp : 0 < n) : ∃ g c : Nat, v = .slice (some ⟨g, 0, none⟩) n c ∧ Own w g n c xs ∧ b ≤ g := by
  obtain ⟨g, cap, e, h1, h2, _⟩ := Kd.R_form h (by omega)
  rw [hn] at e
  subst e
  refine ⟨g, cap, rfl, ?_, h1⟩
  obtain ⟨h0, inner, ho, hr⟩ := Kd.R_lower h (Nat.zero_le b)
  exact ⟨fun k hk => by simpa [Value.ownBlock] using hk.symm, inner, ho, hr⟩
theorem upd_get (m : List Int) {h : Nat} (hh : h < m.length) (x : Int) : upd (fun i => m.getD i 0) h x = fun i => (m.set h x).getD i 0 := by
  funext i
  show (if i = h then x else m.getD i 0) = (m.set h x).getD i 0
  rw [List.getD_eq_getElem?_getD, List.getD_eq_getElem?_getD, List.getElem?_set]
  by_cases e : h = i
  · subst e
    rw [if_pos rfl, if_pos rfl, if_pos hh]
    rfl
  · rw [if_neg (fun h_ => e h_.symm), if_neg e]
theorem rep_get (n : Nat) : (fun i => (List.replicate n (0 : Int)).getD i 0) = fun _ => 0 := by
  funext i
  rw [List.getD_eq_getElem?_getD, List.getElem?_replicate]
  split <;> rfl

set_option maxHeartbeats 80000000 in
set_option maxRecDepth 100000 in
theorem shplay_of (tb c0 : Nat) (e : Int) (l bs : List Int) (hl : LGood l) (he : 0 ≤ e ∧ e ≤ 6) (hv : PGood bs.length (vOf e l) (fun _ => 0)) (hbl : bs.length = l.length) (r : List S104) (hr : r = hPlay bs (vOf e l).ms (vOf e l) (fun _ => 0)) (A : Option Addr) (c : Nat) (hc : l.length ≤ c) (A2 : Option Addr) (c2 : Nat) (hc2 : bs.length ≤ c2) (w : World) (hL : Lst w tb A l) (hL2 : Lst w tb A2 bs) (hT : HTab w tb c0) :
    Calls Try.prog 89 #[.slice (some ⟨tb, 0, none⟩) 5103 c0, .int .i64 e, .slice A l.length c, .slice A2 bs.length c2] w fun e_ w' => ∃ v_ : Value, e_ = .returned v_ ∧ Kd.R k104 104 w' w.heap.size (fun _ => True) v_ r ∧ HTab w' tb c0 ∧ w.grownBy w' (some tb) := by
  have HT := Aside0.mk hT
  have HG := Aside0.mk (Hx.g_refl w (some tb))
  obtain ⟨ad, rfl, hx00⟩ := Lst.look hL2 (show 0 < bs.length by have := hl.1; omega)
  have HAL := Aside0.mk (Kd.C_lt hL2.1 (show 0 < bs.length by have := hl.1; omega) (by decide))
  have LS := Aside0.mk hL2
  have LA := Aside0.mk hL
  have ORD : Aside0 (tb < w.heap.size ∧ ad.block < w.heap.size) := ⟨⟨hT.lt, HAL.out⟩⟩
  have HP := Aside0.mk hv
  have HMS : Aside0 ((vOf e l).ms ≤ 24) := ⟨by have := hv.1; unfold VGood at this; unfold VS.ms; omega⟩
  have HR_ := Aside0.mk hr
  have HOW : Aside0 (∀ W, Lst W tb A l → Calls Try.prog 126 #[.slice A l.length c] W fun e w' => ∃ v0_ : Value, e = .returned (v0_) ∧ Kd.R (Kd.int .i64) 3 w' W.heap.size (fun _ => True) v0_ l ∧ Below W.heap.size W w') := ⟨fun W hW => spec_l1Own.calls A c l l W hW.1 hc (own_is hl.2.1)⟩
  have HLG := Aside0.mk hl
  have HBL := Aside0.mk hbl
  obtain ⟨N, hN⟩ : ∃ N, N = l.length := ⟨_, rfl⟩
  have HN0 : Aside0 (0 < N) := ⟨by have := hl.1; omega⟩
  have HN3 : Aside0 (N ≤ 3) := ⟨by have := hl.2.1; omega⟩
  rw [← hN] at HOW ⊢
  have HNL := Aside0.mk hN
  have hn0_ : (0 : Int) ≤ (N : Int) := by omega
  have wn_ : IntKind.i64.wrap (N : Int) = (N : Int) := Hw.wrap_w (by omega) (by have := HN3.out; omega)
  clear hT hL hL2 hx00 hv hc hr hl he hbl hc2 hN
  go_enter Try.func89, Try.ntmps89
  go_upto_region 3 with (first | ((with_reducible refine gate_dst (N := 18) rfl ?_); refine Kd.R_make (Kd.int .i64) _ 3 rfl (N := 18) rfl 46 _ _ rfl (N : Int) rfl rfl Try.underlying46 (.int .i64 0) 8 info3 rfl (by decide) (by omega) 0 (ok := fun _ => True) (okp := fun _ => True) rfl (fun _ hk => hk) trivial (by omega) (by have := HN3.out; omega) (Below.refl _ _) (Nat.le_refl _) ?_; intro v_ w_1 ho_ hb_ hg_ hn_; clear hg_ hn_; rw [Int.toNat_natCast] at ho_; obtain ⟨gM, cM, rfl, om_, bm_⟩ := own_of ho_ (List.length_replicate) HN0.out; have ORD_ : Aside0 ((tb < w.heap.size ∧ ad.block < w.heap.size) ∧ w.heap.size ≤ gM) := ⟨by refine ⟨ORD.out, ?_⟩; have := HT.out.lt; have := HG.out.size; omega⟩; clear ORD; have ORD := ORD_; clear ORD_; have n0_ : Aside0 (HTab w_1 tb c0) := ⟨HTab.below (w := _) (by exact HT.out) hb_⟩; have n1_ : Aside0 (w.grownBy w_1 (some tb)) := ⟨Hx.g_below (by first | exact HG.out | exact Hx.g_drew HG.out | exact Hx.g_drewN HG.out _) hb_⟩; have n2_ : Aside0 (Lst w_1 tb (some ad) bs) := ⟨Lst.below (w := _) (by exact LS.out) hb_⟩; have n3_ : Aside0 (Lst w_1 tb A l) := ⟨Lst.below (w := _) (by exact LA.out) hb_⟩; have m0_ : Aside0 (Own w_1 gM N cM (List.replicate N 0)) := ⟨om_⟩; (try clear HT); (try clear HG); (try clear LS); (try clear LA); have HT := n0_; have HG := n1_; have LS := n2_; have LA := n3_; have OM := m0_; clear n0_ n1_ n2_ n3_ m0_; clear ho_ hb_ om_ bm_) | ((with_reducible refine gate_callee (f := 126) rfl ?_); refine goesL_ (some 20) rfl rfl Try.func126 (by kernel_rfl) rfl #[.slice A N c] rfl (by (try simp only [List.map_toArray, List.map_cons, List.map_nil]); first | done | rfl) ?_; refine (HOW.out w_1 LA.out).mono ?_; rintro e_ w_2 ⟨v_, rfl, hr_, hb_⟩; refine ⟨_, rfl, ?_⟩; obtain ⟨gL, cL, rfl, ol_, bl_⟩ := own_of hr_ HNL.out.symm HN0.out; have ORD_ : Aside0 (((tb < w.heap.size ∧ ad.block < w.heap.size) ∧ w.heap.size ≤ gM) ∧ w.heap.size ≤ gL ∧ gM < gL) := ⟨by refine ⟨ORD.out, ?_⟩; have := HT.out.lt; have := HG.out.size; have := Own.lt OM.out HN0.out; omega⟩; clear ORD; have ORD := ORD_; clear ORD_; have n0_ : Aside0 (HTab w_2 tb c0) := ⟨HTab.below (w := _) (by exact HT.out) hb_⟩; have n1_ : Aside0 (w.grownBy w_2 (some tb)) := ⟨Hx.g_below (by first | exact HG.out | exact Hx.g_drew HG.out | exact Hx.g_drewN HG.out _) hb_⟩; have n2_ : Aside0 (Lst w_2 tb (some ad) bs) := ⟨Lst.below (w := _) (by exact LS.out) hb_⟩; have n3_ : Aside0 (Lst w_2 tb A l) := ⟨Lst.below (w := _) (by exact LA.out) hb_⟩; have n4_ : Aside0 (Own w_2 gM N cM (List.replicate N 0)) := ⟨Own.below (w := _) (by exact OM.out) hb_⟩; have m0_ : Aside0 (Own w_2 gL N cL l) := ⟨ol_⟩; (try clear HT); (try clear HG); (try clear LS); (try clear LA); (try clear OM); have HT := n0_; have HG := n1_; have LS := n2_; have LA := n3_; have OM := n4_; have OL := m0_; clear n0_ n1_ n2_ n3_ n4_ m0_; clear hr_ hb_ ol_ bl_))
  go_wp2
  go_loopg [1, 11] (vOf e l).ms (fun n v1 v11 w' => ∃ (e' : Int) (l2 m : List Int) (xs : List S104), v1 = .int .i64 e' ∧ Aside0 (PGood bs.length (vOf e' l2) (fun i => m.getD i 0) ∧ (vOf e' l2).ms ≤ n ∧ xs.length + n ≤ 24 ∧ LGood l2 ∧ l2.length = N ∧ m.length = N) ∧ Aside0 (xs ++ hPlay bs n (vOf e' l2) (fun i => m.getD i 0) = r) ∧ Aside0 (Kd.R k104 104 w' w.heap.size (fun k_ => w.heap.size ≤ k_ ∧ k_ ≠ gL ∧ k_ ≠ gM) v11 xs) ∧ Aside0 (Own w' gL N cL l2) ∧ Aside0 (Own w' gM N cM m) ∧ Aside0 (HTab w' tb c0) ∧ Aside0 (w.grownBy w' (some tb)) ∧ Aside0 (Lst w' tb (some ad) bs))
  case atStart => exact ⟨e, l, List.replicate N 0, [], rfl, ⟨⟨by rw [rep_get]; exact HP.out, Nat.le_refl _, by simpa using HMS.out, HLG.out, HNL.out.symm, List.length_replicate⟩⟩, ⟨by rw [rep_get]; exact HR_.out.symm⟩, ⟨Kd.R_nil _ _ _ _ _⟩, OL, OM, HT, HG, LS⟩
  case round =>
    clear HT HG OL OM LS LA
    obtain ⟨e', l2, m, xs, rfl, HI, HL, HR0', OL, OM, HT, HG, LS⟩ := hrel
    have HR : Aside0 (Kd.R k104 104 wr w.heap.size (fun k_ => w.heap.size ≤ k_ ∧ k_ ≠ gL ∧ k_ ≠ gM ∧ k_ < wr.heap.size) u11 xs) := ⟨Kd.R_mono (Kd.R_bound HR0'.out) (fun k_ hk_ => ⟨hk_.1.1, hk_.1.2.1, hk_.1.2.2, hk_.2.2.1⟩)⟩
    clear HR0'
    have ORD_ : Aside0 ((((tb < w.heap.size ∧ ad.block < w.heap.size) ∧ w.heap.size ≤ gM) ∧ w.heap.size ≤ gL ∧ gM < gL) ∧ gL < wr.heap.size) := ⟨⟨ORD.out, Own.lt OL.out HN0.out⟩⟩
    clear ORD
    have ORD := ORD_
    clear ORD_
    have SZ := Aside0.mk (Nat.le_refl wr.heap.size)
    have HQ := Aside0.mk HI.out.1
    have HGL := Aside0.mk HI.out.2.2.2.1
    have HL2N := Aside0.mk HI.out.2.2.2.2.1
    have HMN := Aside0.mk HI.out.2.2.2.2.2
    obtain ⟨nd, hnd⟩ : ∃ nd, nd = (vOf e' l2).need := ⟨_, rfl⟩
    have hn := need_is e' (l := l2) ⟨HGL.out.1, HGL.out.2.1⟩
    rw [← hnd] at hn
    have hnl := need_lo (vOf e' l2)
    rw [← hnd] at hnl
    have HND := Aside0.mk hnd
    have HNC : Aside0 (∀ W, Own W gL N cL l2 → Calls Try.prog 81 #[.slice (some ⟨gL, 0, none⟩) N cL] W fun e w' => e = .returned (.int .i64 nd) ∧ Drawn0 W w') := ⟨fun W hW => by
      have h2 := Kd.R_reads' hW
      have h_ := spec_hoNeeded.calls 9 (some ⟨gL, 0, none⟩) cL l2 nd W h2.2.2 (by have := h2.2.1; have := HL2N.out; omega) hn
      rw [HL2N.out] at h_
      exact h_⟩
    clear hn hnd
    by_cases hd : nd = 0
    · have e1 : decide (nd > 0) = false := decide_eq_false (by omega)
      have e2 : decide (0 < nd) = false := decide_eq_false (by omega)
      have hxs : xs = r := by
        have h_ := HL.out
        have hz : hPlay bs gk (vOf e' l2) (fun i => m.getD i 0) = [] := by cases gk <;> simp [hPlay, ← HND.out, hd]
        rw [hz] at h_
        simpa using h_
      subst hxs
      clear hd hnl
      go_wp2_with (first | ((with_reducible refine gate_callee (f := 81) rfl ?_); refine goesL_ (some 22) rfl rfl Try.func81 (by kernel_rfl) rfl #[.slice (some ⟨gL, 0, none⟩) N cL] rfl (by (try simp only [List.map_toArray, List.map_cons, List.map_nil]); first | done | rfl) ?_; refine (HNC.out _ OL.out).mono ?_; rintro e_ w_1 ⟨rfl, hd_⟩; refine ⟨_, rfl, ?_⟩; have hb_ : Below _ _ w_1 := (by first | exact hd_ | exact hd_.below); clear hd_; have n0_ : Aside0 (HTab w_1 tb c0) := ⟨HTab.below (w := _) (by exact HT.out) hb_⟩; have n1_ : Aside0 (w.grownBy w_1 (some tb)) := ⟨Hx.g_below (by first | exact HG.out | exact Hx.g_drew HG.out | exact Hx.g_drewN HG.out _) hb_⟩; have n2_ : Aside0 (Own w_1 gL N cL l2) := ⟨Own.below (w := _) (by exact OL.out) hb_⟩; have n3_ : Aside0 (Own w_1 gM N cM m) := ⟨Own.below (w := _) (by exact OM.out) hb_⟩; have n4_ : Aside0 (Lst w_1 tb (some ad) bs) := ⟨Lst.below (w := _) (by exact LS.out) hb_⟩; have n5_ : Aside0 (Kd.R k104 104 w_1 w.heap.size (fun k_ => w.heap.size ≤ k_ ∧ k_ ≠ gL ∧ k_ ≠ gM ∧ k_ < wr.heap.size) u11 xs) := ⟨Kd.R_below HR.out hb_⟩; have n6_ : Aside0 (wr.heap.size ≤ w_1.heap.size) := ⟨Nat.le_trans SZ.out hb_.size⟩; (try clear HT); (try clear HG); (try clear OL); (try clear OM); (try clear LS); (try clear HR); (try clear SZ); have HT := n0_; have HG := n1_; have OL := n2_; have OM := n3_; have LS := n4_; have HR := n5_; have SZ := n6_; clear n0_ n1_ n2_ n3_ n4_ n5_ n6_; clear hb_))
      go_ret
      exact ⟨_, rfl, Kd.R_mono HR.out (fun _ _ => trivial), HT.out, HG.out⟩
    · have e1 : decide (nd > 0) = true := decide_eq_true (by omega)
      have e2 : decide (0 < nd) = true := decide_eq_true (by omega)
      have hn0 : (vOf e' l2).need ≠ 0 := by rw [← HND.out]; exact hd
      have hlt := HQ.out.lt hn0
      have hnx := fun br => HQ.out.nxt hn0 br
      have hok := HQ.out.ok hn0
      have hee : 1 ≤ e' ∧ e' ≤ 6 := by have h_ := hok.2.1; have h2_ := hok.2.2; have h3_ := hok.1; unfold VGood at h3_; have h4_ : (vOf e' l2).e = e' := rfl; omega
      have hpf := vFirst_ok hok
      obtain ⟨ys, hys⟩ := vLits_first hok
      obtain ⟨br, hbr⟩ : ∃ br, br = hBrk bs (vOf e' l2) (fun i => m.getD i 0) := ⟨_, rfl⟩
      obtain ⟨k1, rfl⟩ : ∃ k1, gk = k1 + 1 := ⟨gk - 1, by have h1_ := HI.out.2.1; have h2_ := (hnx br).2; omega⟩
      have HL2 : Aside0 ((xs ++ [(⟨((vFirst (vOf e' l2)).1 : Int), m.getD (vFirst (vOf e' l2)).1 0 + (vFirst (vOf e' l2)).2, br⟩ : S104)]) ++ hPlay bs k1 ((vOf e' l2).nxt br) (hLow (vOf e' l2) (fun i => m.getD i 0) br) = r) := ⟨by
        have h_ := HL.out
        rw [hPlay, if_neg hn0, ← hbr] at h_
        rw [← h_]
        simp⟩
      have hcb : decide (bs.getD (vFirst (vOf e' l2)).1 0 < m.getD (vFirst (vOf e' l2)).1 0 + (vFirst (vOf e' l2)).2) = br := hbr.symm
      have HDC : Aside0 (∀ W, Own W gL N cL l2 → HTab W tb c0 → Calls Try.prog 82 #[.slice (some ⟨tb, 0, none⟩) 5103 c0, .int .i64 e', .slice (some ⟨gL, 0, none⟩) N cL] W fun e_ w' => ∃ v_ : Value, e_ = .returned v_ ∧ Kd.S (Kd.slice 3 (Kd.int .i64)) 46 w' W.heap.size (fun _ => True) v_ ([((vFirst (vOf e' l2)).1 : Int), (vFirst (vOf e' l2)).2] :: ys) ∧ HTab w' tb c0 ∧ W.grownBy w' (some tb)) := ⟨fun W hW hT_ => by
        have h_ := hdrops_of tb c0 e' l2 HGL.out (by omega) hok.2.2 _ hys (some ⟨gL, 0, none⟩) cL W (by have := Own.cap hW; have := HL2N.out; omega) (Own.lst hW (by have := ORD.out; omega)) hT_
        rw [HL2N.out] at h_
        exact h_⟩
      have HHN : Aside0 ((vFirst (vOf e' l2)).1 < N) := ⟨by have := hlt.1; have := HBL.out; have := HNL.out; omega⟩
      have hxg := vOf_get e' l2 hlt.2.1
      rw [hxg] at hlt
      have HNXT : Aside0 ((vOf e' l2).nxt true = vOf (e' - 1) (l2.set (vFirst (vOf e' l2)).1 ((vFirst (vOf e' l2)).2 - 1))) := ⟨(vOf_brk e' _ HGL.out.2.1 (by have := HHN.out; have := HL2N.out; omega)).symm⟩
      have HNXF : Aside0 ((vOf e' l2).nxt false = vOf e' (l2.set (vFirst (vOf e' l2)).1 (l2.getD (vFirst (vOf e' l2)).1 0 - (vFirst (vOf e' l2)).2))) := ⟨(vOf_whl e' _ HGL.out.2.1 (by have := HHN.out; have := HL2N.out; omega)).symm⟩
      have HLOT : Aside0 (hLow (vOf e' l2) (fun i => m.getD i 0) true = fun i => m.getD i 0) := ⟨rfl⟩
      have HLOF : Aside0 (hLow (vOf e' l2) (fun i => m.getD i 0) false = fun i => (m.set (vFirst (vOf e' l2)).1 (m.getD (vFirst (vOf e' l2)).1 0 + (vFirst (vOf e' l2)).2)).getD i 0) := ⟨upd_get m (by have := HHN.out; have := HMN.out; omega) _⟩
      have HNX := Aside0.mk (hnx br)
      obtain ⟨h, hh⟩ : ∃ h, h = (vFirst (vOf e' l2)).1 := ⟨_, rfl⟩
      obtain ⟨f, hf⟩ : ∃ f, f = (vFirst (vOf e' l2)).2 := ⟨_, rfl⟩
      rw [← hh, ← hf] at hlt hcb HL2 HDC HNXT HNXF HLOF
      rw [← hh] at HHN
      (try simp only at hlt)
      obtain ⟨x, hx⟩ : ∃ x, x = m.getD h 0 := ⟨_, rfl⟩
      rw [← hx] at hlt hcb HL2 HLOF
      have HXM := Aside0.mk hx
      obtain ⟨xl, hxl⟩ : ∃ xl, xl = l2.getD h 0 := ⟨_, rfl⟩
      rw [← hxl] at hlt HNXF
      have HXL := Aside0.mk hxl
      obtain ⟨b, hb⟩ : ∃ b, b = bs.getD h 0 := ⟨_, rfl⟩
      rw [← hb] at hcb
      have HBB := Aside0.mk hb
      have HLT := Aside0.mk hlt
      obtain ⟨fl, hfl⟩ : ∃ fl, fl = x + f := ⟨_, rfl⟩
      have wx : IntKind.i64.wrap (x + f) = fl := by rw [hfl]; exact Hw.wrap_w (by omega) (by omega)
      have wx64 : wrap64 (x + f) = fl := by rw [hfl]; exact Hw.wrap_id (by omega) (by omega)
      rw [← hfl] at hcb HL2 HLOF
      obtain ⟨zs, hzs⟩ : ∃ zs : List S104, zs = xs ++ [(⟨(h : Int), fl, br⟩ : S104)] := ⟨_, rfl⟩
      have Nzs := Aside0.mk hzs
      rw [← hzs] at HL2
      have HXN : Aside0 (xs.length + 1 ≤ 24) := ⟨by have := HI.out.2.2.1; omega⟩
      have HZL : Aside0 (zs.length + k1 ≤ 24) := ⟨by have := HI.out.2.2.1; rw [hzs]; simp; omega⟩
      have HMS2 : Aside0 (((vOf e' l2).nxt br).ms ≤ k1) := ⟨by have h1_ := HI.out.2.1; have h2_ := HNX.out.2; omega⟩
      have p0 : (0 : Int) ≤ (h : Int) := by omega
      have q0 : (h : Int) < (N : Int) := by have := HHN.out; omega
      have q1 : (h : Int) < (bs.length : Int) := by omega
      have haddM := Hw.add_off gM h
      have haddL := Hw.add_off gL h
      have we1 : IntKind.i64.wrap (e' - 1) = e' - 1 := Hw.wrap_w (by omega) (by omega)
      have wf1 : IntKind.i64.wrap (f - 1) = f - 1 := Hw.wrap_w (by omega) (by omega)
      have wxf : IntKind.i64.wrap (xl - f) = xl - f := Hw.wrap_w (by omega) (by omega)
      have wxf64 : wrap64 (xl - f) = xl - f := Hw.wrap_id (by omega) (by omega)
      replace p0 := eq_true p0
      replace q0 := eq_true q0
      replace q1 := eq_true q1
      clear hd hnl hn0 hnx hpf hok hys hbr hh hf hx hxl hb hlt hfl hzs HL hxg hee
      go_upto_region 6 with (first | ((with_reducible refine gate_callee (f := 81) rfl ?_); refine goesL_ (some 22) rfl rfl Try.func81 (by kernel_rfl) rfl #[.slice (some ⟨gL, 0, none⟩) N cL] rfl (by (try simp only [List.map_toArray, List.map_cons, List.map_nil]); first | done | rfl) ?_; refine (HNC.out _ OL.out).mono ?_; rintro e_ w_1 ⟨rfl, hd_⟩; refine ⟨_, rfl, ?_⟩; have hb_ : Below _ _ w_1 := (by first | exact hd_ | exact hd_.below); clear hd_; have n0_ : Aside0 (HTab w_1 tb c0) := ⟨HTab.below (w := _) (by exact HT.out) hb_⟩; have n1_ : Aside0 (w.grownBy w_1 (some tb)) := ⟨Hx.g_below (by first | exact HG.out | exact Hx.g_drew HG.out | exact Hx.g_drewN HG.out _) hb_⟩; have n2_ : Aside0 (Own w_1 gL N cL l2) := ⟨Own.below (w := _) (by exact OL.out) hb_⟩; have n3_ : Aside0 (Own w_1 gM N cM m) := ⟨Own.below (w := _) (by exact OM.out) hb_⟩; have n4_ : Aside0 (Lst w_1 tb (some ad) bs) := ⟨Lst.below (w := _) (by exact LS.out) hb_⟩; have n5_ : Aside0 (Kd.R k104 104 w_1 w.heap.size (fun k_ => w.heap.size ≤ k_ ∧ k_ ≠ gL ∧ k_ ≠ gM ∧ k_ < wr.heap.size) u11 xs) := ⟨Kd.R_below HR.out hb_⟩; have n6_ : Aside0 (wr.heap.size ≤ w_1.heap.size) := ⟨Nat.le_trans SZ.out hb_.size⟩; (try clear HT); (try clear HG); (try clear OL); (try clear OM); (try clear LS); (try clear HR); (try clear SZ); have HT := n0_; have HG := n1_; have OL := n2_; have OM := n3_; have LS := n4_; have HR := n5_; have SZ := n6_; clear n0_ n1_ n2_ n3_ n4_ n5_ n6_; clear hb_) | ((with_reducible refine gate_callee (f := 82) rfl ?_); refine goesL_ (some 27) rfl rfl Try.func82 (by kernel_rfl) rfl #[.slice (some ⟨tb, 0, none⟩) 5103 c0, .int .i64 e', .slice (some ⟨gL, 0, none⟩) N cL] rfl (by (try simp only [List.map_toArray, List.map_cons, List.map_nil]); first | done | rfl) ?_; refine (HDC.out w_1 OL.out HT.out).mono ?_; rintro e_ w_2 ⟨v_, rfl, hr_, ht_, hg_⟩; refine ⟨_, rfl, ?_⟩; obtain ⟨g_, cc_, A2_, c2_, rfl, x0_, hr2_⟩ := row_first hr_; obtain ⟨g2, C2, rfl, gb_, R2_, y0_, y1_⟩ := row_two hr2_; have ORD_ : Aside0 (((((tb < w.heap.size ∧ ad.block < w.heap.size) ∧ w.heap.size ≤ gM) ∧ w.heap.size ≤ gL ∧ gM < gL) ∧ gL < wr.heap.size) ∧ wr.heap.size ≤ g2) := ⟨⟨ORD.out, by have := SZ.out; omega⟩⟩; clear ORD; have ORD := ORD_; clear ORD_; have Y0 := Aside0.mk y0_; have Y1 := Aside0.mk y1_; clear hr_ hr2_ gb_ y0_ y1_; have n0_ : Aside0 (HTab w_2 tb c0) := ⟨ht_⟩; have n1_ : Aside0 (w.grownBy w_2 (some tb)) := ⟨World.grownBy.trans (by first | exact HG.out | exact Hx.g_drew HG.out | exact Hx.g_drewN HG.out _) hg_⟩; have n2_ : Aside0 (Own w_2 gL N cL l2) := ⟨Own.grown OL.out hg_ (by simp only [ne_eq, Option.some.injEq]; have := ORD.out; omega)⟩; have n3_ : Aside0 (Own w_2 gM N cM m) := ⟨Own.grown OM.out hg_ (by simp only [ne_eq, Option.some.injEq]; have := ORD.out; omega)⟩; have n4_ : Aside0 (Lst w_2 tb (some ad) bs) := ⟨Lst.grown LS.out hg_⟩; have n5_ : Aside0 (Kd.R k104 104 w_2 w.heap.size (fun k_ => w.heap.size ≤ k_ ∧ k_ ≠ gL ∧ k_ ≠ gM ∧ k_ < wr.heap.size) u11 xs) := ⟨Kd.R_grown (row := some tb) HR.out hg_ (fun k_ hk_ h_ => by have := Option.some.inj h_; have := ORD.out; have := hk_.1; omega)⟩; have n6_ : Aside0 (wr.heap.size ≤ w_2.heap.size) := ⟨Nat.le_trans SZ.out hg_.size⟩; have m0_ : Aside0 (w_2.heap[g2]? = some (.cells C2 3 (0, 0))) := ⟨R2_⟩; (try clear HT); (try clear HG); (try clear OL); (try clear OM); (try clear LS); (try clear HR); (try clear SZ); have HT := n0_; have HG := n1_; have OL := n2_; have OM := n3_; have LS := n4_; have HR := n5_; have SZ := n6_; have R2 := m0_; clear n0_ n1_ n2_ n3_ n4_ n5_ n6_ m0_; clear ht_ hg_ R2_; have y0_ : w_2.cell? ⟨g2, 0, none⟩ = some (.int .i64 (h : Int)) := (blk_cell R2.out 0).trans Y0.out; have y1_ : w_2.cell? ⟨g2, 1, none⟩ = some (.int .i64 f) := (blk_cell R2.out 1).trans Y1.out; obtain ⟨cm_, dm_⟩ := Own.look OM.out (i := h) HHN.out; rw [← HXM.out] at cm_))
      go_quiet (fail)
      (try simp only [wx64])
      clear y0_ y1_ cm_ dm_
      obtain ⟨w_3, hwq⟩ : ∃ W, W = w_2.drewN nq := ⟨_, rfl⟩
      rw [← hwq]
      have hb_ : Below w_2.heap.size w_2 w_3 := by rw [hwq]; exact pw_below_drewN (Below.refl _ _) _
      have n0_ : Aside0 (HTab w_3 tb c0) := ⟨HTab.below (w := _) (by exact HT.out) hb_⟩
      have n1_ : Aside0 (w.grownBy w_3 (some tb)) := ⟨Hx.g_below (by first | exact HG.out | exact Hx.g_drew HG.out | exact Hx.g_drewN HG.out _) hb_⟩
      have n2_ : Aside0 (Own w_3 gL N cL l2) := ⟨Own.below (w := _) (by exact OL.out) hb_⟩
      have n3_ : Aside0 (Own w_3 gM N cM m) := ⟨Own.below (w := _) (by exact OM.out) hb_⟩
      have n4_ : Aside0 (Lst w_3 tb (some ad) bs) := ⟨Lst.below (w := _) (by exact LS.out) hb_⟩
      have n5_ : Aside0 (Kd.R k104 104 w_3 w.heap.size (fun k_ => w.heap.size ≤ k_ ∧ k_ ≠ gL ∧ k_ ≠ gM ∧ k_ < wr.heap.size) u11 xs) := ⟨Kd.R_below HR.out hb_⟩
      have n6_ : Aside0 (wr.heap.size ≤ w_3.heap.size) := ⟨Nat.le_trans SZ.out hb_.size⟩
      have n7_ : Aside0 (w_3.heap[g2]? = some (.cells C2 3 (0, 0))) := ⟨Hx.b_below hb_ R2.out⟩
      (try clear HT)
      (try clear HG)
      (try clear OL)
      (try clear OM)
      (try clear LS)
      (try clear HR)
      (try clear SZ)
      (try clear R2)
      have HT := n0_
      have HG := n1_
      have OL := n2_
      have OM := n3_
      have LS := n4_
      have HR := n5_
      have SZ := n6_
      have R2 := n7_
      clear n0_ n1_ n2_ n3_ n4_ n5_ n6_ n7_
      clear hb_ hwq
      obtain ⟨ad2, ead, ib_⟩ := Lst.look LS.out HLT.out.1
      cases ead
      rw [← HBB.out] at ib_
      have hcb2 : decide (fl > b) = br := hcb
      go_upto_region 9 with (first | ((with_reducible refine gate_builtin (b := .append) (xs := #[.tmp 49, .tmp 54]) rfl ?_); at_builtin; refine Kd.R_append k104 (w0 := w_3) (w.heap.size) rfl (.tmp 49) (.tmp 54) 59 104 (.agg #[(.int .i64 0), (.int .i64 0), (.bool false)]) 24 rfl Try.underlying59 info104 rfl (by decide) (by omega) u11 xs ((⟨(h : Int), fl, br⟩ : S104)) [.int .i64 (h : Int), .int .i64 fl, .bool br] (fun k_ => w.heap.size ≤ k_ ∧ k_ ≠ gL ∧ k_ ≠ gM) (fun _ => False) rfl rfl ?aP (fun _ hk_ => hk_.elim) ?aF ?aO ?aB ?aS ?aL ?_; (case aP => exact k104_mkM _ _ _ ((⟨(h : Int), fl, br⟩ : S104))); (case aB => exact Below.refl _ _); (case aF => exact (fun k_ hk_ => by have := ORD.out; have := HT.out.lt; have := HG.out.size; have := Own.lt OL.out HN0.out; have := Own.lt OM.out HN0.out; have := SZ.out; have := blk_lt R2.out; show w.heap.size ≤ k_ ∧ k_ ≠ gL ∧ k_ ≠ gM; omega)); (case aO => exact Kd.R_mono HR.out (fun k_ hk_ => ⟨hk_.1, hk_.2.1, hk_.2.2.1⟩)); (case aS => exact (by have := HT.out.lt; have := HG.out.size; have := Own.lt OL.out HN0.out; have := Own.lt OM.out HN0.out; have := SZ.out; have := blk_lt R2.out; have := ORD.out; omega)); (case aL => have := HXN.out; omega); intro v_ w_5 ho_ hb_ hg_ hat_; rw [← Nzs.out] at ho_; have n0_ : Aside0 (HTab w_5 tb c0) := ⟨HTab.grown HT.out hg_ (fun h_ => by have h2_ : w.heap.size ≤ tb ∧ tb ≠ gL ∧ tb ≠ gM ∧ tb < wr.heap.size := HR.out.1 _ h_.symm; have := ORD.out; omega)⟩; have n1_ : Aside0 (w.grownBy w_5 (some tb)) := ⟨Hx.g_append (by first | exact HG.out | exact Hx.g_drew HG.out | exact Hx.g_drewN HG.out _) hg_ (fun k_ h_ => by have h2_ : w.heap.size ≤ k_ ∧ k_ ≠ gL ∧ k_ ≠ gM ∧ k_ < wr.heap.size := HR.out.1 _ h_; have := ORD.out; omega)⟩; have n2_ : Aside0 (Own w_5 gL N cL l2) := ⟨Own.grown OL.out hg_ (fun h_ => by have h2_ : w.heap.size ≤ gL ∧ gL ≠ gL ∧ gL ≠ gM ∧ gL < wr.heap.size := HR.out.1 _ h_.symm; have := ORD.out; omega)⟩; have n3_ : Aside0 (Own w_5 gM N cM m) := ⟨Own.grown OM.out hg_ (fun h_ => by have h2_ : w.heap.size ≤ gM ∧ gM ≠ gL ∧ gM ≠ gM ∧ gM < wr.heap.size := HR.out.1 _ h_.symm; have := ORD.out; omega)⟩; have n4_ : Aside0 (Lst w_5 tb (some ad) bs) := ⟨Lst.app LS.out (n := w.heap.size) (fun ad_ h_ => by injection h_ with h2_; rw [← h2_]; exact HAL.out) hg_ (fun k_ h_ => by have h2_ : w.heap.size ≤ k_ := (HR.out.1 _ h_).1; omega)⟩; have n5_ : Aside0 (wr.heap.size ≤ w_5.heap.size) := ⟨Nat.le_trans SZ.out hg_.size⟩; have n6_ : Aside0 (w_5.heap[g2]? = some (.cells C2 3 (0, 0))) := ⟨Hx.b_grown hg_ R2.out (fun h_ => by have h2_ : w.heap.size ≤ g2 ∧ g2 ≠ gL ∧ g2 ≠ gM ∧ g2 < wr.heap.size := HR.out.1 _ h_.symm; have := ORD.out; omega)⟩; have m0_ : Aside0 (Kd.R k104 104 w_5 w.heap.size (fun k_ => w.heap.size ≤ k_ ∧ k_ ≠ gL ∧ k_ ≠ gM) v_ zs) := ⟨ho_⟩; (try clear HT); (try clear HG); (try clear OL); (try clear OM); (try clear LS); (try clear SZ); (try clear R2); (try clear HR); have HT := n0_; have HG := n1_; have OL := n2_; have OM := n3_; have LS := n4_; have SZ := n5_; have R2 := n6_; have HR := m0_; clear n0_ n1_ n2_ n3_ n4_ n5_ n6_ m0_; clear ho_ hb_ hg_ hat_))
      have y1_ : w_5.cell? ⟨g2, 1, none⟩ = some (.int .i64 f) := (blk_cell R2.out 1).trans Y1.out
      obtain ⟨cl_, dl_⟩ := Own.look OL.out (i := h) HHN.out
      rw [← HXL.out] at cl_
      cases br with
      | true =>
        rw [HNXT.out, HLOT.out] at HNX HL2
        rw [HNXT.out] at HMS2
        go_wp2_with (first | ((with_reducible refine gate_store (t := 3) (p := 65) rfl ?_); refine store_event (t := 3) (p := 65) (v := ?vo_w8) (w1 := ((w_5).setCell ⟨gL, h, none⟩ (.int .i64 (f - 1)))) ?hg ?ho ?hn ?hr ?_; (case ho => rfl); (case hg => rfl); (case hn => rfl); (case hr => first | (go_simp; done) | (go_simp; rfl)); intro w_8 hw_; have n0_ : Aside0 (HTab w_8 tb c0) := ⟨by rw [hw_]; exact HTab.far HT.out (show tb ≠ gL by have := ORD.out; omega)⟩; have n1_ : Aside0 (w.grownBy w_8 (some tb)) := ⟨by rw [hw_]; exact Hx.g_set HG.out (by have := ORD.out; omega)⟩; have n2_ : Aside0 (Own w_8 gL N cL (l2.set h (f - 1))) := ⟨by rw [hw_]; exact Own.put OL.out h _⟩; have n3_ : Aside0 (Own w_8 gM N cM m) := ⟨by rw [hw_]; exact Own.far OM.out (show gM ≠ gL by have := ORD.out; omega)⟩; have n4_ : Aside0 (Lst w_8 tb (some ad) bs) := ⟨by rw [hw_]; exact Lst.far LS.out (show ad.block ≠ gL by have := ORD.out; have := HAL.out; omega)⟩; have n5_ : Aside0 (wr.heap.size ≤ w_8.heap.size) := ⟨by rw [hw_]; exact Hx.size_set SZ.out⟩; have n6_ : Aside0 (Kd.R k104 104 w_8 w.heap.size (fun k_ => w.heap.size ≤ k_ ∧ k_ ≠ gL ∧ k_ ≠ gM) v_ zs) := ⟨by rw [hw_]; exact Kd.R_far HR.out (fun k_ hk_ => show k_ ≠ gL by first | exact hk_.2.1 | exact hk_.2.2 | exact hk_.2.2.1) _⟩; (try clear HT); (try clear HG); (try clear OL); (try clear OM); (try clear LS); (try clear SZ); (try clear HR); have HT := n0_; have HG := n1_; have OL := n2_; have OM := n3_; have LS := n4_; have SZ := n5_; have HR := n6_; clear n0_ n1_ n2_ n3_ n4_ n5_ n6_; clear hw_))
        go_roundg k1
        case measure => omega
        case rel => exact ⟨e' - 1, l2.set h (f - 1), m, zs, rfl, ⟨⟨HNX.out.1, HMS2.out, HZL.out, lset_good HGL.out h (by have := HLT.out; omega), by rw [List.length_set]; exact HL2N.out, HMN.out⟩⟩, HL2, HR, OL, OM, HT, HG, LS⟩
      | false =>
        rw [HNXF.out, HLOF.out] at HNX HL2
        rw [HNXF.out] at HMS2
        go_upto_region 12 with fail
        refine start_ (n := 10) (S := fun w' => w'.cell? ⟨gL, h, none⟩ = some (.int .i64 xl) ∧ w'.cell? ⟨g2, 1, none⟩ = some (.int .i64 f)) (ds := [9]) #[false, false, false, false, false, false, false, false, false, false] (by kernel_rfl) rfl rfl ⟨cl_, y1_⟩ (fun hHeld => ?_)
        refine pure_ (i := 0) (N := some 66) (v := ?_) (a' := ?_) #[true, false, false, false, false, false, false, false, false, false] rfl rfl (by kernel_rfl) (fun _ _ _ h => h) (Or.inl ⟨by rfl, ?_⟩) ?_ ?_
        rotate_left
        · intro w'
          go_simp
          with_reducible rfl
        rotate_left
        · simp only [Act.put, List.setIfInBounds_toArray, List.set_cons_zero, List.set_cons_succ, i64_w, i32_w]
          rfl
        refine pure_ (i := 1) (N := some 67) (v := ?_) (a' := ?_) #[true, true, false, false, false, false, false, false, false, false] rfl rfl (by kernel_rfl) (fun _ _ _ h => h) (Or.inl ⟨by rfl, ?_⟩) ?_ ?_
        rotate_left
        · intro w'
          go_simp
          with_reducible rfl
        rotate_left
        · simp only [Act.put, List.setIfInBounds_toArray, List.set_cons_zero, List.set_cons_succ, i64_w, i32_w]
          rfl
        refine pure_ (i := 2) (N := some 68) (v := ?_) (a' := ?_) #[true, true, true, false, false, false, false, false, false, false] rfl rfl (by kernel_rfl) (fun _ _ _ h => h) (Or.inl ⟨by rfl, ?_⟩) ?_ ?_
        rotate_left
        · intro w'
          go_simp
          with_reducible rfl
        rotate_left
        · simp only [Act.put, List.setIfInBounds_toArray, List.set_cons_zero, List.set_cons_succ, i64_w, i32_w]
          rfl
        refine pure_ (i := 4) (N := some 70) (v := ?_) (a' := ?_) #[true, true, true, false, true, false, false, false, false, false] rfl rfl (by kernel_rfl) (fun _ _ _ h => h) (Or.inl ⟨by rfl, ?_⟩) ?_ ?_
        rotate_left
        · intro w'
          go_simp
          with_reducible rfl
        rotate_left
        · simp only [Act.put, List.setIfInBounds_toArray, List.set_cons_zero, List.set_cons_succ, i64_w, i32_w]
          rfl
        refine pure_ (i := 5) (N := some 71) (v := ?_) (a' := ?_) #[true, true, true, false, true, true, false, false, false, false] rfl rfl (by kernel_rfl) (fun _ _ _ h => h) (Or.inl ⟨by rfl, ?_⟩) ?_ ?_
        rotate_left
        · intro w'
          go_simp
          with_reducible rfl
        rotate_left
        · simp only [Act.put, List.setIfInBounds_toArray, List.set_cons_zero, List.set_cons_succ, i64_w, i32_w]
          rfl
        refine take_ (i := 3) (N := some 69) (v := ?_) (a' := ?_) #[true, true, true, true, true, true, false, false, false, false] rfl rfl (by kernel_rfl) (fun _ _ _ h => h) (Or.inl ⟨by rfl, ?_⟩) hHeld ?_ ?_
        rotate_left
        · rintro w' ⟨s0, s1⟩
          go_simp
          with_reducible rfl
        rotate_left
        · simp only [Act.put, List.setIfInBounds_toArray, List.set_cons_zero, List.set_cons_succ, i64_w, i32_w]
          rfl
        refine take_ (i := 6) (N := some 72) (v := ?_) (a' := ?_) #[true, true, true, true, true, true, true, false, false, false] rfl rfl (by kernel_rfl) (fun _ _ _ h => h) (Or.inl ⟨by rfl, ?_⟩) hHeld ?_ ?_
        rotate_left
        · rintro w' ⟨s0, s1⟩
          go_simp
          with_reducible rfl
        rotate_left
        · simp only [Act.put, List.setIfInBounds_toArray, List.set_cons_zero, List.set_cons_succ, i64_w, i32_w]
          rfl
        refine pure_ (i := 7) (N := some 73) (v := ?_) (a' := ?_) #[true, true, true, true, true, true, true, true, false, false] rfl rfl (by kernel_rfl) (fun _ _ _ h => h) (Or.inl ⟨by rfl, ?_⟩) ?_ ?_
        rotate_left
        · intro w'
          go_simp
          with_reducible rfl
        rotate_left
        · simp only [Act.put, List.setIfInBounds_toArray, List.set_cons_zero, List.set_cons_succ, i64_w, i32_w]
          rfl
        refine pure_ (i := 8) (N := some 74) (v := ?_) (a' := ?_) #[true, true, true, true, true, true, true, true, true, false] rfl rfl (by kernel_rfl) (fun _ _ _ h => h) (Or.inl ⟨by rfl, ?_⟩) ?_ ?_
        rotate_left
        · intro w'
          go_simp
          with_reducible rfl
        rotate_left
        · simp only [Act.put, List.setIfInBounds_toArray, List.set_cons_zero, List.set_cons_succ, i64_w, i32_w]
          rfl
        refine last_ (i := 9) (N := none) #[true, true, true, true, true, true, true, true, true, true] rfl rfl (by kernel_rfl) (by decide) (fun K hK => ?_)
        refine skip_ (w1 := ?_) (by rfl) rfl ?_ ?_
        rotate_left
        · go_simp
          rfl
        refine hK.out _ _ ?_
        clear hK K
        refine done_ (by kernel_rfl) ?_
        have n0_ : Aside0 (HTab ((w_5.setCell ⟨gL, h, none⟩ (.int .i64 (xl - f))).drew) tb c0) := ⟨HTab.below (HTab.far HT.out (show tb ≠ gL by have := ORD.out; omega)) (below_drew1 (Below.refl _ _))⟩
        have n1_ : Aside0 (w.grownBy ((w_5.setCell ⟨gL, h, none⟩ (.int .i64 (xl - f))).drew) (some tb)) := ⟨Hx.g_drew (Hx.g_set HG.out (by have := ORD.out; omega))⟩
        have n2_ : Aside0 (Own ((w_5.setCell ⟨gL, h, none⟩ (.int .i64 (xl - f))).drew) gL N cL (l2.set h (xl - f))) := ⟨Own.below (Own.put OL.out h _) (below_drew1 (Below.refl _ _))⟩
        have n3_ : Aside0 (Own ((w_5.setCell ⟨gL, h, none⟩ (.int .i64 (xl - f))).drew) gM N cM m) := ⟨Own.below (Own.far OM.out (show gM ≠ gL by have := ORD.out; omega)) (below_drew1 (Below.refl _ _))⟩
        have n4_ : Aside0 (Lst ((w_5.setCell ⟨gL, h, none⟩ (.int .i64 (xl - f))).drew) tb (some ad) bs) := ⟨Lst.below (Lst.far LS.out (show ad.block ≠ gL by have := ORD.out; have := HAL.out; omega)) (below_drew1 (Below.refl _ _))⟩
        have n5_ : Aside0 (wr.heap.size ≤ ((w_5.setCell ⟨gL, h, none⟩ (.int .i64 (xl - f))).drew).heap.size) := ⟨Hx.size_set SZ.out⟩
        have n6_ : Aside0 (Kd.R k104 104 ((w_5.setCell ⟨gL, h, none⟩ (.int .i64 (xl - f))).drew) w.heap.size (fun k_ => w.heap.size ≤ k_ ∧ k_ ≠ gL ∧ k_ ≠ gM) v_ zs) := ⟨Kd.R_below (Kd.R_far HR.out (fun k_ hk_ => show k_ ≠ gL by first | exact hk_.2.1 | exact hk_.2.2 | exact hk_.2.2.1) _) (below_drew1 (Below.refl _ _))⟩
        (try clear HT)
        (try clear HG)
        (try clear OL)
        (try clear OM)
        (try clear LS)
        (try clear SZ)
        (try clear HR)
        generalize (w_5.setCell ⟨gL, h, none⟩ (.int .i64 (xl - f))).drew = w_18 at n0_ n1_ n2_ n3_ n4_ n5_ n6_ ⊢
        have HT := n0_
        have HG := n1_
        have OL := n2_
        have OM := n3_
        have LS := n4_
        have SZ := n5_
        have HR := n6_
        clear n0_ n1_ n2_ n3_ n4_ n5_ n6_
        clear cl_ dl_ y1_
        obtain ⟨cn_, dn_⟩ := Own.look OM.out (i := h) HHN.out
        go_wp2_with (first | ((with_reducible refine gate_store (t := 3) (p := 78) rfl ?_); refine store_event (t := 3) (p := 78) (v := ?vo_w19) (w1 := ((w_18).setCell ⟨gM, h, none⟩ (.int .i64 fl))) ?hg ?ho ?hn ?hr ?_; (case ho => rfl); (case hg => rfl); (case hn => rfl); (case hr => first | (go_simp; done) | (go_simp; rfl)); intro w_19 hw_; have n0_ : Aside0 (HTab w_19 tb c0) := ⟨by rw [hw_]; exact HTab.far HT.out (show tb ≠ gM by have := ORD.out; omega)⟩; have n1_ : Aside0 (w.grownBy w_19 (some tb)) := ⟨by rw [hw_]; exact Hx.g_set HG.out (by have := ORD.out; omega)⟩; have n2_ : Aside0 (Own w_19 gL N cL (l2.set h (xl - f))) := ⟨by rw [hw_]; exact Own.far OL.out (show gL ≠ gM by have := ORD.out; omega)⟩; have n3_ : Aside0 (Own w_19 gM N cM (m.set h (fl))) := ⟨by rw [hw_]; exact Own.put OM.out h _⟩; have n4_ : Aside0 (Lst w_19 tb (some ad) bs) := ⟨by rw [hw_]; exact Lst.far LS.out (show ad.block ≠ gM by have := ORD.out; have := HAL.out; omega)⟩; have n5_ : Aside0 (wr.heap.size ≤ w_19.heap.size) := ⟨by rw [hw_]; exact Hx.size_set SZ.out⟩; have n6_ : Aside0 (Kd.R k104 104 w_19 w.heap.size (fun k_ => w.heap.size ≤ k_ ∧ k_ ≠ gL ∧ k_ ≠ gM) v_ zs) := ⟨by rw [hw_]; exact Kd.R_far HR.out (fun k_ hk_ => show k_ ≠ gM by first | exact hk_.2.1 | exact hk_.2.2 | exact hk_.2.2.1) _⟩; (try clear HT); (try clear HG); (try clear OL); (try clear OM); (try clear LS); (try clear SZ); (try clear HR); have HT := n0_; have HG := n1_; have OL := n2_; have OM := n3_; have LS := n4_; have SZ := n5_; have HR := n6_; clear n0_ n1_ n2_ n3_ n4_ n5_ n6_; clear hw_))
        go_roundg k1
        case measure => omega
        case rel => exact ⟨e', l2.set h (xl - f), m.set h fl, zs, rfl, ⟨⟨HNX.out.1, HMS2.out, HZL.out, lset_good HGL.out h (by have := HLT.out; omega), by rw [List.length_set]; exact HL2N.out, by rw [List.length_set]; exact HMN.out⟩⟩, HL2, HR, OL, OM, HT, HG, LS⟩


-- FOR spec.PlayHouses
-- KIND rounds=0 making=1
-- CALLS impl.PlayHouses ; spec.hoPlay ; spec.hoAsked ; spec.hoBreaks ; spec.hoTable
-- USES kd impl.HouseDrop

def spec_PlayHouses.f (a0 : Int) (l1 l2 : List Int) : Option (List S104 × Bool) := some (playH a0 l1 l2)

set_option maxHeartbeats 8000000 in
set_option maxRecDepth 100000 in
theorem spec_PlayHouses.calls (a0 : Int) (A1 : Option Addr) (c1 : Nat) (l1 : List Int) (A2 : Option Addr) (c2 : Nat) (l2 : List Int) (r1 : List S104) (r2 : Bool) (w : World) (hr1 : Kd.C (Kd.int .i64) w A1 l1.length l1) (hc1 : l1.length ≤ c1) (hr2 : Kd.C (Kd.int .i64) w A2 l2.length l2) (hc2 : l2.length ≤ c2) (h : spec_PlayHouses.f a0 l1 l2 = some (r1, r2)) :
    Calls Try.prog 47 #[.int .i64 a0, .slice A1 l1.length c1, .slice A2 l2.length c2] w fun e w' => ∃ v0_ : Value, e = .returned (.tuple #[v0_, .bool r2]) ∧ Kd.R k104 104 w' w.heap.size (fun _ => True) v0_ r1 ∧ Below w.heap.size w w' := by
  have HB := Aside0.mk (Below.refl w.heap.size w)
  have HC1 := Aside0.mk hr1
  have HC2 := Aside0.mk hr2
  have HC01 := Aside0.mk hr1
  have HC02 := Aside0.mk hr2
  have HL1 := Aside0.mk hc1
  have HL2 := Aside0.mk hc2
  obtain ⟨b1, hb1⟩ : ∃ b, b = hAsk a0 l1 := ⟨_, rfl⟩
  obtain ⟨b2, hb2⟩ : ∃ b, b = hBs l1 l2 := ⟨_, rfl⟩
  have e1 := asked_is a0 l1
  unfold spec_PlayHouses.f playH at h
  rw [← hb1] at e1 h
  rw [← hb2] at h
  have HA := Aside0.mk e1
  have HAG := Aside0.mk hb1
  have HBG := Aside0.mk hb2
  clear e1 hb1 hb2 hr1 hc1 hr2 hc2
  cases b1 with
  | false =>
    simp only [Bool.false_and, Bool.false_eq_true, if_false, Option.some.injEq, Prod.mk.injEq] at h
    obtain ⟨rfl, rfl⟩ := h
    go_enter Try.func47, Try.ntmps47
    go_wp2_with (first | ((with_reducible refine gate_callee (f := 80) rfl ?_); refine goesL_ (some 10) rfl rfl Try.func80 (by kernel_rfl) rfl #[.int .i64 a0, .slice A1 l1.length c1] rfl (by (try simp only [List.map_toArray, List.map_cons, List.map_nil]); first | done | rfl) ?_; refine (spec_hoAsked.calls 9 a0 A1 c1 l1 _ _ HC1.out HL1.out HA.out).mono ?_; rintro e_ w_1 ⟨rfl, hd_⟩; refine ⟨_, rfl, ?_⟩; have hb_ : Below _ _ w_1 := (by first | exact hd_ | exact hd_.below); clear hd_; have n0_ : Aside0 (Below w.heap.size w w_1) := ⟨Hx.bb_below hb_ (by first | exact HB.out | exact below_drew1 HB.out | exact pw_below_drewN HB.out _)⟩; have n1_ : Aside0 (Kd.C (Kd.int .i64) w_1 A1 l1.length l1) := ⟨Kd.C_below HC1.out hb_⟩; have n2_ : Aside0 (Kd.C (Kd.int .i64) w_1 A2 l2.length l2) := ⟨Kd.C_below HC2.out hb_⟩; (try clear HB); (try clear HC1); (try clear HC2); have HB := n0_; have HC1 := n1_; have HC2 := n2_; clear n0_ n1_ n2_; clear hb_))
    go_ret2
    exact ⟨_, rfl, Kd.R_nil _ _ _ _ _, HB.out⟩
  | true =>
    have HG0 := Aside0.mk (hAsk_good HAG.out.symm)
    have HBR : Aside0 (spec_hoBreaks.f 9 l1 l2 = some b2) := ⟨by rw [HBG.out]; exact hoBreaks_is ⟨HG0.out.1.1, HG0.out.1.2.1⟩ l2⟩
    cases b2 with
    | false =>
      simp only [Bool.and_false, Bool.false_eq_true, if_false, Option.some.injEq, Prod.mk.injEq] at h
      obtain ⟨rfl, rfl⟩ := h
      go_enter Try.func47, Try.ntmps47
      go_wp2_with (first | ((with_reducible refine gate_callee (f := 80) rfl ?_); refine goesL_ (some 10) rfl rfl Try.func80 (by kernel_rfl) rfl #[.int .i64 a0, .slice A1 l1.length c1] rfl (by (try simp only [List.map_toArray, List.map_cons, List.map_nil]); first | done | rfl) ?_; refine (spec_hoAsked.calls 9 a0 A1 c1 l1 _ _ HC1.out HL1.out HA.out).mono ?_; rintro e_ w_1 ⟨rfl, hd_⟩; refine ⟨_, rfl, ?_⟩; have hb_ : Below _ _ w_1 := (by first | exact hd_ | exact hd_.below); clear hd_; have n0_ : Aside0 (Below w.heap.size w w_1) := ⟨Hx.bb_below hb_ (by first | exact HB.out | exact below_drew1 HB.out | exact pw_below_drewN HB.out _)⟩; have n1_ : Aside0 (Kd.C (Kd.int .i64) w_1 A1 l1.length l1) := ⟨Kd.C_below HC1.out hb_⟩; have n2_ : Aside0 (Kd.C (Kd.int .i64) w_1 A2 l2.length l2) := ⟨Kd.C_below HC2.out hb_⟩; (try clear HB); (try clear HC1); (try clear HC2); have HB := n0_; have HC1 := n1_; have HC2 := n2_; clear n0_ n1_ n2_; clear hb_) | (go_at_call 88; refine (spec_hoBreaks.calls 9 A1 c1 l1 A2 c2 l2 _ _ HC1.out HL1.out HC2.out HL2.out HBR.out).mono ?_; rintro e_ w_2 ⟨rfl, hd_⟩; have hb_ : Below _ _ w_2 := (by first | exact hd_ | exact hd_.below); clear hd_; have n0_ : Aside0 (Below w.heap.size w w_2) := ⟨Hx.bb_below hb_ (by first | exact HB.out | exact below_drew1 HB.out | exact pw_below_drewN HB.out _)⟩; have n1_ : Aside0 (Kd.C (Kd.int .i64) w_2 A1 l1.length l1) := ⟨Kd.C_below HC1.out hb_⟩; have n2_ : Aside0 (Kd.C (Kd.int .i64) w_2 A2 l2.length l2) := ⟨Kd.C_below HC2.out hb_⟩; (try clear HB); (try clear HC1); (try clear HC2); have HB := n0_; have HC1 := n1_; have HC2 := n2_; clear n0_ n1_ n2_; clear hb_))
      go_ret2
      exact ⟨_, rfl, Kd.R_nil _ _ _ _ _, HB.out⟩
    | true =>
      simp only [Bool.and_true, if_true, Option.some.injEq, Prod.mk.injEq] at h
      obtain ⟨rfl, rfl⟩ := h
      have HP0 := Aside0.mk (start_good HAG.out.symm HBG.out.symm)
      have HBL := Aside0.mk (hBs_len HBG.out.symm)
      go_enter Try.func47, Try.ntmps47
      go_upto_region 3 with (first | ((with_reducible refine gate_callee (f := 80) rfl ?_); refine goesL_ (some 10) rfl rfl Try.func80 (by kernel_rfl) rfl #[.int .i64 a0, .slice A1 l1.length c1] rfl (by (try simp only [List.map_toArray, List.map_cons, List.map_nil]); first | done | rfl) ?_; refine (spec_hoAsked.calls 9 a0 A1 c1 l1 _ _ HC1.out HL1.out HA.out).mono ?_; rintro e_ w_1 ⟨rfl, hd_⟩; refine ⟨_, rfl, ?_⟩; have hb_ : Below _ _ w_1 := (by first | exact hd_ | exact hd_.below); clear hd_; have n0_ : Aside0 (Below w.heap.size w w_1) := ⟨Hx.bb_below hb_ (by first | exact HB.out | exact below_drew1 HB.out | exact pw_below_drewN HB.out _)⟩; have n1_ : Aside0 (Kd.C (Kd.int .i64) w_1 A1 l1.length l1) := ⟨Kd.C_below HC1.out hb_⟩; have n2_ : Aside0 (Kd.C (Kd.int .i64) w_1 A2 l2.length l2) := ⟨Kd.C_below HC2.out hb_⟩; (try clear HB); (try clear HC1); (try clear HC2); have HB := n0_; have HC1 := n1_; have HC2 := n2_; clear n0_ n1_ n2_; clear hb_) | (go_at_call 88; refine (spec_hoBreaks.calls 9 A1 c1 l1 A2 c2 l2 _ _ HC1.out HL1.out HC2.out HL2.out HBR.out).mono ?_; rintro e_ w_2 ⟨rfl, hd_⟩; have hb_ : Below _ _ w_2 := (by first | exact hd_ | exact hd_.below); clear hd_; have n0_ : Aside0 (Below w.heap.size w w_2) := ⟨Hx.bb_below hb_ (by first | exact HB.out | exact below_drew1 HB.out | exact pw_below_drewN HB.out _)⟩; have n1_ : Aside0 (Kd.C (Kd.int .i64) w_2 A1 l1.length l1) := ⟨Kd.C_below HC1.out hb_⟩; have n2_ : Aside0 (Kd.C (Kd.int .i64) w_2 A2 l2.length l2) := ⟨Kd.C_below HC2.out hb_⟩; (try clear HB); (try clear HC1); (try clear HC2); have HB := n0_; have HC1 := n1_; have HC2 := n2_; clear n0_ n1_ n2_; clear hb_))
      go_wp2_with (first | ((with_reducible refine gate_callee (f := 83) rfl ?_); refine goesL_ (some 18) rfl rfl Try.func83 (by kernel_rfl) rfl #[] rfl (by (try simp only [List.map_toArray, List.map_cons, List.map_nil]); first | done | rfl) ?_; refine (spec_hoTable.calls 5108 _ _ hoTable_is).mono ?_; rintro e_ w_3 ⟨v_, rfl, hr_, hb_⟩; refine ⟨_, rfl, ?_⟩; obtain ⟨tb, c0, rfl, ht_, hz_⟩ := htab_of hr_; have ZZ := Aside0.mk (show w.heap.size ≤ tb from Nat.le_trans HB.out.size hz_); have HB2 := Aside0.mk (Hx.bb_below hb_ HB.out); clear HB HC1 HC2; have HB := HB2; clear HB2; have HT := Aside0.mk ht_; have LS1 := Aside0.mk (lst_of HC01.out HG0.out.1.1 HB.out ZZ.out); have LS2 := Aside0.mk (lst_of HC02.out (by have := HBL.out; have := HG0.out.1.1; omega) HB.out ZZ.out); clear ht_ hb_ hr_ hz_) | ((with_reducible refine gate_callee (f := 89) rfl ?_); refine goesL_ (some 22) rfl rfl Try.func89 (by kernel_rfl) rfl #[.slice (some ⟨tb, 0, none⟩) 5103 c0, .int .i64 a0, .slice A1 l1.length c1, .slice A2 l2.length c2] rfl (by (try simp only [List.map_toArray, List.map_cons, List.map_nil]); first | done | rfl) ?_; refine (shplay_of tb c0 a0 l1 l2 HG0.out.1 HG0.out.2.1 HP0.out HBL.out _ rfl A1 c1 HL1.out A2 c2 HL2.out _ LS1.out LS2.out HT.out).mono ?_; rintro e_ w_4 ⟨v_, rfl, hr_, ht_, hg_⟩; refine ⟨_, rfl, ?_⟩; have HR := Aside0.mk (Kd.R_lower hr_ HB.out.size); have HB5 := Aside0.mk (Hx.bb_grown HB.out hg_ ZZ.out); clear HB HT LS1 LS2 hg_ ht_ hr_; have HB := HB5; clear HB5))
      go_ret2
      exact ⟨_, rfl, HR.out, HB.out⟩


/-! ### laws_eqHouseDrop: function 92 -/
def laws_eqHouseDrop.f (a0_0 : Int) (a0_1 : Int) (a0_2 : Bool) (a1_0 : Int) (a1_1 : Int) (a1_2 : Bool) : Option (Bool) := if a0_0 = a1_0 then (if a0_1 = a1_1 then (if (a0_2 != a1_2) = true then (some false) else (some true)) else (some false)) else (some false)
set_option maxHeartbeats 8000000 in
set_option maxRecDepth 100000 in
theorem laws_eqHouseDrop.calls (a0_0 : Int) (a0_1 : Int) (a0_2 : Bool) (a1_0 : Int) (a1_1 : Int) (a1_2 : Bool) (r : Bool) (w : World) (h : laws_eqHouseDrop.f a0_0 a0_1 a0_2 a1_0 a1_1 a1_2 = some r) :
    Calls Try.prog 92 #[.agg #[.int .i64 a0_0, .int .i64 a0_1, .bool a0_2], .agg #[.int .i64 a1_0, .int .i64 a1_1, .bool a1_2]] w fun e w' => e = .returned (.bool r) ∧ Below w.heap.size w w' := by
  have hu104 := Try.underlying104
  have HB := Aside0.mk (Below.refl w.heap.size w)
  have H : (if a0_0 = a1_0 then (if a0_1 = a1_1 then (if (a0_2 != a1_2) = true then (some false) else (some true)) else (some false)) else (some false)) = some r := h
  clear h
  by_cases c3 : a0_0 = a1_0
  · rw [if_pos c3] at H
    have c3b0 : (a0_0 == a1_0) = true := beq_iff_eq.mpr c3
    have c3b1 : (a0_0 != a1_0) = false := bne_eq_false_iff_eq.mpr c3
    clear c3
    by_cases c4 : a0_1 = a1_1
    · rw [if_pos c4] at H
      have c4b0 : (a0_1 == a1_1) = true := beq_iff_eq.mpr c4
      have c4b1 : (a0_1 != a1_1) = false := bne_eq_false_iff_eq.mpr c4
      clear c4
      by_cases c5 : (a0_2 != a1_2) = true
      · rw [if_pos c5] at H
        have c5b0 : (a0_2 != a1_2) = true := c5
        (try (have c5b1 : decide (a0_2 = a1_2) = false := by simpa using c5))
        (try (have c5b2 : (a0_2 == a1_2) = false := by simpa using c5))
        (try (have c5b3 : ¬ (a0_2 = a1_2) := by simpa using c5))
        clear c5
        obtain rfl := Option.some.inj H
        go_enter Try.func92, Try.ntmps92
        go_wp2_with (first | ((with_reducible refine gate_dst (N := 2) rfl ?_); refine box_event ?hg (N := 2) ?hd (cs := #[.int .i64 a0_0, .int .i64 a0_1, .bool a0_2]) (t := 104) ?hr ?_; (case hd => rfl); (case hg => rfl); (case hr => first | (go_simp; done) | (go_simp; rfl)); intro gb153 hg w6 hbox hb; have n0_ := Aside0.mk (below_step (by repeat (first | (with_reducible first | exact HB.out | apply below_alloc | apply pw_below_drewN | apply below_drew1) | exact HB.out)) hb); have n1_ := Aside0.mk (hbox); have n2_ := Aside0.mk ((by rw [hg]; exact (below_size (by repeat (first | (with_reducible first | exact HB.out | apply below_alloc | apply pw_below_drewN | apply below_drew1) | exact HB.out))) : w.heap.size ≤ gb153)); have n3_ := Aside0.mk ((by rw [hg]; exact (below_size (by repeat (first | (with_reducible first | exact HB.out | apply below_alloc | apply pw_below_drewN | apply below_drew1) | exact HB.out))) : w.heap.size ≤ gb153)); clear HB; have HB := n0_; have BK153 := n1_; have GW153 := n2_; have GE153 := n3_; clear n0_ n1_ n2_ n3_; clear hb hbox hg) | ((with_reducible refine gate_dst (N := 3) rfl ?_); refine box_event ?hg (N := 3) ?hd (cs := #[.int .i64 a1_0, .int .i64 a1_1, .bool a1_2]) (t := 104) ?hr ?_; (case hd => rfl); (case hg => rfl); (case hr => first | (go_simp; done) | (go_simp; rfl)); intro gb154 hg w7 hbox hb; have n0_ := Aside0.mk (blk_below (g := gb153) (o := .cells #[.int .i64 a0_0, .int .i64 a0_1, .bool a0_2] 104 (0, 0)) (by (with_reducible repeat (first | refine blk_drewN ?_ _ | refine blk_drew ?_ | refine blk_alloc ?_ _)); exact BK153.out) hb); have n1_ := Aside0.mk (below_step (by repeat (first | (with_reducible first | exact HB.out | apply below_alloc | apply pw_below_drewN | apply below_drew1 | refine below_set ?_ GE153.out) | exact HB.out)) hb); have n2_ := Aside0.mk (hbox); have n3_ := Aside0.mk ((by rw [hg]; exact (below_size (by repeat (first | (with_reducible first | exact HB.out | apply below_alloc | apply pw_below_drewN | apply below_drew1 | refine below_set ?_ GE153.out) | exact HB.out))) : w.heap.size ≤ gb154)); have n4_ := Aside0.mk ((by rw [hg]; exact (below_size (by repeat (first | (with_reducible first | exact HB.out | apply below_alloc | apply pw_below_drewN | apply below_drew1 | refine below_set ?_ GE153.out) | exact HB.out))) : w.heap.size ≤ gb154)); have n5_ := Aside0.mk ((by rw [hg]; exact Nat.ne_of_lt (blk_lt (g := gb153) (o := .cells #[.int .i64 a0_0, .int .i64 a0_1, .bool a0_2] 104 (0, 0)) (by (with_reducible repeat (first | refine blk_drewN ?_ _ | refine blk_drew ?_ | refine blk_alloc ?_ _)); exact BK153.out)) : gb153 ≠ gb154)); have n6_ := Aside0.mk ((by rw [hg]; exact Nat.ne_of_gt (blk_lt (g := gb153) (o := .cells #[.int .i64 a0_0, .int .i64 a0_1, .bool a0_2] 104 (0, 0)) (by (with_reducible repeat (first | refine blk_drewN ?_ _ | refine blk_drew ?_ | refine blk_alloc ?_ _)); exact BK153.out)) : gb154 ≠ gb153)); clear BK153; clear HB; have BK153 := n0_; have HB := n1_; have BK154 := n2_; have GW154 := n3_; have GE154 := n4_; have NB153_154 := n5_; have NB154_153 := n6_; clear n0_ n1_ n2_ n3_ n4_ n5_ n6_; clear hb hbox hg; have hnb8 := NB153_154.out; have hnc8 := NB154_153.out; have hcz9_0 : w7.cell? ⟨gb153, 0, none⟩ = some (.int .i64 a0_0) := (blk_cell BK153.out 0).trans rfl; have hcz9_1 : w7.cell? ⟨gb153, 1, none⟩ = some (.int .i64 a0_1) := (blk_cell BK153.out 1).trans rfl; have hcz9_2 : w7.cell? ⟨gb153, 2, none⟩ = some (.bool a0_2) := (blk_cell BK153.out 2).trans rfl; have hfz9_0 := blk_frozen BK153.out 0; have hfz9_1 := blk_frozen BK153.out 1; have hfz9_2 := blk_frozen BK153.out 2; have hcz10_0 : w7.cell? ⟨gb154, 0, none⟩ = some (.int .i64 a1_0) := (blk_cell BK154.out 0).trans rfl; have hcz10_1 : w7.cell? ⟨gb154, 1, none⟩ = some (.int .i64 a1_1) := (blk_cell BK154.out 1).trans rfl; have hcz10_2 : w7.cell? ⟨gb154, 2, none⟩ = some (.bool a1_2) := (blk_cell BK154.out 2).trans rfl; have hfz10_0 := blk_frozen BK154.out 0; have hfz10_1 := blk_frozen BK154.out 1; have hfz10_2 := blk_frozen BK154.out 2))
        go_ret
        exact ⟨by first | rfl | (simp [errW_none, errW_some] <;> rfl) | (simp [*, errW_none, errW_some] <;> rfl), by repeat (first | (with_reducible first | exact HB.out | apply below_alloc | apply pw_below_drewN | apply below_drew1 | refine below_set ?_ GE153.out | refine below_set ?_ GE154.out) | exact HB.out)⟩
      · rw [if_neg c5] at H
        have c5b0 : (a0_2 != a1_2) = false := by simpa using c5
        (try (have c5b1 : decide (a0_2 = a1_2) = true := by simpa using c5))
        (try (have c5b2 : (a0_2 == a1_2) = true := by simpa using c5))
        clear c5
        obtain rfl := Option.some.inj H
        go_enter Try.func92, Try.ntmps92
        go_wp2_with (first | ((with_reducible refine gate_dst (N := 2) rfl ?_); refine box_event ?hg (N := 2) ?hd (cs := #[.int .i64 a0_0, .int .i64 a0_1, .bool a0_2]) (t := 104) ?hr ?_; (case hd => rfl); (case hg => rfl); (case hr => first | (go_simp; done) | (go_simp; rfl)); intro gb153 hg w11 hbox hb; have n0_ := Aside0.mk (below_step (by repeat (first | (with_reducible first | exact HB.out | apply below_alloc | apply pw_below_drewN | apply below_drew1) | exact HB.out)) hb); have n1_ := Aside0.mk (hbox); have n2_ := Aside0.mk ((by rw [hg]; exact (below_size (by repeat (first | (with_reducible first | exact HB.out | apply below_alloc | apply pw_below_drewN | apply below_drew1) | exact HB.out))) : w.heap.size ≤ gb153)); have n3_ := Aside0.mk ((by rw [hg]; exact (below_size (by repeat (first | (with_reducible first | exact HB.out | apply below_alloc | apply pw_below_drewN | apply below_drew1) | exact HB.out))) : w.heap.size ≤ gb153)); clear HB; have HB := n0_; have BK153 := n1_; have GW153 := n2_; have GE153 := n3_; clear n0_ n1_ n2_ n3_; clear hb hbox hg) | ((with_reducible refine gate_dst (N := 3) rfl ?_); refine box_event ?hg (N := 3) ?hd (cs := #[.int .i64 a1_0, .int .i64 a1_1, .bool a1_2]) (t := 104) ?hr ?_; (case hd => rfl); (case hg => rfl); (case hr => first | (go_simp; done) | (go_simp; rfl)); intro gb154 hg w12 hbox hb; have n0_ := Aside0.mk (blk_below (g := gb153) (o := .cells #[.int .i64 a0_0, .int .i64 a0_1, .bool a0_2] 104 (0, 0)) (by (with_reducible repeat (first | refine blk_drewN ?_ _ | refine blk_drew ?_ | refine blk_alloc ?_ _)); exact BK153.out) hb); have n1_ := Aside0.mk (below_step (by repeat (first | (with_reducible first | exact HB.out | apply below_alloc | apply pw_below_drewN | apply below_drew1 | refine below_set ?_ GE153.out) | exact HB.out)) hb); have n2_ := Aside0.mk (hbox); have n3_ := Aside0.mk ((by rw [hg]; exact (below_size (by repeat (first | (with_reducible first | exact HB.out | apply below_alloc | apply pw_below_drewN | apply below_drew1 | refine below_set ?_ GE153.out) | exact HB.out))) : w.heap.size ≤ gb154)); have n4_ := Aside0.mk ((by rw [hg]; exact (below_size (by repeat (first | (with_reducible first | exact HB.out | apply below_alloc | apply pw_below_drewN | apply below_drew1 | refine below_set ?_ GE153.out) | exact HB.out))) : w.heap.size ≤ gb154)); have n5_ := Aside0.mk ((by rw [hg]; exact Nat.ne_of_lt (blk_lt (g := gb153) (o := .cells #[.int .i64 a0_0, .int .i64 a0_1, .bool a0_2] 104 (0, 0)) (by (with_reducible repeat (first | refine blk_drewN ?_ _ | refine blk_drew ?_ | refine blk_alloc ?_ _)); exact BK153.out)) : gb153 ≠ gb154)); have n6_ := Aside0.mk ((by rw [hg]; exact Nat.ne_of_gt (blk_lt (g := gb153) (o := .cells #[.int .i64 a0_0, .int .i64 a0_1, .bool a0_2] 104 (0, 0)) (by (with_reducible repeat (first | refine blk_drewN ?_ _ | refine blk_drew ?_ | refine blk_alloc ?_ _)); exact BK153.out)) : gb154 ≠ gb153)); clear BK153; clear HB; have BK153 := n0_; have HB := n1_; have BK154 := n2_; have GW154 := n3_; have GE154 := n4_; have NB153_154 := n5_; have NB154_153 := n6_; clear n0_ n1_ n2_ n3_ n4_ n5_ n6_; clear hb hbox hg; have hnb13 := NB153_154.out; have hnc13 := NB154_153.out; have hcz14_0 : w12.cell? ⟨gb153, 0, none⟩ = some (.int .i64 a0_0) := (blk_cell BK153.out 0).trans rfl; have hcz14_1 : w12.cell? ⟨gb153, 1, none⟩ = some (.int .i64 a0_1) := (blk_cell BK153.out 1).trans rfl; have hcz14_2 : w12.cell? ⟨gb153, 2, none⟩ = some (.bool a0_2) := (blk_cell BK153.out 2).trans rfl; have hfz14_0 := blk_frozen BK153.out 0; have hfz14_1 := blk_frozen BK153.out 1; have hfz14_2 := blk_frozen BK153.out 2; have hcz15_0 : w12.cell? ⟨gb154, 0, none⟩ = some (.int .i64 a1_0) := (blk_cell BK154.out 0).trans rfl; have hcz15_1 : w12.cell? ⟨gb154, 1, none⟩ = some (.int .i64 a1_1) := (blk_cell BK154.out 1).trans rfl; have hcz15_2 : w12.cell? ⟨gb154, 2, none⟩ = some (.bool a1_2) := (blk_cell BK154.out 2).trans rfl; have hfz15_0 := blk_frozen BK154.out 0; have hfz15_1 := blk_frozen BK154.out 1; have hfz15_2 := blk_frozen BK154.out 2))
        go_ret
        exact ⟨by first | rfl | (simp [errW_none, errW_some] <;> rfl) | (simp [*, errW_none, errW_some] <;> rfl), by repeat (first | (with_reducible first | exact HB.out | apply below_alloc | apply pw_below_drewN | apply below_drew1 | refine below_set ?_ GE153.out | refine below_set ?_ GE154.out) | exact HB.out)⟩
    · rw [if_neg c4] at H
      have c4b0 : (a0_1 == a1_1) = false := beq_eq_false_iff_ne.mpr c4
      have c4b1 : (a0_1 != a1_1) = true := bne_iff_ne.mpr c4
      obtain rfl := Option.some.inj H
      go_enter Try.func92, Try.ntmps92
      go_wp2_with (first | ((with_reducible refine gate_dst (N := 2) rfl ?_); refine box_event ?hg (N := 2) ?hd (cs := #[.int .i64 a0_0, .int .i64 a0_1, .bool a0_2]) (t := 104) ?hr ?_; (case hd => rfl); (case hg => rfl); (case hr => first | (go_simp; done) | (go_simp; rfl)); intro gb153 hg w16 hbox hb; have n0_ := Aside0.mk (below_step (by repeat (first | (with_reducible first | exact HB.out | apply below_alloc | apply pw_below_drewN | apply below_drew1) | exact HB.out)) hb); have n1_ := Aside0.mk (hbox); have n2_ := Aside0.mk ((by rw [hg]; exact (below_size (by repeat (first | (with_reducible first | exact HB.out | apply below_alloc | apply pw_below_drewN | apply below_drew1) | exact HB.out))) : w.heap.size ≤ gb153)); have n3_ := Aside0.mk ((by rw [hg]; exact (below_size (by repeat (first | (with_reducible first | exact HB.out | apply below_alloc | apply pw_below_drewN | apply below_drew1) | exact HB.out))) : w.heap.size ≤ gb153)); clear HB; have HB := n0_; have BK153 := n1_; have GW153 := n2_; have GE153 := n3_; clear n0_ n1_ n2_ n3_; clear hb hbox hg) | ((with_reducible refine gate_dst (N := 3) rfl ?_); refine box_event ?hg (N := 3) ?hd (cs := #[.int .i64 a1_0, .int .i64 a1_1, .bool a1_2]) (t := 104) ?hr ?_; (case hd => rfl); (case hg => rfl); (case hr => first | (go_simp; done) | (go_simp; rfl)); intro gb154 hg w17 hbox hb; have n0_ := Aside0.mk (blk_below (g := gb153) (o := .cells #[.int .i64 a0_0, .int .i64 a0_1, .bool a0_2] 104 (0, 0)) (by (with_reducible repeat (first | refine blk_drewN ?_ _ | refine blk_drew ?_ | refine blk_alloc ?_ _)); exact BK153.out) hb); have n1_ := Aside0.mk (below_step (by repeat (first | (with_reducible first | exact HB.out | apply below_alloc | apply pw_below_drewN | apply below_drew1 | refine below_set ?_ GE153.out) | exact HB.out)) hb); have n2_ := Aside0.mk (hbox); have n3_ := Aside0.mk ((by rw [hg]; exact (below_size (by repeat (first | (with_reducible first | exact HB.out | apply below_alloc | apply pw_below_drewN | apply below_drew1 | refine below_set ?_ GE153.out) | exact HB.out))) : w.heap.size ≤ gb154)); have n4_ := Aside0.mk ((by rw [hg]; exact (below_size (by repeat (first | (with_reducible first | exact HB.out | apply below_alloc | apply pw_below_drewN | apply below_drew1 | refine below_set ?_ GE153.out) | exact HB.out))) : w.heap.size ≤ gb154)); have n5_ := Aside0.mk ((by rw [hg]; exact Nat.ne_of_lt (blk_lt (g := gb153) (o := .cells #[.int .i64 a0_0, .int .i64 a0_1, .bool a0_2] 104 (0, 0)) (by (with_reducible repeat (first | refine blk_drewN ?_ _ | refine blk_drew ?_ | refine blk_alloc ?_ _)); exact BK153.out)) : gb153 ≠ gb154)); have n6_ := Aside0.mk ((by rw [hg]; exact Nat.ne_of_gt (blk_lt (g := gb153) (o := .cells #[.int .i64 a0_0, .int .i64 a0_1, .bool a0_2] 104 (0, 0)) (by (with_reducible repeat (first | refine blk_drewN ?_ _ | refine blk_drew ?_ | refine blk_alloc ?_ _)); exact BK153.out)) : gb154 ≠ gb153)); clear BK153; clear HB; have BK153 := n0_; have HB := n1_; have BK154 := n2_; have GW154 := n3_; have GE154 := n4_; have NB153_154 := n5_; have NB154_153 := n6_; clear n0_ n1_ n2_ n3_ n4_ n5_ n6_; clear hb hbox hg; have hnb18 := NB153_154.out; have hnc18 := NB154_153.out; have hcz19_0 : w17.cell? ⟨gb153, 0, none⟩ = some (.int .i64 a0_0) := (blk_cell BK153.out 0).trans rfl; have hcz19_1 : w17.cell? ⟨gb153, 1, none⟩ = some (.int .i64 a0_1) := (blk_cell BK153.out 1).trans rfl; have hcz19_2 : w17.cell? ⟨gb153, 2, none⟩ = some (.bool a0_2) := (blk_cell BK153.out 2).trans rfl; have hfz19_0 := blk_frozen BK153.out 0; have hfz19_1 := blk_frozen BK153.out 1; have hfz19_2 := blk_frozen BK153.out 2; have hcz20_0 : w17.cell? ⟨gb154, 0, none⟩ = some (.int .i64 a1_0) := (blk_cell BK154.out 0).trans rfl; have hcz20_1 : w17.cell? ⟨gb154, 1, none⟩ = some (.int .i64 a1_1) := (blk_cell BK154.out 1).trans rfl; have hcz20_2 : w17.cell? ⟨gb154, 2, none⟩ = some (.bool a1_2) := (blk_cell BK154.out 2).trans rfl; have hfz20_0 := blk_frozen BK154.out 0; have hfz20_1 := blk_frozen BK154.out 1; have hfz20_2 := blk_frozen BK154.out 2))
      go_ret
      exact ⟨by first | rfl | (simp [errW_none, errW_some] <;> rfl) | (simp [*, errW_none, errW_some] <;> rfl), by repeat (first | (with_reducible first | exact HB.out | apply below_alloc | apply pw_below_drewN | apply below_drew1 | refine below_set ?_ GE153.out | refine below_set ?_ GE154.out) | exact HB.out)⟩
  · rw [if_neg c3] at H
    have c3b0 : (a0_0 == a1_0) = false := beq_eq_false_iff_ne.mpr c3
    have c3b1 : (a0_0 != a1_0) = true := bne_iff_ne.mpr c3
    obtain rfl := Option.some.inj H
    go_enter Try.func92, Try.ntmps92
    go_wp2_with (first | ((with_reducible refine gate_dst (N := 2) rfl ?_); refine box_event ?hg (N := 2) ?hd (cs := #[.int .i64 a0_0, .int .i64 a0_1, .bool a0_2]) (t := 104) ?hr ?_; (case hd => rfl); (case hg => rfl); (case hr => first | (go_simp; done) | (go_simp; rfl)); intro gb153 hg w21 hbox hb; have n0_ := Aside0.mk (below_step (by repeat (first | (with_reducible first | exact HB.out | apply below_alloc | apply pw_below_drewN | apply below_drew1) | exact HB.out)) hb); have n1_ := Aside0.mk (hbox); have n2_ := Aside0.mk ((by rw [hg]; exact (below_size (by repeat (first | (with_reducible first | exact HB.out | apply below_alloc | apply pw_below_drewN | apply below_drew1) | exact HB.out))) : w.heap.size ≤ gb153)); have n3_ := Aside0.mk ((by rw [hg]; exact (below_size (by repeat (first | (with_reducible first | exact HB.out | apply below_alloc | apply pw_below_drewN | apply below_drew1) | exact HB.out))) : w.heap.size ≤ gb153)); clear HB; have HB := n0_; have BK153 := n1_; have GW153 := n2_; have GE153 := n3_; clear n0_ n1_ n2_ n3_; clear hb hbox hg) | ((with_reducible refine gate_dst (N := 3) rfl ?_); refine box_event ?hg (N := 3) ?hd (cs := #[.int .i64 a1_0, .int .i64 a1_1, .bool a1_2]) (t := 104) ?hr ?_; (case hd => rfl); (case hg => rfl); (case hr => first | (go_simp; done) | (go_simp; rfl)); intro gb154 hg w22 hbox hb; have n0_ := Aside0.mk (blk_below (g := gb153) (o := .cells #[.int .i64 a0_0, .int .i64 a0_1, .bool a0_2] 104 (0, 0)) (by (with_reducible repeat (first | refine blk_drewN ?_ _ | refine blk_drew ?_ | refine blk_alloc ?_ _)); exact BK153.out) hb); have n1_ := Aside0.mk (below_step (by repeat (first | (with_reducible first | exact HB.out | apply below_alloc | apply pw_below_drewN | apply below_drew1 | refine below_set ?_ GE153.out) | exact HB.out)) hb); have n2_ := Aside0.mk (hbox); have n3_ := Aside0.mk ((by rw [hg]; exact (below_size (by repeat (first | (with_reducible first | exact HB.out | apply below_alloc | apply pw_below_drewN | apply below_drew1 | refine below_set ?_ GE153.out) | exact HB.out))) : w.heap.size ≤ gb154)); have n4_ := Aside0.mk ((by rw [hg]; exact (below_size (by repeat (first | (with_reducible first | exact HB.out | apply below_alloc | apply pw_below_drewN | apply below_drew1 | refine below_set ?_ GE153.out) | exact HB.out))) : w.heap.size ≤ gb154)); have n5_ := Aside0.mk ((by rw [hg]; exact Nat.ne_of_lt (blk_lt (g := gb153) (o := .cells #[.int .i64 a0_0, .int .i64 a0_1, .bool a0_2] 104 (0, 0)) (by (with_reducible repeat (first | refine blk_drewN ?_ _ | refine blk_drew ?_ | refine blk_alloc ?_ _)); exact BK153.out)) : gb153 ≠ gb154)); have n6_ := Aside0.mk ((by rw [hg]; exact Nat.ne_of_gt (blk_lt (g := gb153) (o := .cells #[.int .i64 a0_0, .int .i64 a0_1, .bool a0_2] 104 (0, 0)) (by (with_reducible repeat (first | refine blk_drewN ?_ _ | refine blk_drew ?_ | refine blk_alloc ?_ _)); exact BK153.out)) : gb154 ≠ gb153)); clear BK153; clear HB; have BK153 := n0_; have HB := n1_; have BK154 := n2_; have GW154 := n3_; have GE154 := n4_; have NB153_154 := n5_; have NB154_153 := n6_; clear n0_ n1_ n2_ n3_ n4_ n5_ n6_; clear hb hbox hg; have hnb23 := NB153_154.out; have hnc23 := NB154_153.out; have hcz24_0 : w22.cell? ⟨gb153, 0, none⟩ = some (.int .i64 a0_0) := (blk_cell BK153.out 0).trans rfl; have hcz24_1 : w22.cell? ⟨gb153, 1, none⟩ = some (.int .i64 a0_1) := (blk_cell BK153.out 1).trans rfl; have hcz24_2 : w22.cell? ⟨gb153, 2, none⟩ = some (.bool a0_2) := (blk_cell BK153.out 2).trans rfl; have hfz24_0 := blk_frozen BK153.out 0; have hfz24_1 := blk_frozen BK153.out 1; have hfz24_2 := blk_frozen BK153.out 2; have hcz25_0 : w22.cell? ⟨gb154, 0, none⟩ = some (.int .i64 a1_0) := (blk_cell BK154.out 0).trans rfl; have hcz25_1 : w22.cell? ⟨gb154, 1, none⟩ = some (.int .i64 a1_1) := (blk_cell BK154.out 1).trans rfl; have hcz25_2 : w22.cell? ⟨gb154, 2, none⟩ = some (.bool a1_2) := (blk_cell BK154.out 2).trans rfl; have hfz25_0 := blk_frozen BK154.out 0; have hfz25_1 := blk_frozen BK154.out 1; have hfz25_2 := blk_frozen BK154.out 2))
    go_ret
    exact ⟨by first | rfl | (simp [errW_none, errW_some] <;> rfl) | (simp [*, errW_none, errW_some] <;> rfl), by repeat (first | (with_reducible first | exact HB.out | apply below_alloc | apply pw_below_drewN | apply below_drew1 | refine below_set ?_ GE153.out | refine below_set ?_ GE154.out) | exact HB.out)⟩

/-! ### laws_eqHouseDropS: function 49 -/
def laws_eqHouseDropS.l0 : Nat → List (S104) → List (S104) → Int → Option (Bool)
  | 0, _, _, _ => none
  | k + 1, x0, x1, x5 => if x5 < (x0.length : Int) then (if 0 ≤ x5 then (if x5 < (x1.length : Int) then ((laws_eqHouseDrop.f ((rd_T104 x0 x5).f0) ((rd_T104 x0 x5).f1) ((rd_T104 x0 x5).f2) ((rd_T104 x1 x5).f0) ((rd_T104 x1 x5).f1) ((rd_T104 x1 x5).f2)).bind fun t157 => (if t157 = true then (laws_eqHouseDropS.l0 k x0 x1 (wrap64 (x5 + 1))) else (some false))) else (none)) else (none)) else (some true)
def laws_eqHouseDropS.f (k : Nat) (l0 : List (S104)) (l1 : List (S104)) : Option (Bool) := if (l0.length : Int) = (l1.length : Int) then (laws_eqHouseDropS.l0 k l0 l1 0) else (some false)
theorem laws_eqHouseDropS.mono_l : ∀ k, (∀ y0 y1 y2, LeO (laws_eqHouseDropS.l0 k y0 y1 y2) (laws_eqHouseDropS.l0 (k + 1) y0 y1 y2))
  | 0 => fun _ _ _ r h => by simp [laws_eqHouseDropS.l0] at h
  | k + 1 => by
    have ih0 := laws_eqHouseDropS.mono_l k
    · intro y0 y1 y2
      unfold laws_eqHouseDropS.l0
      repeat' first
      | (with_reducible exact ih0 _ _ _)
      | (with_reducible exact LeO.refl _)
      | (with_reducible exact LeO.none _)
      | (with_reducible refine LeO.ite ?_ ?_)
      | (with_reducible refine LeO.bind ?_ (fun _ => ?_))
      | exact ih0 _ _ _
      | exact LeO.none _
      | refine LeO.ite ?_ ?_
      | refine LeO.bind ?_ (fun _ => ?_)
theorem laws_eqHouseDropS.mono : ∀ a0 a1 k, LeO (laws_eqHouseDropS.f k a0 a1) (laws_eqHouseDropS.f (k + 1) a0 a1) := by
  intro a0 a1 k
  have ih0 := laws_eqHouseDropS.mono_l k
  unfold laws_eqHouseDropS.f
  repeat' first
      | (with_reducible exact ih0 _ _ _)
      | (with_reducible exact LeO.refl _)
      | (with_reducible exact LeO.none _)
      | (with_reducible refine LeO.ite ?_ ?_)
      | (with_reducible refine LeO.bind ?_ (fun _ => ?_))
      | exact ih0 _ _ _
      | exact LeO.none _
      | refine LeO.ite ?_ ?_
      | refine LeO.bind ?_ (fun _ => ?_)
def laws_eqHouseDropS.T6 : Bool × List (List Nat × List Nat) := (true, [([], []), ([], []), ([0, 1], [0, 1]), ([2], [2]), ([], []), ([], []), ([4, 5], [4, 5]), ([6], [6]), ([3, 7], [3, 7]), ([8], [8])])
def laws_eqHouseDropS.B6 : List Nat := [0, 0, 3, 7, 0, 0, 48, 112, 255, 511]
theorem laws_eqHouseDropS.tab6 : rtab .any (opsOf Try.f49 6) = laws_eqHouseDropS.T6 := by kernel_rfl
theorem laws_eqHouseDropS.bits6 : waitsOk laws_eqHouseDropS.T6.2 laws_eqHouseDropS.B6 = true := by kernel_rfl
set_option maxHeartbeats 8000000 in
set_option maxRecDepth 100000 in
theorem laws_eqHouseDropS.calls (k : Nat) (A0 : Option Addr) (c0 : Nat) (l0 : List (S104)) (A1 : Option Addr) (c1 : Nat) (l1 : List (S104)) (r : Bool) (w : World) (hr0 : Kd.C k104 w A0 l0.length l0) (hc0 : l0.length ≤ c0) (hr1 : Kd.C k104 w A1 l1.length l1) (hc1 : l1.length ≤ c1) (h : laws_eqHouseDropS.f k l0 l1 = some r) :
    Calls Try.prog 49 #[.slice A0 l0.length c0, .slice A1 l1.length c1] w fun e w' => e = .returned (.bool r) ∧ Below w.heap.size w w' := by
  have hu104 := Try.underlying104
  have HR0 := Aside0.mk hr0
  have HC0 := Aside0.mk hc0
  clear hr0 hc0
  have HR1 := Aside0.mk hr1
  have HC1 := Aside0.mk hc1
  clear hr1 hc1
  have HB := Aside0.mk (Below.refl w.heap.size w)
  have H : (if (l0.length : Int) = (l1.length : Int) then (laws_eqHouseDropS.l0 k l0 l1 0) else (some false)) = some r := h
  clear h
  by_cases c3 : (l0.length : Int) = (l1.length : Int)
  · rw [if_pos c3] at H
    have c3b0 : ((l0.length : Int) == (l1.length : Int)) = true := beq_iff_eq.mpr c3
    have c3b1 : ((l0.length : Int) != (l1.length : Int)) = false := bne_eq_false_iff_eq.mpr c3
    have c3b2 : (l0.length == l1.length) = true := by first | simpa using c3 | (simp at c3 ⊢; omega)
    clear c3
    have H' := Aside0.mk H
    clear H
    go_enter Try.func49, Try.ntmps49
    go_wp2
    go_loopg [5] k (fun kq v5 w' => ∃ (x5_1 : Int), v5 = .int .i64 x5_1 ∧ Aside0 (laws_eqHouseDropS.l0 kq l0 l1 x5_1 = some r) ∧ Aside0 (kq ≤ k) ∧ Aside0 (Below w.heap.size w w'))
    case atStart => exact ⟨(0), (by first | rfl | (simp; done) | (simp [*]; done)), H', ⟨Nat.le_refl _⟩, ⟨by repeat (first | (with_reducible first | exact HB.out | apply below_alloc | apply pw_below_drewN | apply below_drew1) | exact HB.out)⟩⟩
    case round =>
      clear H'
      try clear c1
      try clear p2
      try clear c3
      try clear c3b0
      try clear c3b1
      try clear c3b2
      obtain ⟨x5_1, rfl, HA, HK1, HB⟩ := hrel
      cases gk with
      | zero => exact absurd HA.out (by simp [laws_eqHouseDropS.l0])
      | succ k1 =>
        have H := HA.out
        clear HA
        simp only [laws_eqHouseDropS.l0] at H
        by_cases c4 : x5_1 < (l0.length : Int)
        · rw [if_pos c4] at H
          have c4b0 : decide (x5_1 < (l0.length : Int)) = true := decide_eq_true c4
          clear c4
          by_cases c5 : 0 ≤ x5_1
          · rw [if_pos c5] at H
            have c5b0 : decide (0 ≤ x5_1) = true := decide_eq_true c5
            clear c5
            by_cases c6 : x5_1 < (l1.length : Int)
            · rw [if_pos c6] at H
              have c6b0 : decide (x5_1 < (l1.length : Int)) = true := decide_eq_true c6
              clear c6
              replace H := Option.bind_eq_some_iff.mp H
              obtain ⟨t157, A70, H⟩ := H
              replace H : (if t157 = true then (laws_eqHouseDropS.l0 k1 l0 l1 (wrap64 (x5_1 + 1))) else (some false)) = some r := H
              have A7 := Aside0.mk A70
              clear A70
              by_cases c8 : t157 = true
              · subst c8
                have H1 : (laws_eqHouseDropS.l0 k1 l0 l1 (wrap64 (x5_1 + 1))) = some r := by rw [if_pos rfl] at H; exact H
                clear H
                have H := H1
                clear H1
                have H' := Aside0.mk H
                clear H
                try go_wp2
                have n0_ := Aside0.mk (below_drew1 HB.out)
                clear HB
                have HB := n0_
                clear n0_
                have p155 : 0 ≤ (x5_1 : Int) := of_decide_eq_true (by first | (with_reducible assumption) | assumption)
                have q155 : x5_1 < (l0.length : Int) := of_decide_eq_true (by first | (with_reducible assumption) | assumption)
                obtain ⟨ad155, e155, hx155_0, hx155_1, hx155_2⟩ := at_T104 HR0.out x5_1 p155 q155
                have hw155_2 := hx155_2
                have hw155_1 := hx155_1
                have hw155_0 := hx155_0
                cases e155
                replace hx155_0 := (HB.out.cell (World.block_lt_of_cell? w _ hx155_0)).trans hx155_0
                replace hx155_1 := (HB.out.cell (World.block_lt_of_cell? w _ hx155_1)).trans hx155_1
                replace hx155_2 := (HB.out.cell (World.block_lt_of_cell? w _ hx155_2)).trans hx155_2
                replace p155 := eq_true p155
                replace q155 := eq_true q155
                have p156 : 0 ≤ (x5_1 : Int) := of_decide_eq_true (by first | (with_reducible assumption) | assumption)
                have q156 : x5_1 < (l1.length : Int) := of_decide_eq_true (by first | (with_reducible assumption) | assumption)
                obtain ⟨ad156, e156, hx156_0, hx156_1, hx156_2⟩ := at_T104 HR1.out x5_1 p156 q156
                have hw156_2 := hx156_2
                have hw156_1 := hx156_1
                have hw156_0 := hx156_0
                cases e156
                replace hx156_0 := (HB.out.cell (World.block_lt_of_cell? w _ hx156_0)).trans hx156_0
                replace hx156_1 := (HB.out.cell (World.block_lt_of_cell? w _ hx156_1)).trans hx156_1
                replace hx156_2 := (HB.out.cell (World.block_lt_of_cell? w _ hx156_2)).trans hx156_2
                replace p156 := eq_true p156
                replace q156 := eq_true q156
                refine start_ (n := 10) (S := fun w' => w'.cell? (ad155.add ((x5_1).toNat * 3)) = some (.int .i64 ((rd_T104 l0 x5_1).f0)) ∧ w'.cell? ⟨(ad155.add ((x5_1).toNat * 3)).block, (ad155.add ((x5_1).toNat * 3)).off + 1, none⟩ = some (.int .i64 ((rd_T104 l0 x5_1).f1)) ∧ w'.cell? ⟨(ad155.add ((x5_1).toNat * 3)).block, (ad155.add ((x5_1).toNat * 3)).off + 2, none⟩ = some (.bool ((rd_T104 l0 x5_1).f2)) ∧ w'.cell? (ad156.add ((x5_1).toNat * 3)) = some (.int .i64 ((rd_T104 l1 x5_1).f0)) ∧ w'.cell? ⟨(ad156.add ((x5_1).toNat * 3)).block, (ad156.add ((x5_1).toNat * 3)).off + 1, none⟩ = some (.int .i64 ((rd_T104 l1 x5_1).f1)) ∧ w'.cell? ⟨(ad156.add ((x5_1).toNat * 3)).block, (ad156.add ((x5_1).toNat * 3)).off + 2, none⟩ = some (.bool ((rd_T104 l1 x5_1).f2))) (ds := []) #[false, false, false, false, false, false, false, false, false, false] (by kernel_rfl) rfl rfl ⟨((HB.out.cell (World.block_lt_of_cell? w _ hw155_0)).trans hw155_0), ((HB.out.cell (World.block_lt_of_cell? w _ hw155_1)).trans hw155_1), ((HB.out.cell (World.block_lt_of_cell? w _ hw155_2)).trans hw155_2), ((HB.out.cell (World.block_lt_of_cell? w _ hw156_0)).trans hw156_0), ((HB.out.cell (World.block_lt_of_cell? w _ hw156_1)).trans hw156_1), ((HB.out.cell (World.block_lt_of_cell? w _ hw156_2)).trans hw156_2)⟩ (fun hHeld => ?_); refine with_tabW laws_eqHouseDropS.tab6 laws_eqHouseDropS.bits6 (fun HT_ HW_ => ?_)
                generalize wr.drew = w9 at HB hx155_0 hx155_1 hx155_2 hx156_0 hx156_1 hx156_2 hHeld ⊢
                refine pure_ (i := 0) (N := some 17) (v := ?_) (a' := ?_) #[true, false, false, false, false, false, false, false, false, false] rfl rfl (any_of HT_.out (by kernel_rfl)) (fun _ _ _ h => h) (Or.inl ⟨by rfl, ?_⟩) ?_ ?_
                rotate_left
                · intro w'
                  go_simp
                  with_reducible rfl
                rotate_left
                · simp only [Act.put, List.setIfInBounds_toArray, List.set_cons_zero, List.set_cons_succ, i64_w, i32_w]
                  rfl
                refine pure_ (i := 1) (N := some 18) (v := ?_) (a' := ?_) #[true, true, false, false, false, false, false, false, false, false] rfl rfl (any_of HT_.out (by kernel_rfl)) (fun _ _ _ h => h) (Or.inl ⟨by rfl, ?_⟩) ?_ ?_
                rotate_left
                · intro w'
                  go_simp
                  with_reducible rfl
                rotate_left
                · simp only [Act.put, List.setIfInBounds_toArray, List.set_cons_zero, List.set_cons_succ, i64_w, i32_w]
                  rfl
                refine pure_ (i := 2) (N := some 19) (v := ?_) (a' := ?_) #[true, true, true, false, false, false, false, false, false, false] rfl rfl (any_of HT_.out (by kernel_rfl)) (fun _ _ _ h => h) (Or.inl ⟨by rfl, ?_⟩) ?_ ?_
                rotate_left
                · intro w'
                  go_simp
                  with_reducible rfl
                rotate_left
                · simp only [Act.put, List.setIfInBounds_toArray, List.set_cons_zero, List.set_cons_succ, i64_w, i32_w]
                  rfl
                refine pure_ (i := 4) (N := some 21) (v := ?_) (a' := ?_) #[true, true, true, false, true, false, false, false, false, false] rfl rfl (any_of HT_.out (by kernel_rfl)) (fun _ _ _ h => h) (Or.inl ⟨by rfl, ?_⟩) ?_ ?_
                rotate_left
                · intro w'
                  go_simp
                  with_reducible rfl
                rotate_left
                · simp only [Act.put, List.setIfInBounds_toArray, List.set_cons_zero, List.set_cons_succ, i64_w, i32_w]
                  rfl
                refine pure_ (i := 5) (N := some 22) (v := ?_) (a' := ?_) #[true, true, true, false, true, true, false, false, false, false] rfl rfl (any_of HT_.out (by kernel_rfl)) (fun _ _ _ h => h) (Or.inl ⟨by rfl, ?_⟩) ?_ ?_
                rotate_left
                · intro w'
                  go_simp
                  with_reducible rfl
                rotate_left
                · simp only [Act.put, List.setIfInBounds_toArray, List.set_cons_zero, List.set_cons_succ, i64_w, i32_w]
                  rfl
                refine pure_ (i := 6) (N := some 23) (v := ?_) (a' := ?_) #[true, true, true, false, true, true, true, false, false, false] rfl rfl (any_of HT_.out (by kernel_rfl)) (fun _ _ _ h => h) (Or.inl ⟨by rfl, ?_⟩) ?_ ?_
                rotate_left
                · intro w'
                  go_simp
                  with_reducible rfl
                rotate_left
                · simp only [Act.put, List.setIfInBounds_toArray, List.set_cons_zero, List.set_cons_succ, i64_w, i32_w]
                  rfl
                refine take_ (i := 3) (N := some 20) (v := ?_) (a' := ?_) #[true, true, true, true, true, true, true, false, false, false] rfl rfl (take_ofW HT_.out HW_.out (by kernel_rfl)) (fun _ _ _ h => h) (Or.inl ⟨by rfl, ?_⟩) hHeld ?_ ?_
                rotate_left
                · rintro w' ⟨s0, s1, s2, s3, s4, s5⟩
                  go_simp
                  with_reducible rfl
                rotate_left
                · simp only [Act.put, List.setIfInBounds_toArray, List.set_cons_zero, List.set_cons_succ, i64_w, i32_w]
                  rfl
                refine take_ (i := 7) (N := some 24) (v := ?_) (a' := ?_) #[true, true, true, true, true, true, true, true, false, false] rfl rfl (take_ofW HT_.out HW_.out (by kernel_rfl)) (fun _ _ _ h => h) (Or.inl ⟨by rfl, ?_⟩) hHeld ?_ ?_
                rotate_left
                · rintro w' ⟨s0, s1, s2, s3, s4, s5⟩
                  go_simp
                  with_reducible rfl
                rotate_left
                · simp only [Act.put, List.setIfInBounds_toArray, List.set_cons_zero, List.set_cons_succ, i64_w, i32_w]
                  rfl
                refine one_ (i := 8) (N := some 25) #[true, true, true, true, true, true, true, true, true, false] rfl rfl (one_of HT_.out (by kernel_rfl)) (by decide) (fun K hK => ?_)
                refine goes_ Try.func92 (by kernel_rfl) rfl #[.agg #[.int .i64 ((rd_T104 l0 x5_1).f0), .int .i64 ((rd_T104 l0 x5_1).f1), .bool ((rd_T104 l0 x5_1).f2)], .agg #[.int .i64 ((rd_T104 l1 x5_1).f0), .int .i64 ((rd_T104 l1 x5_1).f1), .bool ((rd_T104 l1 x5_1).f2)]] (by rfl) rfl rfl (by (try simp only [List.map_toArray, List.map_cons, List.map_nil]); first | done | rfl | (simp only [List.length_drop, List.length_take]; rfl)) ?_
                with_reducible refine (laws_eqHouseDrop.calls ((rd_T104 l0 x5_1).f0) ((rd_T104 l0 x5_1).f1) ((rd_T104 l0 x5_1).f2) ((rd_T104 l1 x5_1).f0) ((rd_T104 l1 x5_1).f1) ((rd_T104 l1 x5_1).f2) true _ A7.out).mono ?_
                rintro e w10 ⟨rfl, hb⟩
                refine ⟨_, rfl, ?_⟩
                have n0_ := Aside0.mk (below_step (by repeat (first | (with_reducible first | exact HB.out | apply below_alloc | apply pw_below_drewN | apply below_drew1) | exact HB.out)) hb)
                clear HB
                have HB := n0_
                clear n0_
                (try clear hb)
                (try clear hb2)
                (try clear hk)
                (try clear hi)
                refine hK.out _ _ ⟨((HB.out.cell (World.block_lt_of_cell? w _ hw155_0)).trans hw155_0), ((HB.out.cell (World.block_lt_of_cell? w _ hw155_1)).trans hw155_1), ((HB.out.cell (World.block_lt_of_cell? w _ hw155_2)).trans hw155_2), ((HB.out.cell (World.block_lt_of_cell? w _ hw156_0)).trans hw156_0), ((HB.out.cell (World.block_lt_of_cell? w _ hw156_1)).trans hw156_1), ((HB.out.cell (World.block_lt_of_cell? w _ hw156_2)).trans hw156_2)⟩ (fun hHeld => ?_)
                clear hK K
                refine norm_ (a' := ?_) ?_ ?_
                rotate_left
                · show Act.put _ (some 25) _ = _
                  simp only [Act.put, List.setIfInBounds_toArray, List.set_cons_zero, List.set_cons_succ, i64_w, i32_w]
                  rfl
                refine pure_ (i := 9) (N := some 26) (v := ?_) (a' := ?_) #[true, true, true, true, true, true, true, true, true, true] rfl rfl (any_of HT_.out (by kernel_rfl)) (fun _ _ _ h => h) (Or.inl ⟨by rfl, ?_⟩) ?_ ?_
                rotate_left
                · intro w'
                  go_simp
                  with_reducible rfl
                rotate_left
                · simp only [Act.put, List.setIfInBounds_toArray, List.set_cons_zero, List.set_cons_succ, i64_w, i32_w]
                  rfl
                refine done_ (done_of HT_.out (by kernel_rfl)) ?_
                try go_wp2
                go_roundg k1
                case measure => have := HK1.out; omega
                case rel => exact ⟨(wrap64 (x5_1 + 1)), (by first | rfl | (simp; done) | (simp [*]; done)), H', ⟨by have := HK1.out; omega⟩, ⟨by repeat (first | (with_reducible first | exact HB.out | apply below_alloc | apply pw_below_drewN | apply below_drew1) | exact HB.out)⟩⟩
              · replace c8 := Bool.eq_false_iff.mpr c8
                subst c8
                have H1 : (some false) = some r := by rw [if_neg (show ¬ (false = true) by decide)] at H; exact H
                clear H
                have H := H1
                clear H1
                obtain rfl := Option.some.inj H
                try go_wp2
                have n0_ := Aside0.mk (below_drew1 HB.out)
                clear HB
                have HB := n0_
                clear n0_
                have p155 : 0 ≤ (x5_1 : Int) := of_decide_eq_true (by first | (with_reducible assumption) | assumption)
                have q155 : x5_1 < (l0.length : Int) := of_decide_eq_true (by first | (with_reducible assumption) | assumption)
                obtain ⟨ad155, e155, hx155_0, hx155_1, hx155_2⟩ := at_T104 HR0.out x5_1 p155 q155
                have hw155_2 := hx155_2
                have hw155_1 := hx155_1
                have hw155_0 := hx155_0
                cases e155
                replace hx155_0 := (HB.out.cell (World.block_lt_of_cell? w _ hx155_0)).trans hx155_0
                replace hx155_1 := (HB.out.cell (World.block_lt_of_cell? w _ hx155_1)).trans hx155_1
                replace hx155_2 := (HB.out.cell (World.block_lt_of_cell? w _ hx155_2)).trans hx155_2
                replace p155 := eq_true p155
                replace q155 := eq_true q155
                have p156 : 0 ≤ (x5_1 : Int) := of_decide_eq_true (by first | (with_reducible assumption) | assumption)
                have q156 : x5_1 < (l1.length : Int) := of_decide_eq_true (by first | (with_reducible assumption) | assumption)
                obtain ⟨ad156, e156, hx156_0, hx156_1, hx156_2⟩ := at_T104 HR1.out x5_1 p156 q156
                have hw156_2 := hx156_2
                have hw156_1 := hx156_1
                have hw156_0 := hx156_0
                cases e156
                replace hx156_0 := (HB.out.cell (World.block_lt_of_cell? w _ hx156_0)).trans hx156_0
                replace hx156_1 := (HB.out.cell (World.block_lt_of_cell? w _ hx156_1)).trans hx156_1
                replace hx156_2 := (HB.out.cell (World.block_lt_of_cell? w _ hx156_2)).trans hx156_2
                replace p156 := eq_true p156
                replace q156 := eq_true q156
                refine start_ (n := 10) (S := fun w' => w'.cell? (ad155.add ((x5_1).toNat * 3)) = some (.int .i64 ((rd_T104 l0 x5_1).f0)) ∧ w'.cell? ⟨(ad155.add ((x5_1).toNat * 3)).block, (ad155.add ((x5_1).toNat * 3)).off + 1, none⟩ = some (.int .i64 ((rd_T104 l0 x5_1).f1)) ∧ w'.cell? ⟨(ad155.add ((x5_1).toNat * 3)).block, (ad155.add ((x5_1).toNat * 3)).off + 2, none⟩ = some (.bool ((rd_T104 l0 x5_1).f2)) ∧ w'.cell? (ad156.add ((x5_1).toNat * 3)) = some (.int .i64 ((rd_T104 l1 x5_1).f0)) ∧ w'.cell? ⟨(ad156.add ((x5_1).toNat * 3)).block, (ad156.add ((x5_1).toNat * 3)).off + 1, none⟩ = some (.int .i64 ((rd_T104 l1 x5_1).f1)) ∧ w'.cell? ⟨(ad156.add ((x5_1).toNat * 3)).block, (ad156.add ((x5_1).toNat * 3)).off + 2, none⟩ = some (.bool ((rd_T104 l1 x5_1).f2))) (ds := []) #[false, false, false, false, false, false, false, false, false, false] (by kernel_rfl) rfl rfl ⟨((HB.out.cell (World.block_lt_of_cell? w _ hw155_0)).trans hw155_0), ((HB.out.cell (World.block_lt_of_cell? w _ hw155_1)).trans hw155_1), ((HB.out.cell (World.block_lt_of_cell? w _ hw155_2)).trans hw155_2), ((HB.out.cell (World.block_lt_of_cell? w _ hw156_0)).trans hw156_0), ((HB.out.cell (World.block_lt_of_cell? w _ hw156_1)).trans hw156_1), ((HB.out.cell (World.block_lt_of_cell? w _ hw156_2)).trans hw156_2)⟩ (fun hHeld => ?_); refine with_tabW laws_eqHouseDropS.tab6 laws_eqHouseDropS.bits6 (fun HT_ HW_ => ?_)
                generalize wr.drew = w11 at HB hx155_0 hx155_1 hx155_2 hx156_0 hx156_1 hx156_2 hHeld ⊢
                refine pure_ (i := 0) (N := some 17) (v := ?_) (a' := ?_) #[true, false, false, false, false, false, false, false, false, false] rfl rfl (any_of HT_.out (by kernel_rfl)) (fun _ _ _ h => h) (Or.inl ⟨by rfl, ?_⟩) ?_ ?_
                rotate_left
                · intro w'
                  go_simp
                  with_reducible rfl
                rotate_left
                · simp only [Act.put, List.setIfInBounds_toArray, List.set_cons_zero, List.set_cons_succ, i64_w, i32_w]
                  rfl
                refine pure_ (i := 1) (N := some 18) (v := ?_) (a' := ?_) #[true, true, false, false, false, false, false, false, false, false] rfl rfl (any_of HT_.out (by kernel_rfl)) (fun _ _ _ h => h) (Or.inl ⟨by rfl, ?_⟩) ?_ ?_
                rotate_left
                · intro w'
                  go_simp
                  with_reducible rfl
                rotate_left
                · simp only [Act.put, List.setIfInBounds_toArray, List.set_cons_zero, List.set_cons_succ, i64_w, i32_w]
                  rfl
                refine pure_ (i := 2) (N := some 19) (v := ?_) (a' := ?_) #[true, true, true, false, false, false, false, false, false, false] rfl rfl (any_of HT_.out (by kernel_rfl)) (fun _ _ _ h => h) (Or.inl ⟨by rfl, ?_⟩) ?_ ?_
                rotate_left
                · intro w'
                  go_simp
                  with_reducible rfl
                rotate_left
                · simp only [Act.put, List.setIfInBounds_toArray, List.set_cons_zero, List.set_cons_succ, i64_w, i32_w]
                  rfl
                refine pure_ (i := 4) (N := some 21) (v := ?_) (a' := ?_) #[true, true, true, false, true, false, false, false, false, false] rfl rfl (any_of HT_.out (by kernel_rfl)) (fun _ _ _ h => h) (Or.inl ⟨by rfl, ?_⟩) ?_ ?_
                rotate_left
                · intro w'
                  go_simp
                  with_reducible rfl
                rotate_left
                · simp only [Act.put, List.setIfInBounds_toArray, List.set_cons_zero, List.set_cons_succ, i64_w, i32_w]
                  rfl
                refine pure_ (i := 5) (N := some 22) (v := ?_) (a' := ?_) #[true, true, true, false, true, true, false, false, false, false] rfl rfl (any_of HT_.out (by kernel_rfl)) (fun _ _ _ h => h) (Or.inl ⟨by rfl, ?_⟩) ?_ ?_
                rotate_left
                · intro w'
                  go_simp
                  with_reducible rfl
                rotate_left
                · simp only [Act.put, List.setIfInBounds_toArray, List.set_cons_zero, List.set_cons_succ, i64_w, i32_w]
                  rfl
                refine pure_ (i := 6) (N := some 23) (v := ?_) (a' := ?_) #[true, true, true, false, true, true, true, false, false, false] rfl rfl (any_of HT_.out (by kernel_rfl)) (fun _ _ _ h => h) (Or.inl ⟨by rfl, ?_⟩) ?_ ?_
                rotate_left
                · intro w'
                  go_simp
                  with_reducible rfl
                rotate_left
                · simp only [Act.put, List.setIfInBounds_toArray, List.set_cons_zero, List.set_cons_succ, i64_w, i32_w]
                  rfl
                refine take_ (i := 3) (N := some 20) (v := ?_) (a' := ?_) #[true, true, true, true, true, true, true, false, false, false] rfl rfl (take_ofW HT_.out HW_.out (by kernel_rfl)) (fun _ _ _ h => h) (Or.inl ⟨by rfl, ?_⟩) hHeld ?_ ?_
                rotate_left
                · rintro w' ⟨s0, s1, s2, s3, s4, s5⟩
                  go_simp
                  with_reducible rfl
                rotate_left
                · simp only [Act.put, List.setIfInBounds_toArray, List.set_cons_zero, List.set_cons_succ, i64_w, i32_w]
                  rfl
                refine take_ (i := 7) (N := some 24) (v := ?_) (a' := ?_) #[true, true, true, true, true, true, true, true, false, false] rfl rfl (take_ofW HT_.out HW_.out (by kernel_rfl)) (fun _ _ _ h => h) (Or.inl ⟨by rfl, ?_⟩) hHeld ?_ ?_
                rotate_left
                · rintro w' ⟨s0, s1, s2, s3, s4, s5⟩
                  go_simp
                  with_reducible rfl
                rotate_left
                · simp only [Act.put, List.setIfInBounds_toArray, List.set_cons_zero, List.set_cons_succ, i64_w, i32_w]
                  rfl
                refine one_ (i := 8) (N := some 25) #[true, true, true, true, true, true, true, true, true, false] rfl rfl (one_of HT_.out (by kernel_rfl)) (by decide) (fun K hK => ?_)
                refine goes_ Try.func92 (by kernel_rfl) rfl #[.agg #[.int .i64 ((rd_T104 l0 x5_1).f0), .int .i64 ((rd_T104 l0 x5_1).f1), .bool ((rd_T104 l0 x5_1).f2)], .agg #[.int .i64 ((rd_T104 l1 x5_1).f0), .int .i64 ((rd_T104 l1 x5_1).f1), .bool ((rd_T104 l1 x5_1).f2)]] (by rfl) rfl rfl (by (try simp only [List.map_toArray, List.map_cons, List.map_nil]); first | done | rfl | (simp only [List.length_drop, List.length_take]; rfl)) ?_
                with_reducible refine (laws_eqHouseDrop.calls ((rd_T104 l0 x5_1).f0) ((rd_T104 l0 x5_1).f1) ((rd_T104 l0 x5_1).f2) ((rd_T104 l1 x5_1).f0) ((rd_T104 l1 x5_1).f1) ((rd_T104 l1 x5_1).f2) false _ A7.out).mono ?_
                rintro e w12 ⟨rfl, hb⟩
                refine ⟨_, rfl, ?_⟩
                have n0_ := Aside0.mk (below_step (by repeat (first | (with_reducible first | exact HB.out | apply below_alloc | apply pw_below_drewN | apply below_drew1) | exact HB.out)) hb)
                clear HB
                have HB := n0_
                clear n0_
                (try clear hb)
                (try clear hb2)
                (try clear hk)
                (try clear hi)
                refine hK.out _ _ ⟨((HB.out.cell (World.block_lt_of_cell? w _ hw155_0)).trans hw155_0), ((HB.out.cell (World.block_lt_of_cell? w _ hw155_1)).trans hw155_1), ((HB.out.cell (World.block_lt_of_cell? w _ hw155_2)).trans hw155_2), ((HB.out.cell (World.block_lt_of_cell? w _ hw156_0)).trans hw156_0), ((HB.out.cell (World.block_lt_of_cell? w _ hw156_1)).trans hw156_1), ((HB.out.cell (World.block_lt_of_cell? w _ hw156_2)).trans hw156_2)⟩ (fun hHeld => ?_)
                clear hK K
                refine norm_ (a' := ?_) ?_ ?_
                rotate_left
                · show Act.put _ (some 25) _ = _
                  simp only [Act.put, List.setIfInBounds_toArray, List.set_cons_zero, List.set_cons_succ, i64_w, i32_w]
                  rfl
                refine pure_ (i := 9) (N := some 26) (v := ?_) (a' := ?_) #[true, true, true, true, true, true, true, true, true, true] rfl rfl (any_of HT_.out (by kernel_rfl)) (fun _ _ _ h => h) (Or.inl ⟨by rfl, ?_⟩) ?_ ?_
                rotate_left
                · intro w'
                  go_simp
                  with_reducible rfl
                rotate_left
                · simp only [Act.put, List.setIfInBounds_toArray, List.set_cons_zero, List.set_cons_succ, i64_w, i32_w]
                  rfl
                refine done_ (done_of HT_.out (by kernel_rfl)) ?_
                try go_wp2
                go_ret
                exact ⟨by first | rfl | (simp [errW_none, errW_some] <;> rfl) | (simp [*, errW_none, errW_some] <;> rfl), by repeat (first | (with_reducible first | exact HB.out | apply below_alloc | apply pw_below_drewN | apply below_drew1) | exact HB.out)⟩
            · rw [if_neg c6] at H
              exact absurd H (by simp)
          · rw [if_neg c5] at H
            exact absurd H (by simp)
        · rw [if_neg c4] at H
          have c4b0 : decide (x5_1 < (l0.length : Int)) = false := decide_eq_false c4
          clear c4
          obtain rfl := Option.some.inj H
          go_wp2
          go_ret
          exact ⟨by first | rfl | (simp [errW_none, errW_some] <;> rfl) | (simp [*, errW_none, errW_some] <;> rfl), by repeat (first | (with_reducible first | exact HB.out | apply below_alloc | apply pw_below_drewN | apply below_drew1) | exact HB.out)⟩
  · rw [if_neg c3] at H
    have c3b0 : ((l0.length : Int) == (l1.length : Int)) = false := beq_eq_false_iff_ne.mpr c3
    have c3b1 : ((l0.length : Int) != (l1.length : Int)) = true := bne_iff_ne.mpr c3
    have c3b2 : (l0.length == l1.length) = false := by first | simpa using c3 | (simp at c3 ⊢; omega)
    obtain rfl := Option.some.inj H
    go_enter Try.func49, Try.ntmps49
    go_wp2
    go_ret
    exact ⟨by first | rfl | (simp [errW_none, errW_some] <;> rfl) | (simp [*, errW_none, errW_some] <;> rfl), by repeat (first | (with_reducible first | exact HB.out | apply below_alloc | apply pw_below_drewN | apply below_drew1) | exact HB.out)⟩

end Go.Proofs.Ytoomacelbhojhaa.A
