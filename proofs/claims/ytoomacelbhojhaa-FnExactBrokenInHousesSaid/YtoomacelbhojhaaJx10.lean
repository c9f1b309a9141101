/- Plain Lean functions with the answers of Go functions, and proofs of it: printed by a program of this session (pr.py) over the kit's print, with hand-written parts. -/
import Derived.Test.YtoomacelbhojhaaJx0
import Derived.Test.YtoomacelbhojhaaJx2
import Derived.Test.YtoomacelbhojhaaJx4
import Derived.Test.YtoomacelbhojhaaJx5
import Derived.Test.YtoomacelbhojhaaJx6
import Derived.Test.YtoomacelbhojhaaJx7
import Derived.Test.YtoomacelbhojhaaJx9
namespace Go.Proofs.Ytoomacelbhojhaa.J
open Go.RowKit Go.Proofs.YtoomacelbhojhaaW.PrintWords Go.Proofs.YtoomacelbhojhaaW.PrintLast Go.Proofs.YtoomacelbhojhaaW.PrintMore
attribute [local go_sem] max2_int min2_int max_two min_two max_three min_three max_four min_four   -- for this text's walks alone
set_option linter.unusedVariables false
set_option linter.unusedSimpArgs false

-- FOR spec.hoPlay
-- CALLS spec.hoDrops ; (impl.houser).play ; spec.hoNeeded ; spec.l1Own
-- USES kd impl.HouseDrop
-- USES info impl.HouseDrop
/-- A row of whole numbers of one's own, at a known block. -/
def Own (w : World) (g n c : Nat) (xs : List Int) : Prop := Kd.R (Kd.int .i64) 3 w 0 (fun k_ => k_ = g) (.slice (some ⟨g, 0, none⟩) n c) xs
theorem Own.len {w : World} {g n c : Nat} {xs : List Int} (h : Own w g n c xs) : xs.length = n := (Kd.R_reads' h).1.symm
theorem Own.cap {w : World} {g n c : Nat} {xs : List Int} (h : Own w g n c xs) : n ≤ c := (Kd.R_reads' h).2.1
theorem Own.below {w w' : World} {g n c : Nat} {xs : List Int} (h : Own w g n c xs) (hb : Below w.heap.size w w') : Own w' g n c xs := Kd.R_below h hb
theorem Own.grown {w w' : World} {g n c : Nat} {xs : List Int} {o : Option Nat} (h : Own w g n c xs) (hg : w.grownBy w' o) (ho : some g ≠ o) : Own w' g n c xs := Kd.R_grown h hg (fun k hk => by subst hk; exact ho)
theorem Own.far {w : World} {g n c g' i : Nat} {u : Value} {xs : List Int} (h : Own w g n c xs) (hne : g ≠ g') : Own (w.setCell ⟨g', i, none⟩ u) g n c xs := Kd.R_far h (fun k hk => by subst hk; exact hne) _
theorem Own.lt {w : World} {g n c : Nat} {xs : List Int} (h : Own w g n c xs) (hn : 0 < n) : g < w.heap.size := by
  have hl := h.len
  obtain ⟨g', cap, e, _, h2, _⟩ := Kd.R_form h (by omega)
  injection e with e1
  injection e1 with e2
  injection e2 with e3
  omega
theorem Own.look {w : World} {g n c : Nat} {xs : List Int} (h : Own w g n c xs) {i : Nat} (hi : i < n) : w.cell? ⟨g, i, none⟩ = some (.int .i64 (xs.getD i 0)) ∧ w.frozen? ⟨g, i, none⟩ = false := by
  have hl := h.len
  obtain ⟨c1, c2⟩ := Kd.R_celln 0 h (i : Int) (by omega) (by omega)
  simp only [Int.toNat_natCast] at c1 c2
  exact ⟨c1, c2⟩
theorem Own.put {w : World} {g n c : Nat} {xs : List Int} (h : Own w g n c xs) (i : Nat) (x : Int) : Own (w.setCell ⟨g, i, none⟩ (.int .i64 x)) g n c (xs.set i x) := by
  have h3 := Kd.R_putg h (i : Int) x
  simp only [Int.toNat_natCast] at h3
  exact h3.1
theorem Own.lst {w : World} {g n c tb : Nat} {xs : List Int} (h : Own w g n c xs) (hne : g ≠ tb) : Lst w tb (some ⟨g, 0, none⟩) xs := by
  have h2 := Kd.R_reads' h
  have h3 := h2.2.2
  exact ⟨h3, fun ad ha => by injection ha with ha; subst ha; exact hne⟩
theorem own_of {w : World} {b n : Nat} {v : Value} {xs : List Int} (h : Kd.R (Kd.int .i64) 3 w b (fun _ => True) v xs) (hn : xs.length = n) (hp : 0 < n) : ∃ g c : Nat, v = .slice (some ⟨g, 0, none⟩) n c ∧ Own w g n c xs ∧ b ≤ g := by
  obtain ⟨g, cap, e, h1, h2, _⟩ := Kd.R_form h (by omega)
  rw [hn] at e
  subst e
  refine ⟨g, cap, rfl, ?_, h1⟩
  obtain ⟨h0, inner, ho, hr⟩ := Kd.R_lower h (Nat.zero_le b)
  exact ⟨fun k hk => by simpa [Value.ownBlock] using hk.symm, inner, ho, hr⟩
theorem upd_get (m : List Int) {h : Nat} (hh : h < m.length) (x : Int) : upd (fun i => m.getD i 0) h x = fun i => (m.set h x).getD i 0 := by
  funext i
  show (if i = h then x else m.getD i 0) = (m.set h x).getD i 0
  rw [List.getD_eq_getElem?_getD, List.getD_eq_getElem?_getD, List.getElem?_set]
  by_cases e : h = i
  · subst e
    rw [if_pos rfl, if_pos rfl, if_pos hh]
    rfl
  · rw [if_neg (fun h_ => e h_.symm), if_neg e]
theorem rep_get (n : Nat) : (fun i => (List.replicate n (0 : Int)).getD i 0) = fun _ => 0 := by
  funext i
  rw [List.getD_eq_getElem?_getD, List.getElem?_replicate]
  split <;> rfl

set_option maxHeartbeats 80000000 in
set_option maxRecDepth 100000 in
theorem shplay_of (tb c0 : Nat) (e : Int) (l bs : List Int) (hl : LGood l) (he : 0 ≤ e ∧ e ≤ 6) (hv : PGood bs.length (vOf e l) (fun _ => 0)) (hbl : bs.length = l.length) (r : List S104) (hr : r = hPlay bs (vOf e l).ms (vOf e l) (fun _ => 0)) (A : Option Addr) (c : Nat) (hc : l.length ≤ c) (A2 : Option Addr) (c2 : Nat) (hc2 : bs.length ≤ c2) (w : World) (hL : Lst w tb A l) (hL2 : Lst w tb A2 bs) (hT : HTab w tb c0) :
    Calls Try.prog 89 #[.slice (some ⟨tb, 0, none⟩) 5103 c0, .int .i64 e, .slice A l.length c, .slice A2 bs.length c2] w fun e_ w' => ∃ v_ : Value, e_ = .returned v_ ∧ Kd.R k104 104 w' w.heap.size (fun _ => True) v_ r ∧ HTab w' tb c0 ∧ w.grownBy w' (some tb) := by
  have HT := Aside0.mk hT
  have HG := Aside0.mk (Hx.g_refl w (some tb))
  obtain ⟨ad, rfl, hx00⟩ := Lst.look hL2 (show 0 < bs.length by have := hl.1; omega)
  have HAL := Aside0.mk (Kd.C_lt hL2.1 (show 0 < bs.length by have := hl.1; omega) (by decide))
  have LS := Aside0.mk hL2
  have LA := Aside0.mk hL
  have ORD : Aside0 (tb < w.heap.size ∧ ad.block < w.heap.size) := ⟨⟨hT.lt, HAL.out⟩⟩
  have HP := Aside0.mk hv
  have HMS : Aside0 ((vOf e l).ms ≤ 24) := ⟨by have := hv.1; unfold VGood at this; unfold VS.ms; omega⟩
  have HR_ := Aside0.mk hr
  have HOW : Aside0 (∀ W, Lst W tb A l → Calls Try.prog 126 #[.slice A l.length c] W fun e w' => ∃ v0_ : Value, e = .returned (v0_) ∧ Kd.R (Kd.int .i64) 3 w' W.heap.size (fun _ => True) v0_ l ∧ Below W.heap.size W w') := ⟨fun W hW => spec_l1Own.calls A c l l W hW.1 hc (own_is hl.2.1)⟩
  have HLG := Aside0.mk hl
  have HBL := Aside0.mk hbl
  obtain ⟨N, hN⟩ : ∃ N, N = l.length := ⟨_, rfl⟩
  have HN0 : Aside0 (0 < N) := ⟨by have := hl.1; omega⟩
  have HN3 : Aside0 (N ≤ 3) := ⟨by have := hl.2.1; omega⟩
  rw [← hN] at HOW ⊢
  have HNL := Aside0.mk hN
  have hn0_ : (0 : Int) ≤ (N : Int) := by omega
  have wn_ : IntKind.i64.wrap (N : Int) = (N : Int) := Hw.wrap_w (by omega) (by have := HN3.out; omega)
  clear hT hL hL2 hx00 hv hc hr hl he hbl hc2 hN
  go_enter Try.func89, Try.ntmps89
  go_upto_region 3 with (first | ((with_reducible refine gate_dst (N := 18) rfl ?_); refine Kd.R_make (Kd.int .i64) _ 3 rfl (N := 18) rfl 46 _ _ rfl (N : Int) rfl rfl Try.underlying46 (.int .i64 0) 8 info3 rfl (by decide) (by omega) 0 (ok := fun _ => True) (okp := fun _ => True) rfl (fun _ hk => hk) trivial (by omega) (by have := HN3.out; omega) (Below.refl _ _) (Nat.le_refl _) ?_; intro v_ w_1 ho_ hb_ hg_ hn_; clear hg_ hn_; rw [Int.toNat_natCast] at ho_; obtain ⟨gM, cM, rfl, om_, bm_⟩ := own_of ho_ (List.length_replicate) HN0.out; have ORD_ : Aside0 ((tb < w.heap.size ∧ ad.block < w.heap.size) ∧ w.heap.size ≤ gM) := ⟨by refine ⟨ORD.out, ?_⟩; have := HT.out.lt; have := HG.out.size; omega⟩; clear ORD; have ORD := ORD_; clear ORD_; have n0_ : Aside0 (HTab w_1 tb c0) := ⟨HTab.below (w := _) (by exact HT.out) hb_⟩; have n1_ : Aside0 (w.grownBy w_1 (some tb)) := ⟨Hx.g_below (by first | exact HG.out | exact Hx.g_drew HG.out | exact Hx.g_drewN HG.out _) hb_⟩; have n2_ : Aside0 (Lst w_1 tb (some ad) bs) := ⟨Lst.below (w := _) (by exact LS.out) hb_⟩; have n3_ : Aside0 (Lst w_1 tb A l) := ⟨Lst.below (w := _) (by exact LA.out) hb_⟩; have m0_ : Aside0 (Own w_1 gM N cM (List.replicate N 0)) := ⟨om_⟩; (try clear HT); (try clear HG); (try clear LS); (try clear LA); have HT := n0_; have HG := n1_; have LS := n2_; have LA := n3_; have OM := m0_; clear n0_ n1_ n2_ n3_ m0_; clear ho_ hb_ om_ bm_) | ((with_reducible refine gate_callee (f := 126) rfl ?_); refine goesL_ (some 20) rfl rfl Try.func126 (by kernel_rfl) rfl #[.slice A N c] rfl (by (try simp only [List.map_toArray, List.map_cons, List.map_nil]); first | done | rfl) ?_; refine (HOW.out w_1 LA.out).mono ?_; rintro e_ w_2 ⟨v_, rfl, hr_, hb_⟩; refine ⟨_, rfl, ?_⟩; obtain ⟨gL, cL, rfl, ol_, bl_⟩ := own_of hr_ HNL.out.symm HN0.out; have ORD_ : Aside0 (((tb < w.heap.size ∧ ad.block < w.heap.size) ∧ w.heap.size ≤ gM) ∧ w.heap.size ≤ gL ∧ gM < gL) := ⟨by refine ⟨ORD.out, ?_⟩; have := HT.out.lt; have := HG.out.size; have := Own.lt OM.out HN0.out; omega⟩; clear ORD; have ORD := ORD_; clear ORD_; have n0_ : Aside0 (HTab w_2 tb c0) := ⟨HTab.below (w := _) (by exact HT.out) hb_⟩; have n1_ : Aside0 (w.grownBy w_2 (some tb)) := ⟨Hx.g_below (by first | exact HG.out | exact Hx.g_drew HG.out | exact Hx.g_drewN HG.out _) hb_⟩; have n2_ : Aside0 (Lst w_2 tb (some ad) bs) := ⟨Lst.below (w := _) (by exact LS.out) hb_⟩; have n3_ : Aside0 (Lst w_2 tb A l) := ⟨Lst.below (w := _) (by exact LA.out) hb_⟩; have n4_ : Aside0 (Own w_2 gM N cM (List.replicate N 0)) := ⟨Own.below (w := _) (by exact OM.out) hb_⟩; have m0_ : Aside0 (Own w_2 gL N cL l) := ⟨ol_⟩; (try clear HT); (try clear HG); (try clear LS); (try clear LA); (try clear OM); have HT := n0_; have HG := n1_; have LS := n2_; have LA := n3_; have OM := n4_; have OL := m0_; clear n0_ n1_ n2_ n3_ n4_ m0_; clear hr_ hb_ ol_ bl_))
  go_wp2
  go_loopg [1, 11] (vOf e l).ms (fun n v1 v11 w' => ∃ (e' : Int) (l2 m : List Int) (xs : List S104), v1 = .int .i64 e' ∧ Aside0 (PGood bs.length (vOf e' l2) (fun i => m.getD i 0) ∧ (vOf e' l2).ms ≤ n ∧ xs.length + n ≤ 24 ∧ LGood l2 ∧ l2.length = N ∧ m.length = N) ∧ Aside0 (xs ++ hPlay bs n (vOf e' l2) (fun i => m.getD i 0) = r) ∧ Aside0 (Kd.R k104 104 w' w.heap.size (fun k_ => w.heap.size ≤ k_ ∧ k_ ≠ gL ∧ k_ ≠ gM) v11 xs) ∧ Aside0 (Own w' gL N cL l2) ∧ Aside0 (Own w' gM N cM m) ∧ Aside0 (HTab w' tb c0) ∧ Aside0 (w.grownBy w' (some tb)) ∧ Aside0 (Lst w' tb (some ad) bs))
  case atStart => exact ⟨e, l, List.replicate N 0, [], rfl, ⟨⟨by rw [rep_get]; exact HP.out, Nat.le_refl _, by simpa using HMS.out, HLG.out, HNL.out.symm, List.length_replicate⟩⟩, ⟨by rw [rep_get]; exact HR_.out.symm⟩, ⟨Kd.R_nil _ _ _ _ _⟩, OL, OM, HT, HG, LS⟩
  case round =>
    clear HT HG OL OM LS LA
    obtain ⟨e', l2, m, xs, rfl, HI, HL, HR0', OL, OM, HT, HG, LS⟩ := hrel
    have HR : Aside0 (Kd.R k104 104 wr w.heap.size (fun k_ => w.heap.size ≤ k_ ∧ k_ ≠ gL ∧ k_ ≠ gM ∧ k_ < wr.heap.size) u11 xs) := ⟨Kd.R_mono (Kd.R_bound HR0'.out) (fun k_ hk_ => ⟨hk_.1.1, hk_.1.2.1, hk_.1.2.2, hk_.2.2.1⟩)⟩
    clear HR0'
    have ORD_ : Aside0 ((((tb < w.heap.size ∧ ad.block < w.heap.size) ∧ w.heap.size ≤ gM) ∧ w.heap.size ≤ gL ∧ gM < gL) ∧ gL < wr.heap.size) := ⟨⟨ORD.out, Own.lt OL.out HN0.out⟩⟩
    clear ORD
    have ORD := ORD_
    clear ORD_
    have SZ := Aside0.mk (Nat.le_refl wr.heap.size)
    have HQ := Aside0.mk HI.out.1
    have HGL := Aside0.mk HI.out.2.2.2.1
    have HL2N := Aside0.mk HI.out.2.2.2.2.1
    have HMN := Aside0.mk HI.out.2.2.2.2.2
    obtain ⟨nd, hnd⟩ : ∃ nd, nd = (vOf e' l2).need := ⟨_, rfl⟩
    have hn := need_is e' (l := l2) ⟨HGL.out.1, HGL.out.2.1⟩
    rw [← hnd] at hn
    have hnl := need_lo (vOf e' l2)
    rw [← hnd] at hnl
    have HND := Aside0.mk hnd
    have HNC : Aside0 (∀ W, Own W gL N cL l2 → Calls Try.prog 81 #[.slice (some ⟨gL, 0, none⟩) N cL] W fun e w' => e = .returned (.int .i64 nd) ∧ Drawn0 W w') := ⟨fun W hW => by
      have h2 := Kd.R_reads' hW
      have h_ := spec_hoNeeded.calls 9 (some ⟨gL, 0, none⟩) cL l2 nd W h2.2.2 (by have := h2.2.1; have := HL2N.out; omega) hn
      rw [HL2N.out] at h_
      exact h_⟩
    clear hn hnd
    by_cases hd : nd = 0
    · have e1 : decide (nd > 0) = false := decide_eq_false (by omega)
      have e2 : decide (0 < nd) = false := decide_eq_false (by omega)
      have hxs : xs = r := by
        have h_ := HL.out
        have hz : hPlay bs gk (vOf e' l2) (fun i => m.getD i 0) = [] := by cases gk <;> simp [hPlay, ← HND.out, hd]
        rw [hz] at h_
        simpa using h_
      subst hxs
      clear hd hnl
      go_wp2_with (first | ((with_reducible refine gate_callee (f := 81) rfl ?_); refine goesL_ (some 22) rfl rfl Try.func81 (by kernel_rfl) rfl #[.slice (some ⟨gL, 0, none⟩) N cL] rfl (by (try simp only [List.map_toArray, List.map_cons, List.map_nil]); first | done | rfl) ?_; refine (HNC.out _ OL.out).mono ?_; rintro e_ w_1 ⟨rfl, hd_⟩; refine ⟨_, rfl, ?_⟩; have hb_ : Below _ _ w_1 := (by first | exact hd_ | exact hd_.below); clear hd_; have n0_ : Aside0 (HTab w_1 tb c0) := ⟨HTab.below (w := _) (by exact HT.out) hb_⟩; have n1_ : Aside0 (w.grownBy w_1 (some tb)) := ⟨Hx.g_below (by first | exact HG.out | exact Hx.g_drew HG.out | exact Hx.g_drewN HG.out _) hb_⟩; have n2_ : Aside0 (Own w_1 gL N cL l2) := ⟨Own.below (w := _) (by exact OL.out) hb_⟩; have n3_ : Aside0 (Own w_1 gM N cM m) := ⟨Own.below (w := _) (by exact OM.out) hb_⟩; have n4_ : Aside0 (Lst w_1 tb (some ad) bs) := ⟨Lst.below (w := _) (by exact LS.out) hb_⟩; have n5_ : Aside0 (Kd.R k104 104 w_1 w.heap.size (fun k_ => w.heap.size ≤ k_ ∧ k_ ≠ gL ∧ k_ ≠ gM ∧ k_ < wr.heap.size) u11 xs) := ⟨Kd.R_below HR.out hb_⟩; have n6_ : Aside0 (wr.heap.size ≤ w_1.heap.size) := ⟨Nat.le_trans SZ.out hb_.size⟩; (try clear HT); (try clear HG); (try clear OL); (try clear OM); (try clear LS); (try clear HR); (try clear SZ); have HT := n0_; have HG := n1_; have OL := n2_; have OM := n3_; have LS := n4_; have HR := n5_; have SZ := n6_; clear n0_ n1_ n2_ n3_ n4_ n5_ n6_; clear hb_))
      go_ret
      exact ⟨_, rfl, Kd.R_mono HR.out (fun _ _ => trivial), HT.out, HG.out⟩
    · have e1 : decide (nd > 0) = true := decide_eq_true (by omega)
      have e2 : decide (0 < nd) = true := decide_eq_true (by omega)
      have hn0 : (vOf e' l2).need ≠ 0 := by rw [← HND.out]; exact hd
      have hlt := HQ.out.lt hn0
      have hnx := fun br => HQ.out.nxt hn0 br
      have hok := HQ.out.ok hn0
      have hee : 1 ≤ e' ∧ e' ≤ 6 := by have h_ := hok.2.1; have h2_ := hok.2.2; have h3_ := hok.1; unfold VGood at h3_; have h4_ : (vOf e' l2).e = e' := rfl; omega
      have hpf := vFirst_ok hok
      obtain ⟨ys, hys⟩ := vLits_first hok
      obtain ⟨br, hbr⟩ : ∃ br, br = hBrk bs (vOf e' l2) (fun i => m.getD i 0) := ⟨_, rfl⟩
      obtain ⟨k1, rfl⟩ : ∃ k1, gk = k1 + 1 := ⟨gk - 1, by have h1_ := HI.out.2.1; have h2_ := (hnx br).2; omega⟩
      have HL2 : Aside0 ((xs ++ [(⟨((vFirst (vOf e' l2)).1 : Int), m.getD (vFirst (vOf e' l2)).1 0 + (vFirst (vOf e' l2)).2, br⟩ : S104)]) ++ hPlay bs k1 ((vOf e' l2).nxt br) (hLow (vOf e' l2) (fun i => m.getD i 0) br) = r) := ⟨by
        have h_ := HL.out
        rw [hPlay, if_neg hn0, ← hbr] at h_
        rw [← h_]
        simp⟩
      have hcb : decide (bs.getD (vFirst (vOf e' l2)).1 0 < m.getD (vFirst (vOf e' l2)).1 0 + (vFirst (vOf e' l2)).2) = br := hbr.symm
      have HDC : Aside0 (∀ W, Own W gL N cL l2 → HTab W tb c0 → Calls Try.prog 82 #[.slice (some ⟨tb, 0, none⟩) 5103 c0, .int .i64 e', .slice (some ⟨gL, 0, none⟩) N cL] W fun e_ w' => ∃ v_ : Value, e_ = .returned v_ ∧ Kd.S (Kd.slice 3 (Kd.int .i64)) 46 w' W.heap.size (fun _ => True) v_ ([((vFirst (vOf e' l2)).1 : Int), (vFirst (vOf e' l2)).2] :: ys) ∧ HTab w' tb c0 ∧ W.grownBy w' (some tb)) := ⟨fun W hW hT_ => by
        have h_ := hdrops_of tb c0 e' l2 HGL.out (by omega) hok.2.2 _ hys (some ⟨gL, 0, none⟩) cL W (by have := Own.cap hW; have := HL2N.out; omega) (Own.lst hW (by have := ORD.out; omega)) hT_
        rw [HL2N.out] at h_
        exact h_⟩
      have HHN : Aside0 ((vFirst (vOf e' l2)).1 < N) := ⟨by have := hlt.1; have := HBL.out; have := HNL.out; omega⟩
      have hxg := vOf_get e' l2 hlt.2.1
      rw [hxg] at hlt
      have HNXT : Aside0 ((vOf e' l2).nxt true = vOf (e' - 1) (l2.set (vFirst (vOf e' l2)).1 ((vFirst (vOf e' l2)).2 - 1))) := ⟨(vOf_brk e' _ HGL.out.2.1 (by have := HHN.out; have := HL2N.out; omega)).symm⟩
      have HNXF : Aside0 ((vOf e' l2).nxt false = vOf e' (l2.set (vFirst (vOf e' l2)).1 (l2.getD (vFirst (vOf e' l2)).1 0 - (vFirst (vOf e' l2)).2))) := ⟨(vOf_whl e' _ HGL.out.2.1 (by have := HHN.out; have := HL2N.out; omega)).symm⟩
      have HLOT : Aside0 (hLow (vOf e' l2) (fun i => m.getD i 0) true = fun i => m.getD i 0) := ⟨rfl⟩
      have HLOF : Aside0 (hLow (vOf e' l2) (fun i => m.getD i 0) false = fun i => (m.set (vFirst (vOf e' l2)).1 (m.getD (vFirst (vOf e' l2)).1 0 + (vFirst (vOf e' l2)).2)).getD i 0) := ⟨upd_get m (by have := HHN.out; have := HMN.out; omega) _⟩
      have HNX := Aside0.mk (hnx br)
      obtain ⟨h, hh⟩ : ∃ h, h = (vFirst (vOf e' l2)).1 := ⟨_, rfl⟩
      obtain ⟨f, hf⟩ : ∃ f, f = (vFirst (vOf e' l2)).2 := ⟨_, rfl⟩
      rw [← hh, ← hf] at hlt hcb HL2 HDC HNXT HNXF HLOF
      rw [← hh] at HHN
      (try simp only at hlt)
      obtain ⟨x, hx⟩ : ∃ x, x = m.getD h 0 := ⟨_, rfl⟩
      rw [← hx] at hlt hcb HL2 HLOF
      have HXM := Aside0.mk hx
      obtain ⟨xl, hxl⟩ : ∃ xl, xl = l2.getD h 0 := ⟨_, rfl⟩
      rw [← hxl] at hlt HNXF
      have HXL := Aside0.mk hxl
      obtain ⟨b, hb⟩ : ∃ b, b = bs.getD h 0 := ⟨_, rfl⟩
      rw [← hb] at hcb
      have HBB := Aside0.mk hb
      have HLT := Aside0.mk hlt
      obtain ⟨fl, hfl⟩ : ∃ fl, fl = x + f := ⟨_, rfl⟩
      have wx : IntKind.i64.wrap (x + f) = fl := by rw [hfl]; exact Hw.wrap_w (by omega) (by omega)
      have wx64 : wrap64 (x + f) = fl := by rw [hfl]; exact Hw.wrap_id (by omega) (by omega)
      rw [← hfl] at hcb HL2 HLOF
      obtain ⟨zs, hzs⟩ : ∃ zs : List S104, zs = xs ++ [(⟨(h : Int), fl, br⟩ : S104)] := ⟨_, rfl⟩
      have Nzs := Aside0.mk hzs
      rw [← hzs] at HL2
      have HXN : Aside0 (xs.length + 1 ≤ 24) := ⟨by have := HI.out.2.2.1; omega⟩
      have HZL : Aside0 (zs.length + k1 ≤ 24) := ⟨by have := HI.out.2.2.1; rw [hzs]; simp; omega⟩
      have HMS2 : Aside0 (((vOf e' l2).nxt br).ms ≤ k1) := ⟨by have h1_ := HI.out.2.1; have h2_ := HNX.out.2; omega⟩
      have p0 : (0 : Int) ≤ (h : Int) := by omega
      have q0 : (h : Int) < (N : Int) := by have := HHN.out; omega
      have q1 : (h : Int) < (bs.length : Int) := by omega
      have haddM := Hw.add_off gM h
      have haddL := Hw.add_off gL h
      have we1 : IntKind.i64.wrap (e' - 1) = e' - 1 := Hw.wrap_w (by omega) (by omega)
      have wf1 : IntKind.i64.wrap (f - 1) = f - 1 := Hw.wrap_w (by omega) (by omega)
      have wxf : IntKind.i64.wrap (xl - f) = xl - f := Hw.wrap_w (by omega) (by omega)
      have wxf64 : wrap64 (xl - f) = xl - f := Hw.wrap_id (by omega) (by omega)
      replace p0 := eq_true p0
      replace q0 := eq_true q0
      replace q1 := eq_true q1
      clear hd hnl hn0 hnx hpf hok hys hbr hh hf hx hxl hb hlt hfl hzs HL hxg hee
      go_upto_region 6 with (first | ((with_reducible refine gate_callee (f := 81) rfl ?_); refine goesL_ (some 22) rfl rfl Try.func81 (by kernel_rfl) rfl #[.slice (some ⟨gL, 0, none⟩) N cL] rfl (by (try simp only [List.map_toArray, List.map_cons, List.map_nil]); first | done | rfl) ?_; refine (HNC.out _ OL.out).mono ?_; rintro e_ w_1 ⟨rfl, hd_⟩; refine ⟨_, rfl, ?_⟩; have hb_ : Below _ _ w_1 := (by first | exact hd_ | exact hd_.below); clear hd_; have n0_ : Aside0 (HTab w_1 tb c0) := ⟨HTab.below (w := _) (by exact HT.out) hb_⟩; have n1_ : Aside0 (w.grownBy w_1 (some tb)) := ⟨Hx.g_below (by first | exact HG.out | exact Hx.g_drew HG.out | exact Hx.g_drewN HG.out _) hb_⟩; have n2_ : Aside0 (Own w_1 gL N cL l2) := ⟨Own.below (w := _) (by exact OL.out) hb_⟩; have n3_ : Aside0 (Own w_1 gM N cM m) := ⟨Own.below (w := _) (by exact OM.out) hb_⟩; have n4_ : Aside0 (Lst w_1 tb (some ad) bs) := ⟨Lst.below (w := _) (by exact LS.out) hb_⟩; have n5_ : Aside0 (Kd.R k104 104 w_1 w.heap.size (fun k_ => w.heap.size ≤ k_ ∧ k_ ≠ gL ∧ k_ ≠ gM ∧ k_ < wr.heap.size) u11 xs) := ⟨Kd.R_below HR.out hb_⟩; have n6_ : Aside0 (wr.heap.size ≤ w_1.heap.size) := ⟨Nat.le_trans SZ.out hb_.size⟩; (try clear HT); (try clear HG); (try clear OL); (try clear OM); (try clear LS); (try clear HR); (try clear SZ); have HT := n0_; have HG := n1_; have OL := n2_; have OM := n3_; have LS := n4_; have HR := n5_; have SZ := n6_; clear n0_ n1_ n2_ n3_ n4_ n5_ n6_; clear hb_) | ((with_reducible refine gate_callee (f := 82) rfl ?_); refine goesL_ (some 27) rfl rfl Try.func82 (by kernel_rfl) rfl #[.slice (some ⟨tb, 0, none⟩) 5103 c0, .int .i64 e', .slice (some ⟨gL, 0, none⟩) N cL] rfl (by (try simp only [List.map_toArray, List.map_cons, List.map_nil]); first | done | rfl) ?_; refine (HDC.out w_1 OL.out HT.out).mono ?_; rintro e_ w_2 ⟨v_, rfl, hr_, ht_, hg_⟩; refine ⟨_, rfl, ?_⟩; obtain ⟨g_, cc_, A2_, c2_, rfl, x0_, hr2_⟩ := row_first hr_; obtain ⟨g2, C2, rfl, gb_, R2_, y0_, y1_⟩ := row_two hr2_; have ORD_ : Aside0 (((((tb < w.heap.size ∧ ad.block < w.heap.size) ∧ w.heap.size ≤ gM) ∧ w.heap.size ≤ gL ∧ gM < gL) ∧ gL < wr.heap.size) ∧ wr.heap.size ≤ g2) := ⟨⟨ORD.out, by have := SZ.out; omega⟩⟩; clear ORD; have ORD := ORD_; clear ORD_; have Y0 := Aside0.mk y0_; have Y1 := Aside0.mk y1_; clear hr_ hr2_ gb_ y0_ y1_; have n0_ : Aside0 (HTab w_2 tb c0) := ⟨ht_⟩; have n1_ : Aside0 (w.grownBy w_2 (some tb)) := ⟨World.grownBy.trans (by first | exact HG.out | exact Hx.g_drew HG.out | exact Hx.g_drewN HG.out _) hg_⟩; have n2_ : Aside0 (Own w_2 gL N cL l2) := ⟨Own.grown OL.out hg_ (by simp only [ne_eq, Option.some.injEq]; have := ORD.out; omega)⟩; have n3_ : Aside0 (Own w_2 gM N cM m) := ⟨Own.grown OM.out hg_ (by simp only [ne_eq, Option.some.injEq]; have := ORD.out; omega)⟩; have n4_ : Aside0 (Lst w_2 tb (some ad) bs) := ⟨Lst.grown LS.out hg_⟩; have n5_ : Aside0 (Kd.R k104 104 w_2 w.heap.size (fun k_ => w.heap.size ≤ k_ ∧ k_ ≠ gL ∧ k_ ≠ gM ∧ k_ < wr.heap.size) u11 xs) := ⟨Kd.R_grown (row := some tb) HR.out hg_ (fun k_ hk_ h_ => by have := Option.some.inj h_; have := ORD.out; have := hk_.1; omega)⟩; have n6_ : Aside0 (wr.heap.size ≤ w_2.heap.size) := ⟨Nat.le_trans SZ.out hg_.size⟩; have m0_ : Aside0 (w_2.heap[g2]? = some (.cells C2 3 (0, 0))) := ⟨R2_⟩; (try clear HT); (try clear HG); (try clear OL); (try clear OM); (try clear LS); (try clear HR); (try clear SZ); have HT := n0_; have HG := n1_; have OL := n2_; have OM := n3_; have LS := n4_; have HR := n5_; have SZ := n6_; have R2 := m0_; clear n0_ n1_ n2_ n3_ n4_ n5_ n6_ m0_; clear ht_ hg_ R2_; have y0_ : w_2.cell? ⟨g2, 0, none⟩ = some (.int .i64 (h : Int)) := (blk_cell R2.out 0).trans Y0.out; have y1_ : w_2.cell? ⟨g2, 1, none⟩ = some (.int .i64 f) := (blk_cell R2.out 1).trans Y1.out; obtain ⟨cm_, dm_⟩ := Own.look OM.out (i := h) HHN.out; rw [← HXM.out] at cm_))
      go_quiet (fail)
      (try simp only [wx64])
      clear y0_ y1_ cm_ dm_
      obtain ⟨w_3, hwq⟩ : ∃ W, W = w_2.drewN nq := ⟨_, rfl⟩
      rw [← hwq]
      have hb_ : Below w_2.heap.size w_2 w_3 := by rw [hwq]; exact pw_below_drewN (Below.refl _ _) _
      have n0_ : Aside0 (HTab w_3 tb c0) := ⟨HTab.below (w := _) (by exact HT.out) hb_⟩
      have n1_ : Aside0 (w.grownBy w_3 (some tb)) := ⟨Hx.g_below (by first | exact HG.out | exact Hx.g_drew HG.out | exact Hx.g_drewN HG.out _) hb_⟩
      have n2_ : Aside0 (Own w_3 gL N cL l2) := ⟨Own.below (w := _) (by exact OL.out) hb_⟩
      have n3_ : Aside0 (Own w_3 gM N cM m) := ⟨Own.below (w := _) (by exact OM.out) hb_⟩
      have n4_ : Aside0 (Lst w_3 tb (some ad) bs) := ⟨Lst.below (w := _) (by exact LS.out) hb_⟩
      have n5_ : Aside0 (Kd.R k104 104 w_3 w.heap.size (fun k_ => w.heap.size ≤ k_ ∧ k_ ≠ gL ∧ k_ ≠ gM ∧ k_ < wr.heap.size) u11 xs) := ⟨Kd.R_below HR.out hb_⟩
      have n6_ : Aside0 (wr.heap.size ≤ w_3.heap.size) := ⟨Nat.le_trans SZ.out hb_.size⟩
      have n7_ : Aside0 (w_3.heap[g2]? = some (.cells C2 3 (0, 0))) := ⟨Hx.b_below hb_ R2.out⟩
      (try clear HT)
      (try clear HG)
      (try clear OL)
      (try clear OM)
      (try clear LS)
      (try clear HR)
      (try clear SZ)
      (try clear R2)
      have HT := n0_
      have HG := n1_
      have OL := n2_
      have OM := n3_
      have LS := n4_
      have HR := n5_
      have SZ := n6_
      have R2 := n7_
      clear n0_ n1_ n2_ n3_ n4_ n5_ n6_ n7_
      clear hb_ hwq
      obtain ⟨ad2, ead, ib_⟩ := Lst.look LS.out HLT.out.1
      cases ead
      rw [← HBB.out] at ib_
      have hcb2 : decide (fl > b) = br := hcb
      go_upto_region 9 with (first | ((with_reducible refine gate_builtin (b := .append) (xs := #[.tmp 49, .tmp 54]) rfl ?_); at_builtin; refine Kd.R_append k104 (w0 := w_3) (w.heap.size) rfl (.tmp 49) (.tmp 54) 59 104 (.agg #[(.int .i64 0), (.int .i64 0), (.bool false)]) 24 rfl Try.underlying59 info104 rfl (by decide) (by omega) u11 xs ((⟨(h : Int), fl, br⟩ : S104)) [.int .i64 (h : Int), .int .i64 fl, .bool br] (fun k_ => w.heap.size ≤ k_ ∧ k_ ≠ gL ∧ k_ ≠ gM) (fun _ => False) rfl rfl ?aP (fun _ hk_ => hk_.elim) ?aF ?aO ?aB ?aS ?aL ?_; (case aP => exact k104_mkM _ _ _ ((⟨(h : Int), fl, br⟩ : S104))); (case aB => exact Below.refl _ _); (case aF => exact (fun k_ hk_ => by have := ORD.out; have := HT.out.lt; have := HG.out.size; have := Own.lt OL.out HN0.out; have := Own.lt OM.out HN0.out; have := SZ.out; have := blk_lt R2.out; show w.heap.size ≤ k_ ∧ k_ ≠ gL ∧ k_ ≠ gM; omega)); (case aO => exact Kd.R_mono HR.out (fun k_ hk_ => ⟨hk_.1, hk_.2.1, hk_.2.2.1⟩)); (case aS => exact (by have := HT.out.lt; have := HG.out.size; have := Own.lt OL.out HN0.out; have := Own.lt OM.out HN0.out; have := SZ.out; have := blk_lt R2.out; have := ORD.out; omega)); (case aL => have := HXN.out; omega); intro v_ w_5 ho_ hb_ hg_ hat_; rw [← Nzs.out] at ho_; have n0_ : Aside0 (HTab w_5 tb c0) := ⟨HTab.grown HT.out hg_ (fun h_ => by have h2_ : w.heap.size ≤ tb ∧ tb ≠ gL ∧ tb ≠ gM ∧ tb < wr.heap.size := HR.out.1 _ h_.symm; have := ORD.out; omega)⟩; have n1_ : Aside0 (w.grownBy w_5 (some tb)) := ⟨Hx.g_append (by first | exact HG.out | exact Hx.g_drew HG.out | exact Hx.g_drewN HG.out _) hg_ (fun k_ h_ => by have h2_ : w.heap.size ≤ k_ ∧ k_ ≠ gL ∧ k_ ≠ gM ∧ k_ < wr.heap.size := HR.out.1 _ h_; have := ORD.out; omega)⟩; have n2_ : Aside0 (Own w_5 gL N cL l2) := ⟨Own.grown OL.out hg_ (fun h_ => by have h2_ : w.heap.size ≤ gL ∧ gL ≠ gL ∧ gL ≠ gM ∧ gL < wr.heap.size := HR.out.1 _ h_.symm; have := ORD.out; omega)⟩; have n3_ : Aside0 (Own w_5 gM N cM m) := ⟨Own.grown OM.out hg_ (fun h_ => by have h2_ : w.heap.size ≤ gM ∧ gM ≠ gL ∧ gM ≠ gM ∧ gM < wr.heap.size := HR.out.1 _ h_.symm; have := ORD.out; omega)⟩; have n4_ : Aside0 (Lst w_5 tb (some ad) bs) := ⟨Lst.app LS.out (n := w.heap.size) (fun ad_ h_ => by injection h_ with h2_; rw [← h2_]; exact HAL.out) hg_ (fun k_ h_ => by have h2_ : w.heap.size ≤ k_ := (HR.out.1 _ h_).1; omega)⟩; have n5_ : Aside0 (wr.heap.size ≤ w_5.heap.size) := ⟨Nat.le_trans SZ.out hg_.size⟩; have n6_ : Aside0 (w_5.heap[g2]? = some (.cells C2 3 (0, 0))) := ⟨Hx.b_grown hg_ R2.out (fun h_ => by have h2_ : w.heap.size ≤ g2 ∧ g2 ≠ gL ∧ g2 ≠ gM ∧ g2 < wr.heap.size := HR.out.1 _ h_.symm; have := ORD.out; omega)⟩; have m0_ : Aside0 (Kd.R k104 104 w_5 w.heap.size (fun k_ => w.heap.size ≤ k_ ∧ k_ ≠ gL ∧ k_ ≠ gM) v_ zs) := ⟨ho_⟩; (try clear HT); (try clear HG); (try clear OL); (try clear OM); (try clear LS); (try clear SZ); (try clear R2); (try clear HR); have HT := n0_; have HG := n1_; have OL := n2_; have OM := n3_; have LS := n4_; have SZ := n5_; have R2 := n6_; have HR := m0_; clear n0_ n1_ n2_ n3_ n4_ n5_ n6_ m0_; clear ho_ hb_ hg_ hat_))
      have y1_ : w_5.cell? ⟨g2, 1, none⟩ = some (.int .i64 f) := (blk_cell R2.out 1).trans Y1.out
      obtain ⟨cl_, dl_⟩ := Own.look OL.out (i := h) HHN.out
      rw [← HXL.out] at cl_
      cases br with
      | true =>
        rw [HNXT.out, HLOT.out] at HNX HL2
        rw [HNXT.out] at HMS2
        go_wp2_with (first | ((with_reducible refine gate_store (t := 3) (p := 65) rfl ?_); refine store_event (t := 3) (p := 65) (v := ?vo_w8) (w1 := ((w_5).setCell ⟨gL, h, none⟩ (.int .i64 (f - 1)))) ?hg ?ho ?hn ?hr ?_; (case ho => rfl); (case hg => rfl); (case hn => rfl); (case hr => first | (go_simp; done) | (go_simp; rfl)); intro w_8 hw_; have n0_ : Aside0 (HTab w_8 tb c0) := ⟨by rw [hw_]; exact HTab.far HT.out (show tb ≠ gL by have := ORD.out; omega)⟩; have n1_ : Aside0 (w.grownBy w_8 (some tb)) := ⟨by rw [hw_]; exact Hx.g_set HG.out (by have := ORD.out; omega)⟩; have n2_ : Aside0 (Own w_8 gL N cL (l2.set h (f - 1))) := ⟨by rw [hw_]; exact Own.put OL.out h _⟩; have n3_ : Aside0 (Own w_8 gM N cM m) := ⟨by rw [hw_]; exact Own.far OM.out (show gM ≠ gL by have := ORD.out; omega)⟩; have n4_ : Aside0 (Lst w_8 tb (some ad) bs) := ⟨by rw [hw_]; exact Lst.far LS.out (show ad.block ≠ gL by have := ORD.out; have := HAL.out; omega)⟩; have n5_ : Aside0 (wr.heap.size ≤ w_8.heap.size) := ⟨by rw [hw_]; exact Hx.size_set SZ.out⟩; have n6_ : Aside0 (Kd.R k104 104 w_8 w.heap.size (fun k_ => w.heap.size ≤ k_ ∧ k_ ≠ gL ∧ k_ ≠ gM) v_ zs) := ⟨by rw [hw_]; exact Kd.R_far HR.out (fun k_ hk_ => show k_ ≠ gL by first | exact hk_.2.1 | exact hk_.2.2 | exact hk_.2.2.1) _⟩; (try clear HT); (try clear HG); (try clear OL); (try clear OM); (try clear LS); (try clear SZ); (try clear HR); have HT := n0_; have HG := n1_; have OL := n2_; have OM := n3_; have LS := n4_; have SZ := n5_; have HR := n6_; clear n0_ n1_ n2_ n3_ n4_ n5_ n6_; clear hw_))
        go_roundg k1
        case measure => omega
        case rel => exact ⟨e' - 1, l2.set h (f - 1), m, zs, rfl, ⟨⟨HNX.out.1, HMS2.out, HZL.out, lset_good HGL.out h (by have := HLT.out; omega), by rw [List.length_set]; exact HL2N.out, HMN.out⟩⟩, HL2, HR, OL, OM, HT, HG, LS⟩
      | false =>
        rw [HNXF.out, HLOF.out] at HNX HL2
        rw [HNXF.out] at HMS2
        go_upto_region 12 with fail
        refine start_ (n := 10) (S := fun w' => w'.cell? ⟨gL, h, none⟩ = some (.int .i64 xl) ∧ w'.cell? ⟨g2, 1, none⟩ = some (.int .i64 f)) (ds := [9]) #[false, false, false, false, false, false, false, false, false, false] (by kernel_rfl) rfl rfl ⟨cl_, y1_⟩ (fun hHeld => ?_)
        refine pure_ (i := 0) (N := some 66) (v := ?_) (a' := ?_) #[true, false, false, false, false, false, false, false, false, false] rfl rfl (by kernel_rfl) (fun _ _ _ h => h) (Or.inl ⟨by rfl, ?_⟩) ?_ ?_
        rotate_left
        · intro w'
          go_simp
          with_reducible rfl
        rotate_left
        · simp only [Act.put, List.setIfInBounds_toArray, List.set_cons_zero, List.set_cons_succ, i64_w, i32_w]
          rfl
        refine pure_ (i := 1) (N := some 67) (v := ?_) (a' := ?_) #[true, true, false, false, false, false, false, false, false, false] rfl rfl (by kernel_rfl) (fun _ _ _ h => h) (Or.inl ⟨by rfl, ?_⟩) ?_ ?_
        rotate_left
        · intro w'
          go_simp
          with_reducible rfl
        rotate_left
        · simp only [Act.put, List.setIfInBounds_toArray, List.set_cons_zero, List.set_cons_succ, i64_w, i32_w]
          rfl
        refine pure_ (i := 2) (N := some 68) (v := ?_) (a' := ?_) #[true, true, true, false, false, false, false, false, false, false] rfl rfl (by kernel_rfl) (fun _ _ _ h => h) (Or.inl ⟨by rfl, ?_⟩) ?_ ?_
        rotate_left
        · intro w'
          go_simp
          with_reducible rfl
        rotate_left
        · simp only [Act.put, List.setIfInBounds_toArray, List.set_cons_zero, List.set_cons_succ, i64_w, i32_w]
          rfl
        refine pure_ (i := 4) (N := some 70) (v := ?_) (a' := ?_) #[true, true, true, false, true, false, false, false, false, false] rfl rfl (by kernel_rfl) (fun _ _ _ h => h) (Or.inl ⟨by rfl, ?_⟩) ?_ ?_
        rotate_left
        · intro w'
          go_simp
          with_reducible rfl
        rotate_left
        · simp only [Act.put, List.setIfInBounds_toArray, List.set_cons_zero, List.set_cons_succ, i64_w, i32_w]
          rfl
        refine pure_ (i := 5) (N := some 71) (v := ?_) (a' := ?_) #[true, true, true, false, true, true, false, false, false, false] rfl rfl (by kernel_rfl) (fun _ _ _ h => h) (Or.inl ⟨by rfl, ?_⟩) ?_ ?_
        rotate_left
        · intro w'
          go_simp
          with_reducible rfl
        rotate_left
        · simp only [Act.put, List.setIfInBounds_toArray, List.set_cons_zero, List.set_cons_succ, i64_w, i32_w]
          rfl
        refine take_ (i := 3) (N := some 69) (v := ?_) (a' := ?_) #[true, true, true, true, true, true, false, false, false, false] rfl rfl (by kernel_rfl) (fun _ _ _ h => h) (Or.inl ⟨by rfl, ?_⟩) hHeld ?_ ?_
        rotate_left
        · rintro w' ⟨s0, s1⟩
          go_simp
          with_reducible rfl
        rotate_left
        · simp only [Act.put, List.setIfInBounds_toArray, List.set_cons_zero, List.set_cons_succ, i64_w, i32_w]
          rfl
        refine take_ (i := 6) (N := some 72) (v := ?_) (a' := ?_) #[true, true, true, true, true, true, true, false, false, false] rfl rfl (by kernel_rfl) (fun _ _ _ h => h) (Or.inl ⟨by rfl, ?_⟩) hHeld ?_ ?_
        rotate_left
        · rintro w' ⟨s0, s1⟩
          go_simp
          with_reducible rfl
        rotate_left
        · simp only [Act.put, List.setIfInBounds_toArray, List.set_cons_zero, List.set_cons_succ, i64_w, i32_w]
          rfl
        refine pure_ (i := 7) (N := some 73) (v := ?_) (a' := ?_) #[true, true, true, true, true, true, true, true, false, false] rfl rfl (by kernel_rfl) (fun _ _ _ h => h) (Or.inl ⟨by rfl, ?_⟩) ?_ ?_
        rotate_left
        · intro w'
          go_simp
          with_reducible rfl
        rotate_left
        · simp only [Act.put, List.setIfInBounds_toArray, List.set_cons_zero, List.set_cons_succ, i64_w, i32_w]
          rfl
        refine pure_ (i := 8) (N := some 74) (v := ?_) (a' := ?_) #[true, true, true, true, true, true, true, true, true, false] rfl rfl (by kernel_rfl) (fun _ _ _ h => h) (Or.inl ⟨by rfl, ?_⟩) ?_ ?_
        rotate_left
        · intro w'
          go_simp
          with_reducible rfl
        rotate_left
        · simp only [Act.put, List.setIfInBounds_toArray, List.set_cons_zero, List.set_cons_succ, i64_w, i32_w]
          rfl
        refine last_ (i := 9) (N := none) #[true, true, true, true, true, true, true, true, true, true] rfl rfl (by kernel_rfl) (by decide) (fun K hK => ?_)
        refine skip_ (w1 := ?_) (by rfl) rfl ?_ ?_
        rotate_left
        · go_simp
          rfl
        refine hK.out _ _ ?_
        clear hK K
        refine done_ (by kernel_rfl) ?_
        have n0_ : Aside0 (HTab ((w_5.setCell ⟨gL, h, none⟩ (.int .i64 (xl - f))).drew) tb c0) := ⟨HTab.below (HTab.far HT.out (show tb ≠ gL by have := ORD.out; omega)) (below_drew1 (Below.refl _ _))⟩
        have n1_ : Aside0 (w.grownBy ((w_5.setCell ⟨gL, h, none⟩ (.int .i64 (xl - f))).drew) (some tb)) := ⟨Hx.g_drew (Hx.g_set HG.out (by have := ORD.out; omega))⟩
        have n2_ : Aside0 (Own ((w_5.setCell ⟨gL, h, none⟩ (.int .i64 (xl - f))).drew) gL N cL (l2.set h (xl - f))) := ⟨Own.below (Own.put OL.out h _) (below_drew1 (Below.refl _ _))⟩
        have n3_ : Aside0 (Own ((w_5.setCell ⟨gL, h, none⟩ (.int .i64 (xl - f))).drew) gM N cM m) := ⟨Own.below (Own.far OM.out (show gM ≠ gL by have := ORD.out; omega)) (below_drew1 (Below.refl _ _))⟩
        have n4_ : Aside0 (Lst ((w_5.setCell ⟨gL, h, none⟩ (.int .i64 (xl - f))).drew) tb (some ad) bs) := ⟨Lst.below (Lst.far LS.out (show ad.block ≠ gL by have := ORD.out; have := HAL.out; omega)) (below_drew1 (Below.refl _ _))⟩
        have n5_ : Aside0 (wr.heap.size ≤ ((w_5.setCell ⟨gL, h, none⟩ (.int .i64 (xl - f))).drew).heap.size) := ⟨Hx.size_set SZ.out⟩
        have n6_ : Aside0 (Kd.R k104 104 ((w_5.setCell ⟨gL, h, none⟩ (.int .i64 (xl - f))).drew) w.heap.size (fun k_ => w.heap.size ≤ k_ ∧ k_ ≠ gL ∧ k_ ≠ gM) v_ zs) := ⟨Kd.R_below (Kd.R_far HR.out (fun k_ hk_ => show k_ ≠ gL by first | exact hk_.2.1 | exact hk_.2.2 | exact hk_.2.2.1) _) (below_drew1 (Below.refl _ _))⟩
        (try clear HT)
        (try clear HG)
        (try clear OL)
        (try clear OM)
        (try clear LS)
        (try clear SZ)
        (try clear HR)
        generalize (w_5.setCell ⟨gL, h, none⟩ (.int .i64 (xl - f))).drew = w_18 at n0_ n1_ n2_ n3_ n4_ n5_ n6_ ⊢
        have HT := n0_
        have HG := n1_
        have OL := n2_
        have OM := n3_
        have LS := n4_
        have SZ := n5_
        have HR := n6_
        clear n0_ n1_ n2_ n3_ n4_ n5_ n6_
        clear cl_ dl_ y1_
        obtain ⟨cn_, dn_⟩ := Own.look OM.out (i := h) HHN.out
        go_wp2_with (first | ((with_reducible refine gate_store (t := 3) (p := 78) rfl ?_); refine store_event (t := 3) (p := 78) (v := ?vo_w19) (w1 := ((w_18).setCell ⟨gM, h, none⟩ (.int .i64 fl))) ?hg ?ho ?hn ?hr ?_; (case ho => rfl); (case hg => rfl); (case hn => rfl); (case hr => first | (go_simp; done) | (go_simp; rfl)); intro w_19 hw_; have n0_ : Aside0 (HTab w_19 tb c0) := ⟨by rw [hw_]; exact HTab.far HT.out (show tb ≠ gM by have := ORD.out; omega)⟩; have n1_ : Aside0 (w.grownBy w_19 (some tb)) := ⟨by rw [hw_]; exact Hx.g_set HG.out (by have := ORD.out; omega)⟩; have n2_ : Aside0 (Own w_19 gL N cL (l2.set h (xl - f))) := ⟨by rw [hw_]; exact Own.far OL.out (show gL ≠ gM by have := ORD.out; omega)⟩; have n3_ : Aside0 (Own w_19 gM N cM (m.set h (fl))) := ⟨by rw [hw_]; exact Own.put OM.out h _⟩; have n4_ : Aside0 (Lst w_19 tb (some ad) bs) := ⟨by rw [hw_]; exact Lst.far LS.out (show ad.block ≠ gM by have := ORD.out; have := HAL.out; omega)⟩; have n5_ : Aside0 (wr.heap.size ≤ w_19.heap.size) := ⟨by rw [hw_]; exact Hx.size_set SZ.out⟩; have n6_ : Aside0 (Kd.R k104 104 w_19 w.heap.size (fun k_ => w.heap.size ≤ k_ ∧ k_ ≠ gL ∧ k_ ≠ gM) v_ zs) := ⟨by rw [hw_]; exact Kd.R_far HR.out (fun k_ hk_ => show k_ ≠ gM by first | exact hk_.2.1 | exact hk_.2.2 | exact hk_.2.2.1) _⟩; (try clear HT); (try clear HG); (try clear OL); (try clear OM); (try clear LS); (try clear SZ); (try clear HR); have HT := n0_; have HG := n1_; have OL := n2_; have OM := n3_; have LS := n4_; have SZ := n5_; have HR := n6_; clear n0_ n1_ n2_ n3_ n4_ n5_ n6_; clear hw_))
        go_roundg k1
        case measure => omega
        case rel => exact ⟨e', l2.set h (xl - f), m.set h fl, zs, rfl, ⟨⟨HNX.out.1, HMS2.out, HZL.out, lset_good HGL.out h (by have := HLT.out; omega), by rw [List.length_set]; exact HL2N.out, by rw [List.length_set]; exact HMN.out⟩⟩, HL2, HR, OL, OM, HT, HG, LS⟩


-- FOR spec.PlayHouses
-- KIND rounds=0 making=1
-- CALLS impl.PlayHouses ; spec.hoPlay ; spec.hoAsked ; spec.hoBreaks ; spec.hoTable
-- USES kd impl.HouseDrop

def spec_PlayHouses.f (a0 : Int) (l1 l2 : List Int) : Option (List S104 × Bool) := some (playH a0 l1 l2)

set_option maxHeartbeats 8000000 in
set_option maxRecDepth 100000 in
theorem spec_PlayHouses.calls (a0 : Int) (A1 : Option Addr) (c1 : Nat) (l1 : List Int) (A2 : Option Addr) (c2 : Nat) (l2 : List Int) (r1 : List S104) (r2 : Bool) (w : World) (hr1 : Kd.C (Kd.int .i64) w A1 l1.length l1) (hc1 : l1.length ≤ c1) (hr2 : Kd.C (Kd.int .i64) w A2 l2.length l2) (hc2 : l2.length ≤ c2) (h : spec_PlayHouses.f a0 l1 l2 = some (r1, r2)) :
    Calls Try.prog 47 #[.int .i64 a0, .slice A1 l1.length c1, .slice A2 l2.length c2] w fun e w' => ∃ v0_ : Value, e = .returned (.tuple #[v0_, .bool r2]) ∧ Kd.R k104 104 w' w.heap.size (fun _ => True) v0_ r1 ∧ Below w.heap.size w w' := by
  have HB := Aside0.mk (Below.refl w.heap.size w)
  have HC1 := Aside0.mk hr1
  have HC2 := Aside0.mk hr2
  have HC01 := Aside0.mk hr1
  have HC02 := Aside0.mk hr2
  have HL1 := Aside0.mk hc1
  have HL2 := Aside0.mk hc2
  obtain ⟨b1, hb1⟩ : ∃ b, b = hAsk a0 l1 := ⟨_, rfl⟩
  obtain ⟨b2, hb2⟩ : ∃ b, b = hBs l1 l2 := ⟨_, rfl⟩
  have e1 := asked_is a0 l1
  unfold spec_PlayHouses.f playH at h
  rw [← hb1] at e1 h
  rw [← hb2] at h
  have HA := Aside0.mk e1
  have HAG := Aside0.mk hb1
  have HBG := Aside0.mk hb2
  clear e1 hb1 hb2 hr1 hc1 hr2 hc2
  cases b1 with
  | false =>
    simp only [Bool.false_and, Bool.false_eq_true, if_false, Option.some.injEq, Prod.mk.injEq] at h
    obtain ⟨rfl, rfl⟩ := h
    go_enter Try.func47, Try.ntmps47
    go_wp2_with (first | ((with_reducible refine gate_callee (f := 80) rfl ?_); refine goesL_ (some 10) rfl rfl Try.func80 (by kernel_rfl) rfl #[.int .i64 a0, .slice A1 l1.length c1] rfl (by (try simp only [List.map_toArray, List.map_cons, List.map_nil]); first | done | rfl) ?_; refine (spec_hoAsked.calls 9 a0 A1 c1 l1 _ _ HC1.out HL1.out HA.out).mono ?_; rintro e_ w_1 ⟨rfl, hd_⟩; refine ⟨_, rfl, ?_⟩; have hb_ : Below _ _ w_1 := (by first | exact hd_ | exact hd_.below); clear hd_; have n0_ : Aside0 (Below w.heap.size w w_1) := ⟨Hx.bb_below hb_ (by first | exact HB.out | exact below_drew1 HB.out | exact pw_below_drewN HB.out _)⟩; have n1_ : Aside0 (Kd.C (Kd.int .i64) w_1 A1 l1.length l1) := ⟨Kd.C_below HC1.out hb_⟩; have n2_ : Aside0 (Kd.C (Kd.int .i64) w_1 A2 l2.length l2) := ⟨Kd.C_below HC2.out hb_⟩; (try clear HB); (try clear HC1); (try clear HC2); have HB := n0_; have HC1 := n1_; have HC2 := n2_; clear n0_ n1_ n2_; clear hb_))
    go_ret2
    exact ⟨_, rfl, Kd.R_nil _ _ _ _ _, HB.out⟩
  | true =>
    have HG0 := Aside0.mk (hAsk_good HAG.out.symm)
    have HBR : Aside0 (spec_hoBreaks.f 9 l1 l2 = some b2) := ⟨by rw [HBG.out]; exact hoBreaks_is ⟨HG0.out.1.1, HG0.out.1.2.1⟩ l2⟩
    cases b2 with
    | false =>
      simp only [Bool.and_false, Bool.false_eq_true, if_false, Option.some.injEq, Prod.mk.injEq] at h
      obtain ⟨rfl, rfl⟩ := h
      go_enter Try.func47, Try.ntmps47
      go_wp2_with (first | ((with_reducible refine gate_callee (f := 80) rfl ?_); refine goesL_ (some 10) rfl rfl Try.func80 (by kernel_rfl) rfl #[.int .i64 a0, .slice A1 l1.length c1] rfl (by (try simp only [List.map_toArray, List.map_cons, List.map_nil]); first | done | rfl) ?_; refine (spec_hoAsked.calls 9 a0 A1 c1 l1 _ _ HC1.out HL1.out HA.out).mono ?_; rintro e_ w_1 ⟨rfl, hd_⟩; refine ⟨_, rfl, ?_⟩; have hb_ : Below _ _ w_1 := (by first | exact hd_ | exact hd_.below); clear hd_; have n0_ : Aside0 (Below w.heap.size w w_1) := ⟨Hx.bb_below hb_ (by first | exact HB.out | exact below_drew1 HB.out | exact pw_below_drewN HB.out _)⟩; have n1_ : Aside0 (Kd.C (Kd.int .i64) w_1 A1 l1.length l1) := ⟨Kd.C_below HC1.out hb_⟩; have n2_ : Aside0 (Kd.C (Kd.int .i64) w_1 A2 l2.length l2) := ⟨Kd.C_below HC2.out hb_⟩; (try clear HB); (try clear HC1); (try clear HC2); have HB := n0_; have HC1 := n1_; have HC2 := n2_; clear n0_ n1_ n2_; clear hb_) | (go_at_call 88; refine (spec_hoBreaks.calls 9 A1 c1 l1 A2 c2 l2 _ _ HC1.out HL1.out HC2.out HL2.out HBR.out).mono ?_; rintro e_ w_2 ⟨rfl, hd_⟩; have hb_ : Below _ _ w_2 := (by first | exact hd_ | exact hd_.below); clear hd_; have n0_ : Aside0 (Below w.heap.size w w_2) := ⟨Hx.bb_below hb_ (by first | exact HB.out | exact below_drew1 HB.out | exact pw_below_drewN HB.out _)⟩; have n1_ : Aside0 (Kd.C (Kd.int .i64) w_2 A1 l1.length l1) := ⟨Kd.C_below HC1.out hb_⟩; have n2_ : Aside0 (Kd.C (Kd.int .i64) w_2 A2 l2.length l2) := ⟨Kd.C_below HC2.out hb_⟩; (try clear HB); (try clear HC1); (try clear HC2); have HB := n0_; have HC1 := n1_; have HC2 := n2_; clear n0_ n1_ n2_; clear hb_))
      go_ret2
      exact ⟨_, rfl, Kd.R_nil _ _ _ _ _, HB.out⟩
    | true =>
      simp only [Bool.and_true, if_true, Option.some.injEq, Prod.mk.injEq] at h
      obtain ⟨rfl, rfl⟩ := h
      have HP0 := Aside0.mk (start_good HAG.out.symm HBG.out.symm)
      have HBL := Aside0.mk (hBs_len HBG.out.symm)
      go_enter Try.func47, Try.ntmps47
      go_upto_region 3 with (first | ((with_reducible refine gate_callee (f := 80) rfl ?_); refine goesL_ (some 10) rfl rfl Try.func80 (by kernel_rfl) rfl #[.int .i64 a0, .slice A1 l1.length c1] rfl (by (try simp only [List.map_toArray, List.map_cons, List.map_nil]); first | done | rfl) ?_; refine (spec_hoAsked.calls 9 a0 A1 c1 l1 _ _ HC1.out HL1.out HA.out).mono ?_; rintro e_ w_1 ⟨rfl, hd_⟩; refine ⟨_, rfl, ?_⟩; have hb_ : Below _ _ w_1 := (by first | exact hd_ | exact hd_.below); clear hd_; have n0_ : Aside0 (Below w.heap.size w w_1) := ⟨Hx.bb_below hb_ (by first | exact HB.out | exact below_drew1 HB.out | exact pw_below_drewN HB.out _)⟩; have n1_ : Aside0 (Kd.C (Kd.int .i64) w_1 A1 l1.length l1) := ⟨Kd.C_below HC1.out hb_⟩; have n2_ : Aside0 (Kd.C (Kd.int .i64) w_1 A2 l2.length l2) := ⟨Kd.C_below HC2.out hb_⟩; (try clear HB); (try clear HC1); (try clear HC2); have HB := n0_; have HC1 := n1_; have HC2 := n2_; clear n0_ n1_ n2_; clear hb_) | (go_at_call 88; refine (spec_hoBreaks.calls 9 A1 c1 l1 A2 c2 l2 _ _ HC1.out HL1.out HC2.out HL2.out HBR.out).mono ?_; rintro e_ w_2 ⟨rfl, hd_⟩; have hb_ : Below _ _ w_2 := (by first | exact hd_ | exact hd_.below); clear hd_; have n0_ : Aside0 (Below w.heap.size w w_2) := ⟨Hx.bb_below hb_ (by first | exact HB.out | exact below_drew1 HB.out | exact pw_below_drewN HB.out _)⟩; have n1_ : Aside0 (Kd.C (Kd.int .i64) w_2 A1 l1.length l1) := ⟨Kd.C_below HC1.out hb_⟩; have n2_ : Aside0 (Kd.C (Kd.int .i64) w_2 A2 l2.length l2) := ⟨Kd.C_below HC2.out hb_⟩; (try clear HB); (try clear HC1); (try clear HC2); have HB := n0_; have HC1 := n1_; have HC2 := n2_; clear n0_ n1_ n2_; clear hb_))
      go_wp2_with (first | ((with_reducible refine gate_callee (f := 83) rfl ?_); refine goesL_ (some 18) rfl rfl Try.func83 (by kernel_rfl) rfl #[] rfl (by (try simp only [List.map_toArray, List.map_cons, List.map_nil]); first | done | rfl) ?_; refine (spec_hoTable.calls 5108 _ _ hoTable_is).mono ?_; rintro e_ w_3 ⟨v_, rfl, hr_, hb_⟩; refine ⟨_, rfl, ?_⟩; obtain ⟨tb, c0, rfl, ht_, hz_⟩ := htab_of hr_; have ZZ := Aside0.mk (show w.heap.size ≤ tb from Nat.le_trans HB.out.size hz_); have HB2 := Aside0.mk (Hx.bb_below hb_ HB.out); clear HB HC1 HC2; have HB := HB2; clear HB2; have HT := Aside0.mk ht_; have LS1 := Aside0.mk (lst_of HC01.out HG0.out.1.1 HB.out ZZ.out); have LS2 := Aside0.mk (lst_of HC02.out (by have := HBL.out; have := HG0.out.1.1; omega) HB.out ZZ.out); clear ht_ hb_ hr_ hz_) | ((with_reducible refine gate_callee (f := 89) rfl ?_); refine goesL_ (some 22) rfl rfl Try.func89 (by kernel_rfl) rfl #[.slice (some ⟨tb, 0, none⟩) 5103 c0, .int .i64 a0, .slice A1 l1.length c1, .slice A2 l2.length c2] rfl (by (try simp only [List.map_toArray, List.map_cons, List.map_nil]); first | done | rfl) ?_; refine (shplay_of tb c0 a0 l1 l2 HG0.out.1 HG0.out.2.1 HP0.out HBL.out _ rfl A1 c1 HL1.out A2 c2 HL2.out _ LS1.out LS2.out HT.out).mono ?_; rintro e_ w_4 ⟨v_, rfl, hr_, ht_, hg_⟩; refine ⟨_, rfl, ?_⟩; have HR := Aside0.mk (Kd.R_lower hr_ HB.out.size); have HB5 := Aside0.mk (Hx.bb_grown HB.out hg_ ZZ.out); clear HB HT LS1 LS2 hg_ ht_ hr_; have HB := HB5; clear HB5))
      go_ret2
      exact ⟨_, rfl, HR.out, HB.out⟩


/-! ### spec_BrokenInHouses: function 45 -/
def spec_BrokenInHouses.l0 : Nat → Int → List (S104) → Int → Int → Option (Int × Bool)
  | 0, _, _, _, _ => none
  | k + 1, x10, x22, x23, x24 => if x24 < x23 then (if 0 ≤ x24 then (if x24 < (x22.length : Int) then (if (rd_T104 x22 x24).f2 = true then (spec_BrokenInHouses.l0 k (wrap64 (x10 + 1)) x22 x23 (wrap64 (x24 + 1))) else (spec_BrokenInHouses.l0 k x10 x22 x23 (wrap64 (x24 + 1)))) else (none)) else (none)) else (some (x10, true))
def spec_BrokenInHouses.f (k : Nat) (a0 : Int) (l1 : List Int) (l2 : List Int) : Option (Int × Bool) := (spec_PlayHouses.f a0 l1 l2).bind fun bt152 => (if bt152.2 = true then (spec_BrokenInHouses.l0 k 0 bt152.1 (bt152.1.length : Int) 0) else (some (0, false)))
theorem spec_BrokenInHouses.mono_l : ∀ k, (∀ y0 y1 y2 y3, LeO (spec_BrokenInHouses.l0 k y0 y1 y2 y3) (spec_BrokenInHouses.l0 (k + 1) y0 y1 y2 y3))
  | 0 => fun _ _ _ _ r h => by simp [spec_BrokenInHouses.l0] at h
  | k + 1 => by
    have ih0 := spec_BrokenInHouses.mono_l k
    · intro y0 y1 y2 y3
      unfold spec_BrokenInHouses.l0
      repeat' first
      | (with_reducible exact ih0 _ _ _ _)
      | (with_reducible exact LeO.refl _)
      | (with_reducible exact LeO.none _)
      | (with_reducible refine LeO.ite ?_ ?_)
      | (with_reducible refine LeO.bind ?_ (fun _ => ?_))
      | exact ih0 _ _ _ _
      | exact LeO.none _
      | refine LeO.ite ?_ ?_
      | refine LeO.bind ?_ (fun _ => ?_)
theorem spec_BrokenInHouses.mono : ∀ a0 a1 a2 k, LeO (spec_BrokenInHouses.f k a0 a1 a2) (spec_BrokenInHouses.f (k + 1) a0 a1 a2) := by
  intro a0 a1 a2 k
  have ih0 := spec_BrokenInHouses.mono_l k
  unfold spec_BrokenInHouses.f
  repeat' first
      | (with_reducible exact ih0 _ _ _ _)
      | (with_reducible exact LeO.refl _)
      | (with_reducible exact LeO.none _)
      | (with_reducible refine LeO.ite ?_ ?_)
      | (with_reducible refine LeO.bind ?_ (fun _ => ?_))
      | exact ih0 _ _ _ _
      | exact LeO.none _
      | refine LeO.ite ?_ ?_
      | refine LeO.bind ?_ (fun _ => ?_)
set_option maxHeartbeats 8000000 in
set_option maxRecDepth 100000 in
theorem spec_BrokenInHouses.calls (k : Nat) (a0 : Int) (A1 : Option Addr) (c1 : Nat) (l1 : List Int) (A2 : Option Addr) (c2 : Nat) (l2 : List Int) (r1 : Int) (r2 : Bool) (w : World) (hr1 : Kd.C (Kd.int .i64) w A1 l1.length l1) (hc1 : l1.length ≤ c1) (hr2 : Kd.C (Kd.int .i64) w A2 l2.length l2) (hc2 : l2.length ≤ c2) (h : spec_BrokenInHouses.f k a0 l1 l2 = some (r1, r2)) :
    Calls Try.prog 45 #[.int .i64 a0, .slice A1 l1.length c1, .slice A2 l2.length c2] w fun e w' => e = .returned (.tuple #[.int .i64 r1, .bool r2]) ∧ Below w.heap.size w w' := by
  have hu104 := Try.underlying104
  have HR1 := Aside0.mk hr1
  have HC1 := Aside0.mk hc1
  clear hr1 hc1
  have HR2 := Aside0.mk hr2
  have HC2 := Aside0.mk hc2
  clear hr2 hc2
  have HB := Aside0.mk (Below.refl w.heap.size w)
  have H : ((spec_PlayHouses.f a0 l1 l2).bind fun bt152 => (if bt152.2 = true then (spec_BrokenInHouses.l0 k 0 bt152.1 (bt152.1.length : Int) 0) else (some (0, false)))) = some (r1, r2) := h
  clear h
  replace H := Option.bind_eq_some_iff.mp H
  obtain ⟨⟨t152, t153⟩, A40, H⟩ := H
  replace H : (if t153 = true then (spec_BrokenInHouses.l0 k 0 t152 (t152.length : Int) 0) else (some (0, false))) = some (r1, r2) := H
  have A4 := Aside0.mk A40
  clear A40
  by_cases c5 : t153 = true
  · subst c5
    have H1 : (spec_BrokenInHouses.l0 k 0 t152 (t152.length : Int) 0) = some (r1, r2) := by rw [if_pos rfl] at H; exact H
    clear H
    have H := H1
    clear H1
    have H' := Aside0.mk H
    clear H
    go_enter Try.func45, Try.ntmps45
    go_wp2_with (first | ((with_reducible refine gate_callee (f := 47) rfl ?_); refine goesL_ (some 17) rfl rfl Try.func47 (by kernel_rfl) rfl #[.int .i64 a0, .slice A1 l1.length c1, .slice A2 l2.length c2] rfl (by (try simp only [List.map_toArray, List.map_cons, List.map_nil]); first | done | rfl | (simp only [List.length_drop, List.length_take]; rfl)) ?_; (with_reducible refine (spec_PlayHouses.calls a0 _ _ l1 _ _ l2 t152 true _ ?side1 ?side2 ?side3 ?side4 A4.out).mono ?_); (case side1 => repeat (first | exact HR1.out | (with_reducible refine Kd.C_alloc ?_ _) | (with_reducible refine Kd.C_drewN ?_ _) | (with_reducible refine Kd.C_drew ?_))); (case side2 => exact HC1.out); (case side3 => repeat (first | exact HR2.out | (with_reducible refine Kd.C_alloc ?_ _) | (with_reducible refine Kd.C_drewN ?_ _) | (with_reducible refine Kd.C_drew ?_))); (case side4 => exact HC2.out); rintro e w6 ⟨v154, rfl, ho0, hb⟩; refine ⟨_, rfl, ?_⟩; have n0_ := Aside0.mk (Kd.R_lower ho0 (below_size (by repeat (first | (with_reducible first | exact HB.out | apply below_alloc | apply pw_below_drewN | apply below_drew1) | exact HB.out)))); have n1_ := Aside0.mk (below_step (by repeat (first | (with_reducible first | exact HB.out | apply below_alloc | apply pw_below_drewN | apply below_drew1) | exact HB.out)) hb); clear HB; have HO155 := n0_; have HB := n1_; clear n0_ n1_; (try clear hb); (try clear hb2); (try clear hk); (try clear hi); (try clear ho0); obtain ⟨Ao7, co7, eo7⟩ := Kd.R_slice HO155.out; subst eo7))
    go_loopg [10, 24] k (fun kq v10 v24 w' => ∃ (x10_1 : Int) (x24_1 : Int), v10 = .int .i64 x10_1 ∧ v24 = .int .i64 x24_1 ∧ Aside0 (spec_BrokenInHouses.l0 kq x10_1 t152 (t152.length : Int) x24_1 = some (r1, r2)) ∧ Aside0 (kq ≤ k) ∧ Aside0 (Kd.R k104 104 w' w.heap.size (fun _ => True) (.slice Ao7 t152.length co7) t152) ∧ Aside0 (Below w.heap.size w w'))
    case atStart => exact ⟨(0), (0), (by first | rfl | (simp; done) | (simp [*]; done)), (by first | rfl | (simp; done) | (simp [*]; done)), H', ⟨Nat.le_refl _⟩, ⟨by (with_reducible repeat (first | apply Kd.R_alloc | apply Kd.R_drewN | apply Kd.R_drew)); exact HO155.out⟩, ⟨by repeat (first | (with_reducible first | exact HB.out | apply below_alloc | apply pw_below_drewN | apply below_drew1) | exact HB.out)⟩⟩
    case round =>
      clear H'
      try clear c1
      try clear c2
      try clear p2
      try clear c4
      try clear c5
      obtain ⟨x10_1, x24_1, rfl, rfl, HA, HK1, HO_22, HB⟩ := hrel
      cases gk with
      | zero => exact absurd HA.out (by simp [spec_BrokenInHouses.l0])
      | succ k1 =>
        have H := HA.out
        clear HA
        simp only [spec_BrokenInHouses.l0] at H
        by_cases c8 : x24_1 < (t152.length : Int)
        · rw [if_pos c8] at H
          have c8b0 : decide (x24_1 < (t152.length : Int)) = true := decide_eq_true c8
          clear c8
          by_cases c9 : 0 ≤ x24_1
          · rw [if_pos c9] at H
            have c9b0 : decide (0 ≤ x24_1) = true := decide_eq_true c9
            clear c9
            by_cases c10 : x24_1 < (t152.length : Int)
            · rw [if_pos c10] at H
              have c10b0 : decide (x24_1 < (t152.length : Int)) = true := decide_eq_true c10
              clear c10
              obtain ⟨bq11, hbq11⟩ : ∃ b_ : Bool, b_ = ((rd_T104 t152 x24_1).f2) := ⟨_, rfl⟩
              replace H : (if bq11 = true then (spec_BrokenInHouses.l0 k1 (wrap64 (x10_1 + 1)) t152 (t152.length : Int) (wrap64 (x24_1 + 1))) else (spec_BrokenInHouses.l0 k1 x10_1 t152 (t152.length : Int) (wrap64 (x24_1 + 1)))) = some (r1, r2) := by rw [← hbq11] at H; exact H
              have Nbq11 := Aside0.mk hbq11
              clear hbq11
              by_cases c12 : bq11 = true
              · subst c12
                have H1 : (spec_BrokenInHouses.l0 k1 (wrap64 (x10_1 + 1)) t152 (t152.length : Int) (wrap64 (x24_1 + 1))) = some (r1, r2) := by rw [if_pos rfl] at H; exact H
                clear H
                have H := H1
                clear H1
                have H' := Aside0.mk H
                clear H
                have p156 : 0 ≤ (x24_1 : Int) := of_decide_eq_true (by first | (with_reducible assumption) | assumption)
                have q156 : x24_1 < (t152.length : Int) := of_decide_eq_true (by first | (with_reducible assumption) | assumption)
                obtain ⟨ad156, e156, hx156_0, hx156_1, hx156_2⟩ := at_T104 (Kd.R_reads' HO_22.out).2.2 x24_1 p156 q156
                (try rw [← Nbq11.out] at hx156_2)
                cases e156
                replace p156 := eq_true p156
                replace q156 := eq_true q156
                go_wp2_with (first | ((with_reducible refine gate_dst (N := 12) rfl ?_); refine box_event ?hg (N := 12) ?hd (cs := #[.int .i64 0, .int .i64 0, .bool false]) (t := 104) ?hr ?_; (case hd => rfl); (case hg => rfl); (case hr => first | (go_simp; done) | (go_simp; rfl)); intro gb157 hg w13 hbox hb; have n0_ := Aside0.mk (Kd.R_below (Kd.R_elderB (by (with_reducible repeat (first | apply Kd.R_alloc | apply Kd.R_drewN | apply Kd.R_drew)); exact HO_22.out) gb157 (Nat.le_of_eq hg.symm)) hb); have n1_ := Aside0.mk (below_step (by repeat (first | (with_reducible first | exact HB.out | apply below_alloc | apply pw_below_drewN | apply below_drew1) | exact HB.out)) hb); have n2_ := Aside0.mk (hbox); have n3_ := Aside0.mk ((by rw [hg]; exact (below_size (by repeat (first | (with_reducible first | exact HB.out | apply below_alloc | apply pw_below_drewN | apply below_drew1) | exact HB.out))) : w.heap.size ≤ gb157)); have n4_ := Aside0.mk ((by rw [hg]; exact (below_size (by repeat (first | (with_reducible first | exact HB.out | apply below_alloc | apply pw_below_drewN | apply below_drew1) | exact HB.out))) : w.heap.size ≤ gb157)); clear HO_22; clear HB; have HO_22 := n0_; have HB := n1_; have BK157 := n2_; have GW157 := n3_; have GE157 := n4_; clear n0_ n1_ n2_ n3_ n4_; clear hb hbox hg; have hcz14_0 : w13.cell? ⟨gb157, 0, none⟩ = some (.int .i64 0) := (blk_cell BK157.out 0).trans rfl; have hcz14_1 : w13.cell? ⟨gb157, 1, none⟩ = some (.int .i64 0) := (blk_cell BK157.out 1).trans rfl; have hcz14_2 : w13.cell? ⟨gb157, 2, none⟩ = some (.bool false) := (blk_cell BK157.out 2).trans rfl; have hfz14_0 := blk_frozen BK157.out 0; have hfz14_1 := blk_frozen BK157.out 1; have hfz14_2 := blk_frozen BK157.out 2))
                go_roundg k1
                case measure => have := HK1.out; omega
                case rel => exact ⟨(wrap64 (x10_1 + 1)), (wrap64 (x24_1 + 1)), (by first | rfl | (simp; done) | (simp [*]; done)), (by first | rfl | (simp; done) | (simp [*]; done)), H', ⟨by have := HK1.out; omega⟩, ⟨by (with_reducible repeat (first | apply Kd.R_alloc | apply Kd.R_drewN | apply Kd.R_drew)); exact Kd.R_mono (Kd.R_far (p := ⟨gb157, 2, none⟩) (Kd.R_far (p := ⟨gb157, 1, none⟩) (Kd.R_far (p := ⟨gb157, 0, none⟩) (Kd.R_mono HO_22.out (fun k_ hk => (⟨hk, hk.2⟩ : _ ∧ k_ ≠ gb157))) (fun _ hk => hk.2) (.int .i64 ((rd_T104 t152 x24_1).f0))) (fun _ hk => hk.2) (.int .i64 ((rd_T104 t152 x24_1).f1))) (fun _ hk => hk.2) (.bool true)) (fun _ hk => trivial)⟩, ⟨by repeat (first | (with_reducible first | exact HB.out | apply below_alloc | apply pw_below_drewN | apply below_drew1 | refine below_set ?_ GE157.out) | exact HB.out)⟩⟩
              · replace c12 := Bool.eq_false_iff.mpr c12
                subst c12
                have H1 : (spec_BrokenInHouses.l0 k1 x10_1 t152 (t152.length : Int) (wrap64 (x24_1 + 1))) = some (r1, r2) := by rw [if_neg (show ¬ (false = true) by decide)] at H; exact H
                clear H
                have H := H1
                clear H1
                have H' := Aside0.mk H
                clear H
                have p156 : 0 ≤ (x24_1 : Int) := of_decide_eq_true (by first | (with_reducible assumption) | assumption)
                have q156 : x24_1 < (t152.length : Int) := of_decide_eq_true (by first | (with_reducible assumption) | assumption)
                obtain ⟨ad156, e156, hx156_0, hx156_1, hx156_2⟩ := at_T104 (Kd.R_reads' HO_22.out).2.2 x24_1 p156 q156
                (try rw [← Nbq11.out] at hx156_2)
                cases e156
                replace p156 := eq_true p156
                replace q156 := eq_true q156
                go_wp2_with (first | ((with_reducible refine gate_dst (N := 12) rfl ?_); refine box_event ?hg (N := 12) ?hd (cs := #[.int .i64 0, .int .i64 0, .bool false]) (t := 104) ?hr ?_; (case hd => rfl); (case hg => rfl); (case hr => first | (go_simp; done) | (go_simp; rfl)); intro gb157 hg w15 hbox hb; have n0_ := Aside0.mk (Kd.R_below (Kd.R_elderB (by (with_reducible repeat (first | apply Kd.R_alloc | apply Kd.R_drewN | apply Kd.R_drew)); exact HO_22.out) gb157 (Nat.le_of_eq hg.symm)) hb); have n1_ := Aside0.mk (below_step (by repeat (first | (with_reducible first | exact HB.out | apply below_alloc | apply pw_below_drewN | apply below_drew1) | exact HB.out)) hb); have n2_ := Aside0.mk (hbox); have n3_ := Aside0.mk ((by rw [hg]; exact (below_size (by repeat (first | (with_reducible first | exact HB.out | apply below_alloc | apply pw_below_drewN | apply below_drew1) | exact HB.out))) : w.heap.size ≤ gb157)); have n4_ := Aside0.mk ((by rw [hg]; exact (below_size (by repeat (first | (with_reducible first | exact HB.out | apply below_alloc | apply pw_below_drewN | apply below_drew1) | exact HB.out))) : w.heap.size ≤ gb157)); clear HO_22; clear HB; have HO_22 := n0_; have HB := n1_; have BK157 := n2_; have GW157 := n3_; have GE157 := n4_; clear n0_ n1_ n2_ n3_ n4_; clear hb hbox hg; have hcz16_0 : w15.cell? ⟨gb157, 0, none⟩ = some (.int .i64 0) := (blk_cell BK157.out 0).trans rfl; have hcz16_1 : w15.cell? ⟨gb157, 1, none⟩ = some (.int .i64 0) := (blk_cell BK157.out 1).trans rfl; have hcz16_2 : w15.cell? ⟨gb157, 2, none⟩ = some (.bool false) := (blk_cell BK157.out 2).trans rfl; have hfz16_0 := blk_frozen BK157.out 0; have hfz16_1 := blk_frozen BK157.out 1; have hfz16_2 := blk_frozen BK157.out 2))
                go_roundg k1
                case measure => have := HK1.out; omega
                case rel => exact ⟨(x10_1), (wrap64 (x24_1 + 1)), (by first | rfl | (simp; done) | (simp [*]; done)), (by first | rfl | (simp; done) | (simp [*]; done)), H', ⟨by have := HK1.out; omega⟩, ⟨by (with_reducible repeat (first | apply Kd.R_alloc | apply Kd.R_drewN | apply Kd.R_drew)); exact Kd.R_mono (Kd.R_far (p := ⟨gb157, 2, none⟩) (Kd.R_far (p := ⟨gb157, 1, none⟩) (Kd.R_far (p := ⟨gb157, 0, none⟩) (Kd.R_mono HO_22.out (fun k_ hk => (⟨hk, hk.2⟩ : _ ∧ k_ ≠ gb157))) (fun _ hk => hk.2) (.int .i64 ((rd_T104 t152 x24_1).f0))) (fun _ hk => hk.2) (.int .i64 ((rd_T104 t152 x24_1).f1))) (fun _ hk => hk.2) (.bool false)) (fun _ hk => trivial)⟩, ⟨by repeat (first | (with_reducible first | exact HB.out | apply below_alloc | apply pw_below_drewN | apply below_drew1 | refine below_set ?_ GE157.out) | exact HB.out)⟩⟩
            · rw [if_neg c10] at H
              exact absurd H (by simp)
          · rw [if_neg c9] at H
            exact absurd H (by simp)
        · rw [if_neg c8] at H
          have c8b0 : decide (x24_1 < (t152.length : Int)) = false := decide_eq_false c8
          clear c8
          simp only [Option.some.injEq, Prod.mk.injEq] at H
          obtain ⟨rfl, rfl⟩ := H
          go_wp2
          go_ret2
          exact ⟨by first | rfl | (simp [errW_none, errW_some] <;> rfl) | (simp [*, errW_none, errW_some] <;> rfl), by repeat (first | (with_reducible first | exact HB.out | apply below_alloc | apply pw_below_drewN | apply below_drew1) | exact HB.out)⟩
  · replace c5 := Bool.eq_false_iff.mpr c5
    subst c5
    have H1 : (some (0, false)) = some (r1, r2) := by rw [if_neg (show ¬ (false = true) by decide)] at H; exact H
    clear H
    have H := H1
    clear H1
    simp only [Option.some.injEq, Prod.mk.injEq] at H
    obtain ⟨rfl, rfl⟩ := H
    go_enter Try.func45, Try.ntmps45
    go_wp2_with (first | ((with_reducible refine gate_callee (f := 47) rfl ?_); refine goesL_ (some 17) rfl rfl Try.func47 (by kernel_rfl) rfl #[.int .i64 a0, .slice A1 l1.length c1, .slice A2 l2.length c2] rfl (by (try simp only [List.map_toArray, List.map_cons, List.map_nil]); first | done | rfl | (simp only [List.length_drop, List.length_take]; rfl)) ?_; (with_reducible refine (spec_PlayHouses.calls a0 _ _ l1 _ _ l2 t152 false _ ?side1 ?side2 ?side3 ?side4 A4.out).mono ?_); (case side1 => repeat (first | exact HR1.out | (with_reducible refine Kd.C_alloc ?_ _) | (with_reducible refine Kd.C_drewN ?_ _) | (with_reducible refine Kd.C_drew ?_))); (case side2 => exact HC1.out); (case side3 => repeat (first | exact HR2.out | (with_reducible refine Kd.C_alloc ?_ _) | (with_reducible refine Kd.C_drewN ?_ _) | (with_reducible refine Kd.C_drew ?_))); (case side4 => exact HC2.out); rintro e w17 ⟨v154, rfl, ho0, hb⟩; refine ⟨_, rfl, ?_⟩; have n0_ := Aside0.mk (Kd.R_lower ho0 (below_size (by repeat (first | (with_reducible first | exact HB.out | apply below_alloc | apply pw_below_drewN | apply below_drew1) | exact HB.out)))); have n1_ := Aside0.mk (below_step (by repeat (first | (with_reducible first | exact HB.out | apply below_alloc | apply pw_below_drewN | apply below_drew1) | exact HB.out)) hb); clear HB; have HO155 := n0_; have HB := n1_; clear n0_ n1_; (try clear hb); (try clear hb2); (try clear hk); (try clear hi); (try clear ho0)))
    go_ret2
    exact ⟨by first | rfl | (simp [errW_none, errW_some] <;> rfl) | (simp [*, errW_none, errW_some] <;> rfl), by repeat (first | (with_reducible first | exact HB.out | apply below_alloc | apply pw_below_drewN | apply below_drew1) | exact HB.out)⟩

/-! ### impl_BrokenInHouses: function 46 -/
def impl_BrokenInHouses.l0 : Nat → Bool → Int → List (S104) → Int → Int → Option (Int × Bool)
  | 0, _, _, _, _, _ => none
  | k + 1, x9, x10, x20, x21, x22 => if x22 < x21 then (if 0 ≤ x22 then (if x22 < (x20.length : Int) then (if (rd_T104 x20 x22).f2 = true then (impl_BrokenInHouses.l0 k x9 (wrap64 (x10 + 1)) x20 x21 (wrap64 (x22 + 1))) else (impl_BrokenInHouses.l0 k x9 x10 x20 x21 (wrap64 (x22 + 1)))) else (none)) else (none)) else (some (x10, x9))
def impl_BrokenInHouses.f (k : Nat) (a0 : Int) (l1 : List Int) (l2 : List Int) : Option (Int × Bool) := (impl_PlayHouses.f a0 l1 l2).bind fun bt158 => (impl_BrokenInHouses.l0 k bt158.2 0 bt158.1 (bt158.1.length : Int) 0)
theorem impl_BrokenInHouses.mono_l : ∀ k, (∀ y0 y1 y2 y3 y4, LeO (impl_BrokenInHouses.l0 k y0 y1 y2 y3 y4) (impl_BrokenInHouses.l0 (k + 1) y0 y1 y2 y3 y4))
  | 0 => fun _ _ _ _ _ r h => by simp [impl_BrokenInHouses.l0] at h
  | k + 1 => by
    have ih0 := impl_BrokenInHouses.mono_l k
    · intro y0 y1 y2 y3 y4
      unfold impl_BrokenInHouses.l0
      repeat' first
      | (with_reducible exact ih0 _ _ _ _ _)
      | (with_reducible exact LeO.refl _)
      | (with_reducible exact LeO.none _)
      | (with_reducible refine LeO.ite ?_ ?_)
      | (with_reducible refine LeO.bind ?_ (fun _ => ?_))
      | exact ih0 _ _ _ _ _
      | exact LeO.none _
      | refine LeO.ite ?_ ?_
      | refine LeO.bind ?_ (fun _ => ?_)
theorem impl_BrokenInHouses.mono : ∀ a0 a1 a2 k, LeO (impl_BrokenInHouses.f k a0 a1 a2) (impl_BrokenInHouses.f (k + 1) a0 a1 a2) := by
  intro a0 a1 a2 k
  have ih0 := impl_BrokenInHouses.mono_l k
  unfold impl_BrokenInHouses.f
  repeat' first
      | (with_reducible exact ih0 _ _ _ _ _)
      | (with_reducible exact LeO.refl _)
      | (with_reducible exact LeO.none _)
      | (with_reducible refine LeO.ite ?_ ?_)
      | (with_reducible refine LeO.bind ?_ (fun _ => ?_))
      | exact ih0 _ _ _ _ _
      | exact LeO.none _
      | refine LeO.ite ?_ ?_
      | refine LeO.bind ?_ (fun _ => ?_)
set_option maxHeartbeats 8000000 in
set_option maxRecDepth 100000 in
theorem impl_BrokenInHouses.calls (k : Nat) (a0 : Int) (A1 : Option Addr) (c1 : Nat) (l1 : List Int) (A2 : Option Addr) (c2 : Nat) (l2 : List Int) (r1 : Int) (r2 : Bool) (w : World) (hr1 : Kd.C (Kd.int .i64) w A1 l1.length l1) (hc1 : l1.length ≤ c1) (hr2 : Kd.C (Kd.int .i64) w A2 l2.length l2) (hc2 : l2.length ≤ c2) (h : impl_BrokenInHouses.f k a0 l1 l2 = some (r1, r2)) :
    Calls Try.prog 46 #[.int .i64 a0, .slice A1 l1.length c1, .slice A2 l2.length c2] w fun e w' => e = .returned (.tuple #[.int .i64 r1, .bool r2]) ∧ Below w.heap.size w w' := by
  have hu104 := Try.underlying104
  have HR1 := Aside0.mk hr1
  have HC1 := Aside0.mk hc1
  clear hr1 hc1
  have HR2 := Aside0.mk hr2
  have HC2 := Aside0.mk hc2
  clear hr2 hc2
  have HB := Aside0.mk (Below.refl w.heap.size w)
  have H : ((impl_PlayHouses.f a0 l1 l2).bind fun bt158 => (impl_BrokenInHouses.l0 k bt158.2 0 bt158.1 (bt158.1.length : Int) 0)) = some (r1, r2) := h
  clear h
  replace H := Option.bind_eq_some_iff.mp H
  obtain ⟨⟨t158, t159⟩, A40, H⟩ := H
  replace H : (impl_BrokenInHouses.l0 k t159 0 t158 (t158.length : Int) 0) = some (r1, r2) := H
  have A4 := Aside0.mk A40
  clear A40
  have H' := Aside0.mk H
  clear H
  go_enter Try.func46, Try.ntmps46
  go_wp2_with (first | ((with_reducible refine gate_callee (f := 48) rfl ?_); refine goesL_ (some 17) rfl rfl Try.func48 (by kernel_rfl) rfl #[.int .i64 a0, .slice A1 l1.length c1, .slice A2 l2.length c2] rfl (by (try simp only [List.map_toArray, List.map_cons, List.map_nil]); first | done | rfl | (simp only [List.length_drop, List.length_take]; rfl)) ?_; (with_reducible refine (impl_PlayHouses.calls a0 _ _ l1 _ _ l2 t158 t159 _ ?side1 ?side2 ?side3 ?side4 A4.out).mono ?_); (case side1 => repeat (first | exact HR1.out | (with_reducible refine Kd.C_alloc ?_ _) | (with_reducible refine Kd.C_drewN ?_ _) | (with_reducible refine Kd.C_drew ?_))); (case side2 => exact HC1.out); (case side3 => repeat (first | exact HR2.out | (with_reducible refine Kd.C_alloc ?_ _) | (with_reducible refine Kd.C_drewN ?_ _) | (with_reducible refine Kd.C_drew ?_))); (case side4 => exact HC2.out); rintro e w5 ⟨v160, rfl, ho0, hb⟩; refine ⟨_, rfl, ?_⟩; have n0_ := Aside0.mk (Kd.R_lower ho0 (below_size (by repeat (first | (with_reducible first | exact HB.out | apply below_alloc | apply pw_below_drewN | apply below_drew1) | exact HB.out)))); have n1_ := Aside0.mk (below_step (by repeat (first | (with_reducible first | exact HB.out | apply below_alloc | apply pw_below_drewN | apply below_drew1) | exact HB.out)) hb); clear HB; have HO161 := n0_; have HB := n1_; clear n0_ n1_; (try clear hb); (try clear hb2); (try clear hk); (try clear hi); (try clear ho0); obtain ⟨Ao6, co6, eo6⟩ := Kd.R_slice HO161.out; subst eo6))
  go_loopg [10, 22] k (fun kq v10 v22 w' => ∃ (x10_1 : Int) (x22_1 : Int), v10 = .int .i64 x10_1 ∧ v22 = .int .i64 x22_1 ∧ Aside0 (impl_BrokenInHouses.l0 kq t159 x10_1 t158 (t158.length : Int) x22_1 = some (r1, r2)) ∧ Aside0 (kq ≤ k) ∧ Aside0 (Kd.R k104 104 w' w.heap.size (fun _ => True) (.slice Ao6 t158.length co6) t158) ∧ Aside0 (Below w.heap.size w w'))
  case atStart => exact ⟨(0), (0), (by first | rfl | (simp; done) | (simp [*]; done)), (by first | rfl | (simp; done) | (simp [*]; done)), H', ⟨Nat.le_refl _⟩, ⟨by (with_reducible repeat (first | apply Kd.R_alloc | apply Kd.R_drewN | apply Kd.R_drew)); exact HO161.out⟩, ⟨by repeat (first | (with_reducible first | exact HB.out | apply below_alloc | apply pw_below_drewN | apply below_drew1) | exact HB.out)⟩⟩
  case round =>
    clear H'
    try clear c1
    try clear c2
    try clear p2
    try clear c4
    obtain ⟨x10_1, x22_1, rfl, rfl, HA, HK1, HO_20, HB⟩ := hrel
    cases gk with
    | zero => exact absurd HA.out (by simp [impl_BrokenInHouses.l0])
    | succ k1 =>
      have H := HA.out
      clear HA
      simp only [impl_BrokenInHouses.l0] at H
      by_cases c7 : x22_1 < (t158.length : Int)
      · rw [if_pos c7] at H
        have c7b0 : decide (x22_1 < (t158.length : Int)) = true := decide_eq_true c7
        clear c7
        by_cases c8 : 0 ≤ x22_1
        · rw [if_pos c8] at H
          have c8b0 : decide (0 ≤ x22_1) = true := decide_eq_true c8
          clear c8
          by_cases c9 : x22_1 < (t158.length : Int)
          · rw [if_pos c9] at H
            have c9b0 : decide (x22_1 < (t158.length : Int)) = true := decide_eq_true c9
            clear c9
            obtain ⟨bq10, hbq10⟩ : ∃ b_ : Bool, b_ = ((rd_T104 t158 x22_1).f2) := ⟨_, rfl⟩
            replace H : (if bq10 = true then (impl_BrokenInHouses.l0 k1 t159 (wrap64 (x10_1 + 1)) t158 (t158.length : Int) (wrap64 (x22_1 + 1))) else (impl_BrokenInHouses.l0 k1 t159 x10_1 t158 (t158.length : Int) (wrap64 (x22_1 + 1)))) = some (r1, r2) := by rw [← hbq10] at H; exact H
            have Nbq10 := Aside0.mk hbq10
            clear hbq10
            by_cases c11 : bq10 = true
            · subst c11
              have H1 : (impl_BrokenInHouses.l0 k1 t159 (wrap64 (x10_1 + 1)) t158 (t158.length : Int) (wrap64 (x22_1 + 1))) = some (r1, r2) := by rw [if_pos rfl] at H; exact H
              clear H
              have H := H1
              clear H1
              have H' := Aside0.mk H
              clear H
              have p162 : 0 ≤ (x22_1 : Int) := of_decide_eq_true (by first | (with_reducible assumption) | assumption)
              have q162 : x22_1 < (t158.length : Int) := of_decide_eq_true (by first | (with_reducible assumption) | assumption)
              obtain ⟨ad162, e162, hx162_0, hx162_1, hx162_2⟩ := at_T104 (Kd.R_reads' HO_20.out).2.2 x22_1 p162 q162
              (try rw [← Nbq10.out] at hx162_2)
              cases e162
              replace p162 := eq_true p162
              replace q162 := eq_true q162
              go_wp2_with (first | ((with_reducible refine gate_dst (N := 12) rfl ?_); refine box_event ?hg (N := 12) ?hd (cs := #[.int .i64 0, .int .i64 0, .bool false]) (t := 104) ?hr ?_; (case hd => rfl); (case hg => rfl); (case hr => first | (go_simp; done) | (go_simp; rfl)); intro gb163 hg w12 hbox hb; have n0_ := Aside0.mk (Kd.R_below (Kd.R_elderB (by (with_reducible repeat (first | apply Kd.R_alloc | apply Kd.R_drewN | apply Kd.R_drew)); exact HO_20.out) gb163 (Nat.le_of_eq hg.symm)) hb); have n1_ := Aside0.mk (below_step (by repeat (first | (with_reducible first | exact HB.out | apply below_alloc | apply pw_below_drewN | apply below_drew1) | exact HB.out)) hb); have n2_ := Aside0.mk (hbox); have n3_ := Aside0.mk ((by rw [hg]; exact (below_size (by repeat (first | (with_reducible first | exact HB.out | apply below_alloc | apply pw_below_drewN | apply below_drew1) | exact HB.out))) : w.heap.size ≤ gb163)); have n4_ := Aside0.mk ((by rw [hg]; exact (below_size (by repeat (first | (with_reducible first | exact HB.out | apply below_alloc | apply pw_below_drewN | apply below_drew1) | exact HB.out))) : w.heap.size ≤ gb163)); clear HO_20; clear HB; have HO_20 := n0_; have HB := n1_; have BK163 := n2_; have GW163 := n3_; have GE163 := n4_; clear n0_ n1_ n2_ n3_ n4_; clear hb hbox hg; have hcz13_0 : w12.cell? ⟨gb163, 0, none⟩ = some (.int .i64 0) := (blk_cell BK163.out 0).trans rfl; have hcz13_1 : w12.cell? ⟨gb163, 1, none⟩ = some (.int .i64 0) := (blk_cell BK163.out 1).trans rfl; have hcz13_2 : w12.cell? ⟨gb163, 2, none⟩ = some (.bool false) := (blk_cell BK163.out 2).trans rfl; have hfz13_0 := blk_frozen BK163.out 0; have hfz13_1 := blk_frozen BK163.out 1; have hfz13_2 := blk_frozen BK163.out 2))
              go_roundg k1
              case measure => have := HK1.out; omega
              case rel => exact ⟨(wrap64 (x10_1 + 1)), (wrap64 (x22_1 + 1)), (by first | rfl | (simp; done) | (simp [*]; done)), (by first | rfl | (simp; done) | (simp [*]; done)), H', ⟨by have := HK1.out; omega⟩, ⟨by (with_reducible repeat (first | apply Kd.R_alloc | apply Kd.R_drewN | apply Kd.R_drew)); exact Kd.R_mono (Kd.R_far (p := ⟨gb163, 2, none⟩) (Kd.R_far (p := ⟨gb163, 1, none⟩) (Kd.R_far (p := ⟨gb163, 0, none⟩) (Kd.R_mono HO_20.out (fun k_ hk => (⟨hk, hk.2⟩ : _ ∧ k_ ≠ gb163))) (fun _ hk => hk.2) (.int .i64 ((rd_T104 t158 x22_1).f0))) (fun _ hk => hk.2) (.int .i64 ((rd_T104 t158 x22_1).f1))) (fun _ hk => hk.2) (.bool true)) (fun _ hk => trivial)⟩, ⟨by repeat (first | (with_reducible first | exact HB.out | apply below_alloc | apply pw_below_drewN | apply below_drew1 | refine below_set ?_ GE163.out) | exact HB.out)⟩⟩
            · replace c11 := Bool.eq_false_iff.mpr c11
              subst c11
              have H1 : (impl_BrokenInHouses.l0 k1 t159 x10_1 t158 (t158.length : Int) (wrap64 (x22_1 + 1))) = some (r1, r2) := by rw [if_neg (show ¬ (false = true) by decide)] at H; exact H
              clear H
              have H := H1
              clear H1
              have H' := Aside0.mk H
              clear H
              have p162 : 0 ≤ (x22_1 : Int) := of_decide_eq_true (by first | (with_reducible assumption) | assumption)
              have q162 : x22_1 < (t158.length : Int) := of_decide_eq_true (by first | (with_reducible assumption) | assumption)
              obtain ⟨ad162, e162, hx162_0, hx162_1, hx162_2⟩ := at_T104 (Kd.R_reads' HO_20.out).2.2 x22_1 p162 q162
              (try rw [← Nbq10.out] at hx162_2)
              cases e162
              replace p162 := eq_true p162
              replace q162 := eq_true q162
              go_wp2_with (first | ((with_reducible refine gate_dst (N := 12) rfl ?_); refine box_event ?hg (N := 12) ?hd (cs := #[.int .i64 0, .int .i64 0, .bool false]) (t := 104) ?hr ?_; (case hd => rfl); (case hg => rfl); (case hr => first | (go_simp; done) | (go_simp; rfl)); intro gb163 hg w14 hbox hb; have n0_ := Aside0.mk (Kd.R_below (Kd.R_elderB (by (with_reducible repeat (first | apply Kd.R_alloc | apply Kd.R_drewN | apply Kd.R_drew)); exact HO_20.out) gb163 (Nat.le_of_eq hg.symm)) hb); have n1_ := Aside0.mk (below_step (by repeat (first | (with_reducible first | exact HB.out | apply below_alloc | apply pw_below_drewN | apply below_drew1) | exact HB.out)) hb); have n2_ := Aside0.mk (hbox); have n3_ := Aside0.mk ((by rw [hg]; exact (below_size (by repeat (first | (with_reducible first | exact HB.out | apply below_alloc | apply pw_below_drewN | apply below_drew1) | exact HB.out))) : w.heap.size ≤ gb163)); have n4_ := Aside0.mk ((by rw [hg]; exact (below_size (by repeat (first | (with_reducible first | exact HB.out | apply below_alloc | apply pw_below_drewN | apply below_drew1) | exact HB.out))) : w.heap.size ≤ gb163)); clear HO_20; clear HB; have HO_20 := n0_; have HB := n1_; have BK163 := n2_; have GW163 := n3_; have GE163 := n4_; clear n0_ n1_ n2_ n3_ n4_; clear hb hbox hg; have hcz15_0 : w14.cell? ⟨gb163, 0, none⟩ = some (.int .i64 0) := (blk_cell BK163.out 0).trans rfl; have hcz15_1 : w14.cell? ⟨gb163, 1, none⟩ = some (.int .i64 0) := (blk_cell BK163.out 1).trans rfl; have hcz15_2 : w14.cell? ⟨gb163, 2, none⟩ = some (.bool false) := (blk_cell BK163.out 2).trans rfl; have hfz15_0 := blk_frozen BK163.out 0; have hfz15_1 := blk_frozen BK163.out 1; have hfz15_2 := blk_frozen BK163.out 2))
              go_roundg k1
              case measure => have := HK1.out; omega
              case rel => exact ⟨(x10_1), (wrap64 (x22_1 + 1)), (by first | rfl | (simp; done) | (simp [*]; done)), (by first | rfl | (simp; done) | (simp [*]; done)), H', ⟨by have := HK1.out; omega⟩, ⟨by (with_reducible repeat (first | apply Kd.R_alloc | apply Kd.R_drewN | apply Kd.R_drew)); exact Kd.R_mono (Kd.R_far (p := ⟨gb163, 2, none⟩) (Kd.R_far (p := ⟨gb163, 1, none⟩) (Kd.R_far (p := ⟨gb163, 0, none⟩) (Kd.R_mono HO_20.out (fun k_ hk => (⟨hk, hk.2⟩ : _ ∧ k_ ≠ gb163))) (fun _ hk => hk.2) (.int .i64 ((rd_T104 t158 x22_1).f0))) (fun _ hk => hk.2) (.int .i64 ((rd_T104 t158 x22_1).f1))) (fun _ hk => hk.2) (.bool false)) (fun _ hk => trivial)⟩, ⟨by repeat (first | (with_reducible first | exact HB.out | apply below_alloc | apply pw_below_drewN | apply below_drew1 | refine below_set ?_ GE163.out) | exact HB.out)⟩⟩
          · rw [if_neg c9] at H
            exact absurd H (by simp)
        · rw [if_neg c8] at H
          exact absurd H (by simp)
      · rw [if_neg c7] at H
        have c7b0 : decide (x22_1 < (t158.length : Int)) = false := decide_eq_false c7
        clear c7
        simp only [Option.some.injEq, Prod.mk.injEq] at H
        obtain ⟨rfl, rfl⟩ := H
        go_wp2
        go_ret2
        exact ⟨by first | rfl | (simp [errW_none, errW_some] <;> rfl) | (simp [*, errW_none, errW_some] <;> rfl), by repeat (first | (with_reducible first | exact HB.out | apply below_alloc | apply pw_below_drewN | apply below_drew1) | exact HB.out)⟩

end Go.Proofs.Ytoomacelbhojhaa.J
